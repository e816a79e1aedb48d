/- Lemmas, part QBA. Conditions: none. -/
import Derived.Test.YtijechcadlklhaaQABB
set_option linter.unusedVariables false
namespace Go.Proofs.Ytijechcadlklhaa
open Go.Sy
theorem ty.sz49 : tsz Try.prog 49 = some 4 := by kernel_rfl
theorem ty.agg49 : tagg Try.prog 49 = some true := by kernel_rfl
theorem ty.zero49 : tzero Try.prog 49 = some (SV.d (.lit (.int .i64 0)) :: (SV.d (.lit (.int .i64 0)) :: (SV.d (.lit (.int .i64 0)) :: (SV.d (.lit (.int .i64 0)) :: [])))) := by kernel_rfl
theorem ty.fld49_0 : tfld Try.prog 49 0 = some (0, 2) := by kernel_rfl
theorem ty.fld49_1 : tfld Try.prog 49 1 = some (2, 1) := by kernel_rfl
theorem ty.fld49_2 : tfld Try.prog 49 2 = some (3, 1) := by kernel_rfl
theorem ty.pl49 : tplaces Try.prog 49 = some (fun i => ([(0, 2), (2, 1), (3, 1)] : List (Nat × Nat))[i]?) := by kernel_rfl
theorem ty.elem49 : telem Try.prog 49 = none := by kernel_rfl
end Go.Proofs.Ytijechcadlklhaa
namespace Go.Proofs.Ytijechcadlklhaa
open Go.Sy Go.Deep Go.ChangeShapes Go.WideShapes Go.ChangeAt Go.WideElems Go.RowKit
section
variable {H : Type} {enc : TypeId × Value → H} {W W' : World} {spare : Nat → Bool}
theorem rdQ : Reads enc Try.prog W spare 49 4 HQ.d := fun fuel cs x h => by
  obtain ⟨hl, n, hf⟩ := open_fields [(43, 0), (3, 2), (3, 3)] (by kernel_rfl) (by simp) h
  obtain ⟨y0, h0⟩ := hf 0 43 0 rfl
  obtain ⟨y1, h1⟩ := hf 1 3 2 rfl
  obtain ⟨y2, h2⟩ := hf 2 3 3 rfl
  obtain ⟨c, lc, dc⟩ := rdCell _ _ _ h0
  obtain ⟨a, la, da⟩ := RI enc W spare _ _ _ h1
  obtain ⟨b, lb, db⟩ := RI enc W spare _ _ _ h2
  have hc3 : Try.prog.cellsOf 3 = 1 := by kernel_rfl
  rw [hc3] at da db
  rw [show Try.prog.cellsOf 43 = 2 by kernel_rfl] at dc
  rw [show Try.prog.cellsOf 49 = 4 by kernel_rfl] at hl
  exact ⟨⟨c, a, b⟩, rfl, Tile.drs [c.d, [cI a], [cI b]] 0 ⟨dc, da, db, hl⟩⟩
theorem rdQs : Reads enc Try.prog W spare 46 1 (fun l : List HQ => [.sl (l.map HQ.d)]) := reads_slice (e := 49) (n := 4) (by kernel_rfl) (by kernel_rfl) (by decide) rdQ
theorem trodAll_five {P : Program} {w : World} {base : Nat} {held : Bool} {t0 t1 t2 t3 t4 : TypeId} {args : Array Value} {ds : List (DataW H)} {ps : List MemPlace} (h : DataW.TrodAll enc P w base spare held [t0, t1, t2, t3, t4] args.toList ds ps) :
    ∃ v0 v1 v2 v3 v4 d0 d1 d2 d3 d4 p0 p1 p2 p3 p4, args = #[v0, v1, v2, v3, v4] ∧ ds = [d0, d1, d2, d3, d4] ∧ ps = p0 ++ p1 ++ p2 ++ p3 ++ p4 ∧ DataW.Trod enc P w base spare held t0 v0 d0 p0 ∧ DataW.Trod enc P w base spare held t1 v1 d1 p1 ∧ DataW.Trod enc P w base spare held t2 v2 d2 p2 ∧ DataW.Trod enc P w base spare held t3 v3 d3 p3 ∧ DataW.Trod enc P w base spare held t4 v4 d4 p4 := by
  obtain ⟨v0, w0, d0, e0, p0, q0, hargs, rfl, rfl, hd0, h0⟩ := trodAll_cons h
  obtain ⟨v1, w1, d1, e1, p1, q1, rfl, rfl, rfl, hd1, h1⟩ := trodAll_cons h0
  obtain ⟨v2, w2, d2, e2, p2, q2, rfl, rfl, rfl, hd2, h2⟩ := trodAll_cons h1
  obtain ⟨v3, w3, d3, e3, p3, q3, rfl, rfl, rfl, hd3, h3⟩ := trodAll_cons h2
  obtain ⟨v4, w4, d4, e4, p4, q4, rfl, rfl, rfl, hd4, h4⟩ := trodAll_cons h3
  obtain ⟨rfl, rfl, rfl⟩ := trodAll_nil h4
  exact ⟨v0, v1, v2, v3, v4, d0, d1, d2, d3, d4, p0, p1, p2, p3, p4, by cases args; simp_all, rfl, by simp, hd0, hd1, hd2, hd3, hd4⟩
end
end Go.Proofs.Ytijechcadlklhaa
namespace Go.Proofs.Ytijechcadlklhaa
theorem subB_filter (p : HC → Bool) : ∀ F : List HC, ∃ b, b < 2 ^ F.length ∧ subB F b = F.filter p
  | [] => ⟨0, by simp, rfl⟩
  | x :: F => by
    obtain ⟨b, hb, e⟩ := subB_filter p F
    refine ⟨2 * b + (p x).toNat, ?_, ?_⟩
    · rw [List.length_cons, Nat.pow_succ]
      cases p x <;> simp <;> omega
    · rw [subB_cons]
      have h2 : (2 * b + (p x).toNat) / 2 = b := by cases p x <;> simp <;> omega
      have h0 : (2 * b + (p x).toNat).testBit 0 = p x := by cases p x <;> simp [Nat.testBit_zero]
      rw [h2, h0, e]
      cases hp : p x <;> simp [hp]
theorem subB_all (F : List HC) : ∃ b, b < 2 ^ F.length ∧ subB F b = F := by
  obtain ⟨b, hb, e⟩ := subB_filter (fun _ => true) F
  exact ⟨b, hb, by rw [e]; simp⟩
theorem bestG_law {F : List HC} {g : List HC → Bool} {W : List HC → List HC} : ∀ (r many : Nat), (∀ b, b < 2 ^ F.length → g (subB F b) = true → many ≤ (subB F b).length) → (∃ b, b < 2 ^ F.length ∧ g (subB F b) = true ∧ (subB F b).length < many + r) →
    ∃ b, b < 2 ^ F.length ∧ g (subB F b) = true ∧ bestG F g W r many = subB F b ∧
      ∀ b', b' < 2 ^ F.length → g (subB F b') = true → (subB F b).length < (subB F b').length ∨ ((subB F b).length = (subB F b').length ∧ cmpLS (W (subB F b)) (W (subB F b')) ≤ 0)
  | 0, many, h1, ⟨b, hb, hg, hl⟩ => by have := h1 b hb hg; omega
  | r + 1, many, h1, ⟨b0, hb0, hg0, hl0⟩ => by
    have hi := inner_law (F := F) (g := g) (W := W) (many := many) (2 ^ F.length)
    rw [bestG]
    cases his : (innerB F g W many (2 ^ F.length)).2 with
    | true =>
      obtain ⟨b, e1, e2, e3, e4, e5⟩ := hi.2 his
      rw [if_pos rfl]
      refine ⟨b, e1, e3, e4, fun b' hb' hg' => ?_⟩
      have := h1 b' hb' hg'
      by_cases e : (subB F b').length = many
      · exact .inr ⟨by omega, e5 b' hb' e hg'⟩
      · exact .inl (by omega)
    | false =>
      rw [if_neg (by simp)]
      refine bestG_law r (many + 1) (fun b hb hg => ?_) ⟨b0, hb0, hg0, by omega⟩
      have := h1 b hb hg
      have := (hi.1 his).2 b hb
      have hne : (subB F b).length ≠ many := fun e => this ⟨e, hg⟩
      omega
end Go.Proofs.Ytijechcadlklhaa
namespace Go.Proofs.Ytijechcadlklhaa
section
variable {t : HT} {l : List HC}
def HT.good (t : HT) (S : List HC) (q : List HQ) : Bool := (t.w S).good q
structure HT.Least (t : HT) (l : List HC) (q : List HQ) (S : List HC) : Prop where
  ok : HidOk t.n t.m S
  sub : ∀ c ∈ l, c ∈ S
  good : t.good S q = true
  least : ∀ S', HidOk t.n t.m S' → (∀ c ∈ l, c ∈ S') → t.good S' q = true → S.length < S'.length ∨ (S.length = S'.length ∧ cmpLS S S' ≤ 0)
theorem free_sub_eq (h : t.pub l = 0) {S : List HC} (hS : HidOk t.n t.m S) (hsub : ∀ c ∈ l, c ∈ S) : (t.w l).with ((t.w l).free.filter fun c => S.contains c) = S := by
  obtain ⟨h3, h4, hl, h0⟩ := pub_dims h
  have hw := with_ok h (s := (t.w l).free.filter fun c => S.contains c) List.filter_sublist
  refine HidOk.ext hw.1 hS h4 fun c => ?_
  rw [hw.2.1 c, List.mem_filter, List.contains_iff_mem, mem_free h]
  constructor
  · rintro (h' | h')
    · exact h'.2
    · exact hsub c h'
  · intro hc
    by_cases hcl : c ∈ l
    · exact .inr hcl
    · exact .inl ⟨⟨mem_gridC.2 (hS.cell c hc), hcl⟩, hc⟩
theorem free_with (h : t.pub l = 0) : (t.w l).with (t.w l).free = gridC t.n t.m := by
  obtain ⟨h3, h4, hl, h0⟩ := pub_dims h
  have hw := with_ok h (s := (t.w l).free) (List.Sublist.refl _)
  refine HidOk.ext hw.1 (gridC_ok h4) h4 fun c => ?_
  rw [hw.2.1 c, mem_free h]
  constructor
  · rintro (h' | h')
    · exact h'.1
    · exact mem_gridC.2 (hl.cell c h')
  · intro hc
    by_cases hcl : c ∈ l
    · exact .inr hcl
    · exact .inl ⟨hc, hcl⟩
theorem hide_law (h : t.pub l = 0) (q : List HQ) : (t.good (gridC t.n t.m) q = false ∧ t.hide l q = ([], 11)) ∨ (t.good (gridC t.n t.m) q = true ∧ ∃ S, t.hide l q = (S, 0) ∧ t.Least l q S) := by
  obtain ⟨h3, h4, hl, h0⟩ := pub_dims h
  have e : ((t.w l).mark (t.w l).free true).good q = t.good (gridC t.n t.m) q := by
    rw [mark_with h (List.Sublist.refl _), free_with h]; rfl
  unfold HT.hide
  rw [e]
  cases hg : t.good (gridC t.n t.m) q with
  | false => exact .inl ⟨rfl, by simp⟩
  | true =>
    refine .inr ⟨rfl, _, by rw [if_pos rfl], ?_⟩
    have gg : ∀ b, ((t.w l).mark (subB (t.w l).free b) true).good q = t.good ((t.w l).with (subB (t.w l).free b)) q := fun b => by
      rw [mark_with h (subB_sublist _ _)]; rfl
    obtain ⟨b0, hb0, eb0⟩ := subB_all (t.w l).free
    obtain ⟨b, hb, hgb, heq, hmin⟩ := bestG_law (F := (t.w l).free) (g := fun s => ((t.w l).mark s true).good q) (W := (t.w l).with) ((t.w l).free.length + 1) 0 (fun _ _ _ => Nat.zero_le _)
      ⟨b0, hb0, by show ((t.w l).mark (subB (t.w l).free b0) true).good q = true; rw [eb0, e, hg], by rw [eb0]; omega⟩
    have hw := with_ok h (subB_sublist (t.w l).free b)
    show t.Least l q ((t.w l).with (bestG (t.w l).free (fun s => ((t.w l).mark s true).good q) (t.w l).with ((t.w l).free.length + 1) 0))
    rw [heq]
    refine ⟨hw.1, fun c hc => (hw.2.1 c).2 (.inr hc), by rw [← gg]; exact hgb, fun S' hS' hsub' hg' => ?_⟩
    obtain ⟨b', hb', eb'⟩ := subB_filter (fun c => S'.contains c) (t.w l).free
    have hS'e := free_sub_eq h hS' hsub'
    rw [← eb'] at hS'e
    have := hmin b' hb' (by
      show ((t.w l).mark (subB (t.w l).free b') true).good q = true
      rw [gg, hS'e]; exact hg')
    rw [hS'e] at this
    have hw' := with_ok h (subB_sublist (t.w l).free b')
    rw [hS'e] at hw'
    rw [hw.2.2, hw'.2.2]
    omega
end
end Go.Proofs.Ytijechcadlklhaa
namespace Go.Proofs.Ytijechcadlklhaa
open Go.Sy
set_option maxRecDepth 8000
theorem vQ_tn {r : Nat → Nat} {hp hp' : HpT} (l : List HQ) : F2 (F2 (TnS r hp hp')) (vQ l) (vQ l) := F2.map fun _ _ => .cons (TnS.d _) (.cons (TnS.d _) (.cons (TnS.d _) (.cons (TnS.d _) .nil)))
theorem vQ_snoc {l : List HQ} {k : Nat} (h : k < l.length) : vQ (l.take (k + 1)) = vQ (l.take k) ++ [[I (l.getD k default).cell.row, I (l.getD k default).cell.col, I (l.getD k default).below, I (l.getD k default).above]] := by
  rw [List.take_succ_eq_append_getElem h, show l[k] = l.getD k default by simp [List.getD_eq_getElem?_getD, h]]
  unfold vQ
  rw [List.map_append]
  rfl
abbrev tysH28_15 := And.intro ty.sz0 <| And.intro ty.agg0 <| And.intro ty.elem0 <| And.intro ty.sz3 <| And.intro ty.agg3 <| And.intro ty.elem3 <| And.intro ty.zero3 <| And.intro ty.und3 <| And.intro ty.sz4 <| And.intro ty.agg4 <| And.intro ty.elem4 <| And.intro ty.zero4 <| And.intro ty.und4 <| And.intro ty.sz43 <| And.intro ty.agg43 <| And.intro ty.fld43_0 <| And.intro ty.fld43_1 <| And.intro ty.elem43 <| And.intro ty.zero43 <| And.intro ty.pl43 <| And.intro ty.sz46 <| And.intro ty.agg46 <| And.intro ty.elem46 <| And.intro ty.by46 <| And.intro ty.ez46 <| And.intro ty.zero46 <| And.intro ty.und46 <| And.intro ty.sz49 <| And.intro ty.agg49 <| And.intro ty.fld49_0 <| And.intro ty.fld49_1 <| And.intro ty.fld49_2 <| And.intro ty.elem49 <| And.intro ty.zero49 <| And.intro ty.pl49 <| And.intro ty.sz52 <| And.intro ty.agg52 <| And.intro ty.elem52 <| And.intro ty.by52 <| And.intro ty.ez52 <| And.intro ty.zero52 <| And.intro ty.und52 <| And.intro ty.sz63 <| And.intro ty.agg63 <| And.intro ty.fld63_0 <| And.intro ty.fld63_1 <| And.intro ty.elem63 <| And.intro ty.zero63 <| And.intro ty.pl63 <| And.intro ty.sz85 <| And.intro ty.agg85 <| And.intro ty.fld85_0 <| And.intro ty.fld85_1 <| And.intro ty.fld85_2 <| And.intro ty.elem85 <| And.intro ty.zero85 <| ty.pl85
theorem Requests_c (l : List HQ) (hl : l.length ≤ 1000) : CallP Try.prog G0 15 [SQ l] (SQ l) := by
  refine CallP.body 32 [.tmp 2] Try.func15 (by kernel_rfl) rfl rfl rfl (by repeat' (first | exact Pure.d _ | exact Pure.dx _ | exact Pure.dp _ | exact fa_nil | refine fa_cons ?_ ?_ | refine Pure.agg ?_ | refine Pure.tup ?_ | refine Pure.clo ?_ ?_ | refine Pure.fp ?_ | exact Pure.mapd _ | assumption)) (by repeat' (first | exact Pure.d _ | exact Pure.dx _ | exact Pure.dp _ | exact fa_nil | refine fa_cons ?_ ?_ | refine Pure.agg ?_ | refine Pure.tup ?_ | refine Pure.clo ?_ ?_ | refine Pure.fp ?_ | exact Pure.mapd _ | assumption)) ?_
  refine Tr.reg [0] (by
      simp only [↓sxd, sxu, ↓zE, ↓exq, St.keep, Nat.reduceBEq, Nat.reduceLT]
      (repeat' (first | rfl | exact trivial | exact fun h => h | exact fun h => (by rw [h]; rfl) | apply And.intro | omega | exact Nat.le_of_ble_eq_true rfl))) ?_
  refine Tr.reg [0, 3] (by
      simp only [↓sxd, sxu, ↓zE, ↓exq, St.keep, Nat.reduceBEq, Nat.reduceLT]
      (repeat' (first | rfl | exact trivial | exact fun h => h | exact fun h => (by rw [h]; rfl) | apply And.intro | omega | exact Nat.le_of_ble_eq_true rfl))) ?_
  refine Tr.seq ?_
  refine Tr.reg [0, 3, 4] (by
      simp only [↓sxd, sxu, ↓zE, ↓exq, St.keep, Nat.reduceBEq, Nat.reduceLT]
      (repeat' (first | rfl | exact trivial | exact fun h => h | exact fun h => (by rw [h]; rfl) | apply And.intro | omega | exact Nat.le_of_ble_eq_true rfl))) ?_
  refine Tr.imp (st' := ⟨[(0, SQ l), (3, .slc 0 4 0 0 0), (4, I 0)], [(0, .arr 4 (vQ (l.take 0)))], 1, 32, [], 0⟩) (Imp.goV 4 rfl rfl rfl rfl (by repeat' (first | exact trivial | exact F2.nil | refine F2.cons ?_ ?_ | refine TmV.cons rfl VnS.nil ?_ | refine TmV.cons rfl VnS.same ?_ | refine ⟨rfl, ?_⟩ | exact VnO.same _ | refine VnO.arr ?_ | exact VnS.nil | exact VnS.same | exact F2.refl fun _ _ => VnS.same)) (by repeat' (first | exact trivial | exact F2.nil | refine F2.cons ?_ ?_ | refine TmV.cons rfl VnS.nil ?_ | refine TmV.cons rfl VnS.same ?_ | refine ⟨rfl, ?_⟩ | exact VnO.same _ | refine VnO.arr ?_ | exact VnS.nil | exact VnS.same | exact F2.refl fun _ _ => VnS.same))) (Tr.block (Tr.loopI (fun mm ss => ∃ (k : Nat), (k ≤ l.length) ∧ l.length - k = mm ∧ ss = ⟨[(0, SQ l), (3, .slc 0 4 0 k k), (4, I k)], [(0, .arr 4 (vQ (l.take k)))], 1, 32, [], 0⟩) _ ⟨0, ?_, rfl, rfl⟩ ?_))
  · exact Nat.zero_le _
  rintro mm ss ⟨k, hI, rfl, rfl⟩
  refine Tr.seq ?_
  refine Tr.reg [0, 3, 4, 8] (by
      simp only [↓sxd, sxu, ↓zE, ↓exq, ↓zB, St.keep, ↓zL, Nat.reduceBEq, Nat.reduceLT, sxe, tysH28_15]
      (repeat' (first | rfl | exact trivial | exact fun h => h | exact fun h => (by rw [h]; rfl) | apply And.intro | omega | exact Nat.le_of_ble_eq_true rfl))) ?_
  refine Tr.cond rfl (fun h8 => ?_) (fun h8 => ?_)
  · have hlt : k < l.length := by simpa using h8
    have htl : (l.take k).length = k := by rw [List.length_take]; omega
    refine Tr.skip ?_
    refine Tr.seq ?_
    refine Tr.block ?_
    have hk2 : (k + 1 ≤ 1073741824) = True := eq_true (by omega)
    refine Tr.regD1 [0, 1, 2, 3, 4, 5, 6, 7, 8, 9, 10, 11, 12, 13, 14, 15, 16, 17, 18, 19, 20] [19] [] [0, 3, 4] mix (by kernel_rfl) (by
        simp only [↓sxd, sxu, ↓zC, zH, ↓exq, St.keep, ↓zD, ↓zA, Nat.reduceBEq, Nat.reduceAdd, Nat.reduceLT, Nat.reduceLeDiff, Nat.reduceEqDiff, sxe, tysH28_15, hlt]
        (repeat ((with_reducible refine And.intro ?_ ?_); (focus (first | with_reducible rfl | trivial | exact fun h => h | exact fun h => (by rw [h]; rfl) | omega | assumption))))
        refine CallD.use (lcell_c (l.getD k default).cell) ?_
        try simp only [↓sxd, sxu, ↓zC, zH, ↓exq, ↓zB, ↓zD, ↓zO, ↓zG, ↓zQ, ↓zA, Nat.reduceBEq, Nat.reduceAdd, Nat.reduceLT, Nat.reduceLeDiff, Nat.reduceEqDiff, sxe, tysH28_15, hlt, vQ_len, htl, hk2]
        (repeat' (first | rfl | exact trivial | exact fun h => h | exact fun h => (by rw [h]; rfl) | apply And.intro | omega | exact Nat.le_of_ble_eq_true rfl))) ?_
    have w1 := add1 (show k < 4611686018427387904 by omega)
    refine Tr.reg1 [0, 3, 4] (by
        simp only [↓sxd, sxu, ↓zE, ↓exq, St.keep, Nat.reduceBEq, Nat.reduceLT, w1]
        (repeat' (first | rfl | exact trivial | exact fun h => h | exact fun h => (by rw [h]; rfl) | apply And.intro | omega | exact Nat.le_of_ble_eq_true rfl))) ?_
    refine ⟨_, _, ?_, ?_, ⟨k + 1, hlt, rfl, rfl⟩⟩
    · omega
    · rw [vQ_snoc hlt]
      exact Imp.go (fun i => i + 1) _ rfl rfl (List.Sublist.refl _) (fun _ h => absurd h (Nat.not_lt_zero _)) (fun id h => Nat.succ_le_succ h) (by repeat' (first | exact TmT.cons rfl (TnS.d _) ?_ | exact trivial | exact F2.nil | refine F2.append ?_ ?_ | refine F2.map fun _ _ => ?_ | refine F2.cons ?_ ?_ | refine TmT.cons rfl ?_ ?_ | exact TnS.d _ | exact TnS.dx _ | exact TnS.dp _ | exact TnS.slc rfl | exact TnS.ptr rfl | refine TnS.frzf rfl (by simp) (by simp) (by simp) ?_ | refine TnS.frz0 rfl (by simp) (by simp) (by simp) ?_ | refine TnS.frzm rfl (by simp) ?_ | exact TnS.mapr rfl | exact TnS.yld rfl | refine ⟨rfl, ?_⟩ | refine TnO.arr ?_ | refine TnO.map ?_ | exact TnO.raw _ | exact TnO.iter _ _ | refine TnS.agg ?_ | refine TnS.tup ?_ | exact TnS.pure (Pure.clo (by assumption) (by assumption)) | refine TnS.clo ?_ ?_ | exact TnS.unk _ | exact TnS.pure (Pure.clo (by assumption) (by assumption)))) (.cons ⟨rfl, TnO.arr (F2.append (vQ_tn _) (.cons (.cons (TnS.d _) (.cons (TnS.d _) (.cons (TnS.d _) (.cons (TnS.d _) .nil)))) .nil))⟩ .nil) (fun h => h)
  · have hge : k = l.length := by simp at h8; omega
    subst hge
    rw [List.take_length]
    refine Tr.exit ?_
    refine Tr.imp (Imp.fin (tm' := [(3, SQ l)]) (.cons rfl (TnS.frz0 (es := vQ l) rfl (by simp) (by simp) (vQ_len _) (vQ_fz _)) trivial)) ?_
    refine Tr.reg [2] (by
        simp only [↓sxd, sxu, ↓zE, ↓exq, St.keep, Nat.reduceLT]
        (repeat' (first | rfl | exact trivial | exact fun h => h | exact fun h => (by rw [h]; rfl) | apply And.intro | omega | exact Nat.le_of_ble_eq_true rfl))) ?_
    refine Tr.ret ?_
    (refine ⟨.inr rfl, ?_⟩; first | rfl | exact ⟨rfl, rfl, trivial⟩ | exact ⟨rfl, rfl, rfl, trivial⟩ | (simp only [Res, ResL, ResOK, ↓sxd, sxu, ↓zE, ↓zC, zH, ↓exP, ↓exq, ↓zB, St.keep, ↓zJ, ↓zL, ↓zD, ↓zO, ↓zG, ↓zQ, ↓zA, Nat.reduceBEq, Nat.reduceAdd, Nat.reduceLT, Nat.reduceMul, Nat.reduceSub, Nat.reduceLeDiff, Nat.reduceEqDiff, Int.reduceLE, Int.reduceLT, Int.reduceToNat, reduceIte, implies_true, sxe, tysH28_15]; (repeat' (first | rfl | exact trivial | exact fun h => h | exact fun h => (by rw [h]; rfl) | apply And.intro | omega | exact Nat.le_of_ble_eq_true rfl))))
abbrev tysH28_34 := And.intro ty.sz0 <| And.intro ty.agg0 <| And.intro ty.elem0 <| And.intro ty.sz3 <| And.intro ty.agg3 <| And.intro ty.elem3 <| And.intro ty.zero3 <| And.intro ty.und3 <| And.intro ty.sz4 <| And.intro ty.agg4 <| And.intro ty.elem4 <| And.intro ty.zero4 <| And.intro ty.und4 <| And.intro ty.sz24 <| And.intro ty.agg24 <| And.intro ty.fld24_0 <| And.intro ty.fld24_1 <| And.intro ty.elem24 <| And.intro ty.zero24 <| And.intro ty.pl24 <| And.intro ty.sz43 <| And.intro ty.agg43 <| And.intro ty.fld43_0 <| And.intro ty.fld43_1 <| And.intro ty.elem43 <| And.intro ty.zero43 <| And.intro ty.pl43 <| And.intro ty.sz46 <| And.intro ty.agg46 <| And.intro ty.elem46 <| And.intro ty.by46 <| And.intro ty.ez46 <| And.intro ty.zero46 <| And.intro ty.und46 <| And.intro ty.sz49 <| And.intro ty.agg49 <| And.intro ty.fld49_0 <| And.intro ty.fld49_1 <| And.intro ty.fld49_2 <| And.intro ty.elem49 <| And.intro ty.zero49 <| ty.pl49
theorem RequestsFault_c (t : HT) (l : List HQ) (hs : small8 t.rows) (h0 : 0 < t.rows.length) (hl : l.length ≤ 1000) : CallP Try.prog G0 34 [t.s, SQ l] (I (if l.length > 8 then 3 else if l.all t.okQ = false then 2 else 0)) := by
  refine CallP.body 41 [.tmp 4] Try.func34 (by kernel_rfl) rfl rfl rfl (by repeat' (first | exact Pure.d _ | exact Pure.dx _ | exact Pure.dp _ | exact fa_nil | refine fa_cons ?_ ?_ | refine Pure.agg ?_ | refine Pure.tup ?_ | refine Pure.clo ?_ ?_ | refine Pure.fp ?_ | exact Pure.mapd _ | assumption)) (by repeat' (first | exact Pure.d _ | exact Pure.dx _ | exact Pure.dp _ | exact fa_nil | refine fa_cons ?_ ?_ | refine Pure.agg ?_ | refine Pure.tup ?_ | refine Pure.clo ?_ ?_ | refine Pure.fp ?_ | exact Pure.mapd _ | assumption)) ?_
  refine Tr.reg [1, 2] (by
      simp only [↓sxd, sxu, ↓zE, ↓exq, St.keep, ↓zN, Nat.reduceBEq, Nat.reduceAdd, Nat.reduceLT, Nat.reduceEqDiff]
      (repeat' (first | rfl | exact trivial | exact fun h => h | exact fun h => (by rw [h]; rfl) | apply And.intro | omega | exact Nat.le_of_ble_eq_true rfl))) ?_
  refine Tr.seq ?_
  refine Tr.reg [1, 2, 8] (by
      simp only [↓sxd, sxu, ↓zE, ↓exq, ↓zB, St.keep, ↓zL, Nat.reduceBEq, Nat.reduceLT, sxe, tysH28_34]
      (repeat' (first | rfl | exact trivial | exact fun h => h | exact fun h => (by rw [h]; rfl) | apply And.intro | omega | exact Nat.le_of_ble_eq_true rfl))) ?_
  refine Tr.cond rfl (fun h8 => ?_) (fun h8 => ?_)
  · have hgt : l.length > 8 := by have := of_decide_eq_true h8; omega
    rw [if_pos hgt]
    refine Tr.reg [4] (by
        simp only [↓sxd, sxu, ↓zE, ↓exq, St.keep, Nat.reduceLT]
        (repeat' (first | rfl | exact trivial | exact fun h => h | exact fun h => (by rw [h]; rfl) | apply And.intro | omega | exact Nat.le_of_ble_eq_true rfl))) ?_
    refine Tr.ret ?_
    (refine ⟨.inr rfl, ?_⟩; first | rfl | exact ⟨rfl, rfl, trivial⟩ | exact ⟨rfl, rfl, rfl, trivial⟩ | (simp only [Res, ResL, ResOK, ↓sxd, sxu, ↓zE, ↓zC, zH, ↓exP, ↓exq, ↓zB, St.keep, ↓zI, ↓zJ, ↓zL, ↓zD, ↓zN, ↓zA, Nat.reduceBEq, Nat.reduceAdd, Nat.reduceLT, Nat.reduceMul, Nat.reduceSub, Nat.reduceLeDiff, Nat.reduceEqDiff, Int.reduceLE, Int.reduceLT, Int.reduceToNat, reduceIte, implies_true, sxe, tysH28_34]; (repeat' (first | rfl | exact trivial | exact fun h => h | exact fun h => (by rw [h]; rfl) | apply And.intro | omega | exact Nat.le_of_ble_eq_true rfl))))
  · have hle : ¬ l.length > 8 := by have := of_decide_eq_false h8; omega
    rw [if_neg hle]
    refine Tr.skip ?_
    refine Tr.seq ?_
    refine Tr.reg [1, 2, 5] (by
        simp only [↓sxd, sxu, ↓zE, ↓exq, St.keep, Nat.reduceBEq, Nat.reduceLT]
        (repeat' (first | rfl | exact trivial | exact fun h => h | exact fun h => (by rw [h]; rfl) | apply And.intro | omega | exact Nat.le_of_ble_eq_true rfl))) ?_
    refine Tr.imp (st' := ⟨[(1, SQ l), (2, .ptr 0 0 0), (5, I 0)], [(0, tbx t)], 1, 41, [], 0⟩) (Imp.keepAll) (Tr.block (Tr.loopI (fun mm ss => ∃ (k : Nat), (k ≤ l.length ∧ ∀ j, j < k → t.okQ (l.getD j default) = true) ∧ l.length - k = mm ∧ ss = ⟨[(1, SQ l), (2, .ptr 0 0 0), (5, I k)], [(0, tbx t)], 1, 41, [], 0⟩) _ ⟨0, ?_, rfl, rfl⟩ ?_))
    · exact ⟨Nat.zero_le _, fun j hj => by omega⟩
    rintro mm ss ⟨k, hI, rfl, rfl⟩
    obtain ⟨hk, hall⟩ := hI
    refine Tr.seq ?_
    refine Tr.reg [1, 2, 5, 12] (by
        simp only [↓sxd, sxu, ↓zE, ↓exq, ↓zB, St.keep, ↓zL, Nat.reduceBEq, Nat.reduceLT, sxe, tysH28_34]
        (repeat' (first | rfl | exact trivial | exact fun h => h | exact fun h => (by rw [h]; rfl) | apply And.intro | omega | exact Nat.le_of_ble_eq_true rfl))) ?_
    refine Tr.cond rfl (fun h12 => ?_) (fun h12 => ?_)
    · have hlt : k < l.length := by simpa using h12
      refine Tr.skip ?_
      refine Tr.seq ?_
      refine Tr.block ?_
      refine Tr.regD [0, 1, 2, 3, 4, 5, 6, 7, 8, 9, 10, 11, 12, 13, 14, 15, 16, 17, 18, 19, 20, 21, 22, 23, 24, 25] [] [] [1, 2, 5, 40] mix (by kernel_rfl) (by
          simp only [↓sxd, sxu, ↓zC, zH, ↓exq, St.keep, ↓zD, ↓zA, Nat.reduceBEq, Nat.reduceAdd, Nat.reduceLT, Nat.reduceLeDiff, Nat.reduceEqDiff, sxe, tysH28_34, hlt]
          (repeat ((with_reducible refine And.intro ?_ ?_); (focus (first | with_reducible rfl | trivial | exact fun h => h | exact fun h => (by rw [h]; rfl) | omega | assumption))))
          refine CallD.use (IsCell_c t (l.getD k default).cell hs h0) ?_
          try simp only [↓sxd, sxu, ↓zC, zH, ↓exq, ↓zJ, Nat.reduceLT]
          iterate 5
            (repeat ((with_reducible refine And.intro ?_ ?_); (focus (first | with_reducible rfl | trivial | exact fun h => h | exact fun h => (by rw [h]; rfl) | omega | assumption))))
            refine GdD.mk _ (fun hg => by simp only [↓sxd, sxu, ↓exP, ↓exq, ↓zD, ↓zA, Nat.reduceBEq, Nat.reduceAdd, Nat.reduceLT, Nat.reduceEqDiff, sxe, tysH28_34, hlt, hg]; (repeat' (first | rfl | exact trivial | exact fun h => h | exact fun h => (by rw [h]; rfl) | apply And.intro | omega | exact Nat.le_of_ble_eq_true rfl))) ?_
            simp only [↓sxd, sxu, ↓zC, zH, Nat.reduceBEq, Nat.reduceLT]
          (repeat ((with_reducible refine And.intro ?_ ?_); (focus (first | with_reducible rfl | trivial | exact fun h => h | exact fun h => (by rw [h]; rfl) | omega | assumption))))
          refine GdD.mk _ (fun hg => by simp only [sxu, ↓exP, hg]; first | exact In_c _ _ _ | exact ⟨In_c _ _ _, rfl, rfl⟩ | exact ⟨In_c _ _ _, trivial⟩ | exact ⟨In_c _ _ _, trivial, trivial⟩) ?_
          simp only [↓sxd, sxu, ↓zC, zH, Nat.reduceBEq, Nat.reduceLT]
          iterate 6
            (repeat ((with_reducible refine And.intro ?_ ?_); (focus (first | with_reducible rfl | trivial | exact fun h => h | exact fun h => (by rw [h]; rfl) | omega | assumption))))
            refine GdD.mk _ (fun hg => by simp only [↓sxd, sxu, ↓exP, ↓exq, ↓zJ, ↓zD, ↓zA, Nat.reduceBEq, Nat.reduceAdd, Nat.reduceLT, Nat.reduceEqDiff, sxe, tysH28_34, hlt, hg]; (repeat' (first | rfl | exact trivial | exact fun h => h | exact fun h => (by rw [h]; rfl) | apply And.intro | omega | exact Nat.le_of_ble_eq_true rfl))) ?_
            simp only [↓sxd, sxu, ↓zC, zH, ↓exq, ↓zI, Nat.reduceBEq, Nat.reduceLT]
          (repeat ((with_reducible refine And.intro ?_ ?_); (focus (first | with_reducible rfl | trivial | exact fun h => h | exact fun h => (by rw [h]; rfl) | omega | assumption))))
          refine GdD.mk _ (fun hg => by simp only [sxu, ↓exP, hg]; first | exact In_c _ _ _ | exact ⟨In_c _ _ _, rfl, rfl⟩ | exact ⟨In_c _ _ _, trivial⟩ | exact ⟨In_c _ _ _, trivial, trivial⟩) ?_
          simp only [↓sxd, sxu, ↓zC, zH, Nat.reduceBEq, Nat.reduceLT]
          (repeat ((with_reducible refine And.intro ?_ ?_); (focus (first | with_reducible rfl | trivial | exact fun h => h | exact fun h => (by rw [h]; rfl) | omega | assumption))))
          refine GdD.mk _ (fun hg => by simp only [sxu, ↓exP, ↓exq, ↓zJ, hg]; (repeat' (first | rfl | exact trivial | exact fun h => h | exact fun h => (by rw [h]; rfl) | apply And.intro | omega | exact Nat.le_of_ble_eq_true rfl))) ?_
          simp only [↓sxd, sxu, ↓zC, ↓exq, ↓zI, Nat.reduceBEq, Nat.reduceLT]
          (repeat' (first | rfl | exact trivial | exact fun h => h | exact fun h => (by rw [h]; rfl) | apply And.intro | omega | exact Nat.le_of_ble_eq_true rfl))) ?_
      refine Tr.cond rfl (fun h40 => ?_) (fun h40 => ?_)
      · have hb : t.okQ (l.getD k default) = false := by
          unfold HT.okQ
          revert h40
          cases t.isCell (l.getD k default).cell <;> cases inR (l.getD k default).below 0 1000 <;> cases inR (l.getD k default).above 0 1000 <;> simp
        rw [if_pos (all_at default hlt hb)]
        refine Tr.reg [4] (by
            simp only [↓sxd, sxu, ↓zE, ↓exq, St.keep, Nat.reduceLT]
            (repeat' (first | rfl | exact trivial | exact fun h => h | exact fun h => (by rw [h]; rfl) | apply And.intro | omega | exact Nat.le_of_ble_eq_true rfl))) ?_
        refine Tr.ret ?_
        (refine ⟨.inr rfl, ?_⟩; first | rfl | exact ⟨rfl, rfl, trivial⟩ | exact ⟨rfl, rfl, rfl, trivial⟩ | (simp only [Res, ResL, ResOK, ↓sxd, sxu, ↓zE, ↓zC, zH, ↓exP, ↓exq, ↓zB, St.keep, ↓zI, ↓zJ, ↓zL, ↓zD, ↓zN, ↓zA, Nat.reduceBEq, Nat.reduceAdd, Nat.reduceLT, Nat.reduceMul, Nat.reduceSub, Nat.reduceLeDiff, Nat.reduceEqDiff, Int.reduceLE, Int.reduceLT, Int.reduceToNat, reduceIte, implies_true, sxe, tysH28_34]; (repeat' (first | rfl | exact trivial | exact fun h => h | exact fun h => (by rw [h]; rfl) | apply And.intro | omega | exact Nat.le_of_ble_eq_true rfl))))
      · have hb : t.okQ (l.getD k default) = true := by
          unfold HT.okQ
          simpa [Bool.or_eq_false_iff, Bool.and_eq_true] using h40
        refine Tr.skip ?_
        have w1 := add1 (show k < 4611686018427387904 by omega)
        refine Tr.reg1 [1, 2, 5] (by
            simp only [↓sxd, sxu, ↓zE, ↓exq, St.keep, Nat.reduceBEq, Nat.reduceLT, w1]
            (repeat' (first | rfl | exact trivial | exact fun h => h | exact fun h => (by rw [h]; rfl) | apply And.intro | omega | exact Nat.le_of_ble_eq_true rfl))) ?_
        refine ⟨_, _, by omega, Imp.keepAll, ⟨k + 1, ⟨hlt, fun j hj => ?_⟩, rfl, rfl⟩⟩
        by_cases e : j < k
        · exact hall j e
        · rw [show j = k by omega]; exact hb
    · have hge : k = l.length := by simp at h12; omega
      rw [if_neg (by rw [all_full default fun i hi => hall i (by omega)]; decide)]
      refine Tr.exit ?_
      refine Tr.reg [4] (by
          simp only [↓sxd, sxu, ↓zE, ↓exq, St.keep, Nat.reduceLT]
          (repeat' (first | rfl | exact trivial | exact fun h => h | exact fun h => (by rw [h]; rfl) | apply And.intro | omega | exact Nat.le_of_ble_eq_true rfl))) ?_
      refine Tr.ret ?_
      (refine ⟨.inr rfl, ?_⟩; first | rfl | exact ⟨rfl, rfl, trivial⟩ | exact ⟨rfl, rfl, rfl, trivial⟩ | (simp only [Res, ResL, ResOK, ↓sxd, sxu, ↓zE, ↓zC, zH, ↓exP, ↓exq, ↓zB, St.keep, ↓zI, ↓zJ, ↓zL, ↓zD, ↓zN, ↓zA, Nat.reduceBEq, Nat.reduceAdd, Nat.reduceLT, Nat.reduceMul, Nat.reduceSub, Nat.reduceLeDiff, Nat.reduceEqDiff, Int.reduceLE, Int.reduceLT, Int.reduceToNat, reduceIte, implies_true, sxe, tysH28_34]; (repeat' (first | rfl | exact trivial | exact fun h => h | exact fun h => (by rw [h]; rfl) | apply And.intro | omega | exact Nat.le_of_ble_eq_true rfl))))
abbrev tysH28_13 := And.intro ty.sz0 <| And.intro ty.agg0 <| And.intro ty.elem0 <| And.intro ty.sz3 <| And.intro ty.agg3 <| And.intro ty.elem3 <| And.intro ty.zero3 <| And.intro ty.und3 <| And.intro ty.sz4 <| And.intro ty.agg4 <| And.intro ty.elem4 <| And.intro ty.zero4 <| And.intro ty.und4 <| And.intro ty.sz24 <| And.intro ty.agg24 <| And.intro ty.fld24_0 <| And.intro ty.fld24_1 <| And.intro ty.elem24 <| And.intro ty.zero24 <| And.intro ty.pl24 <| And.intro ty.sz25 <| And.intro ty.agg25 <| And.intro ty.elem25 <| And.intro ty.by25 <| And.intro ty.ez25 <| And.intro ty.zero25 <| And.intro ty.und25 <| And.intro ty.sz29 <| And.intro ty.agg29 <| And.intro ty.elem29 <| And.intro ty.zero29 <| And.intro ty.und29 <| And.intro ty.sz46 <| And.intro ty.agg46 <| And.intro ty.elem46 <| And.intro ty.by46 <| And.intro ty.ez46 <| And.intro ty.zero46 <| ty.und46
theorem lasked_c (t : HT) (l : List HC) (q : List HQ) (hs : small8 t.rows) (hl : l.length ≤ 1000) (hq : q.length ≤ 1000) : CallP Try.prog G0 13 [t.s, SC l, SQ q] (I (t.askE l q)) := by
  refine CallP.body 17 [.tmp 6] Try.func13 (by kernel_rfl) rfl rfl rfl (by repeat' (first | exact Pure.d _ | exact Pure.dx _ | exact Pure.dp _ | exact fa_nil | refine fa_cons ?_ ?_ | refine Pure.agg ?_ | refine Pure.tup ?_ | refine Pure.clo ?_ ?_ | refine Pure.fp ?_ | exact Pure.mapd _ | assumption)) (by repeat' (first | exact Pure.d _ | exact Pure.dx _ | exact Pure.dp _ | exact fa_nil | refine fa_cons ?_ ?_ | refine Pure.agg ?_ | refine Pure.tup ?_ | refine Pure.clo ?_ ?_ | refine Pure.fp ?_ | exact Pure.mapd _ | assumption)) ?_
  refine Tr.reg [1, 2, 3] (by
      simp only [↓sxd, sxu, ↓zE, ↓exq, St.keep, ↓zN, Nat.reduceBEq, Nat.reduceAdd, Nat.reduceLT, Nat.reduceEqDiff]
      (repeat' (first | rfl | exact trivial | exact fun h => h | exact fun h => (by rw [h]; rfl) | apply And.intro | omega | exact Nat.le_of_ble_eq_true rfl))) ?_
  refine Tr.seq ?_
  refine Tr.reg [2, 3, 7] (by
      simp only [↓sxd, sxu, ↓zE, ↓exq, St.keep, ↓zD, Nat.reduceBEq, Nat.reduceAdd, Nat.reduceLT, tysH28_13]
      (repeat ((with_reducible refine And.intro ?_ ?_); (focus (first | with_reducible rfl | trivial | exact fun h => h | exact fun h => (by rw [h]; rfl) | omega | assumption))))
      refine CallO.use (published_c t l hs hl) ?_
      try simp only [↓sxd, sxu, ↓zE, ↓exq, Nat.reduceBEq, Nat.reduceLT]
      (repeat' (first | rfl | exact trivial | exact fun h => h | exact fun h => (by rw [h]; rfl) | apply And.intro | omega | exact Nat.le_of_ble_eq_true rfl))) ?_
  refine Tr.reg [2, 3, 7, 12] (by
      simp only [↓sxd, sxu, ↓zE, ↓exq, St.keep, Nat.reduceBEq, Nat.reduceLT]
      (repeat' (first | rfl | exact trivial | exact fun h => h | exact fun h => (by rw [h]; rfl) | apply And.intro | omega | exact Nat.le_of_ble_eq_true rfl))) ?_
  refine Tr.cond rfl (fun h12 => ?_) (fun h12 => ?_)
  · have hp : t.pub l ≠ 0 := by simpa using h12
    have hA : t.askE l q = t.pub l := by unfold HT.askE; rw [if_pos hp]
    rw [hA]
    refine Tr.reg [6] (by
        simp only [↓sxd, sxu, ↓zE, ↓exq, St.keep, Nat.reduceBEq, Nat.reduceLT]
        (repeat' (first | rfl | exact trivial | exact fun h => h | exact fun h => (by rw [h]; rfl) | apply And.intro | omega | exact Nat.le_of_ble_eq_true rfl))) ?_
    refine Tr.ret ?_
    (refine ⟨.inr rfl, ?_⟩; first | rfl | exact ⟨rfl, rfl, trivial⟩ | exact ⟨rfl, rfl, rfl, trivial⟩ | (simp only [Res, ResL, ResOK, ↓sxd, sxu, ↓zE, ↓zC, zH, ↓exP, ↓exq, ↓zB, St.keep, ↓zJ, ↓zD, ↓zN, Nat.reduceBEq, Nat.reduceAdd, Nat.reduceLT, Nat.reduceMul, Nat.reduceSub, Nat.reduceLeDiff, Nat.reduceEqDiff, Int.reduceLE, Int.reduceLT, Int.reduceToNat, reduceIte, implies_true, sxe, tysH28_13]; (repeat' (first | rfl | exact trivial | exact fun h => h | exact fun h => (by rw [h]; rfl) | apply And.intro | omega | exact Nat.le_of_ble_eq_true rfl))))
  · have hp : t.pub l = 0 := by simpa using h12
    have hA : t.askE l q = if q.length > 8 then 3 else if q.all t.okQ = false then 2 else 0 := by unfold HT.askE; rw [if_neg (by simp [hp])]
    rw [hA]
    have h0 : 0 < t.rows.length := (HT.check_ok (HT.pub_ok hp).1).n0
    refine Tr.skip ?_
    refine Tr.reg [6] (by
        simp only [↓sxd, sxu, ↓zE, ↓exq, St.keep, ↓zD, Nat.reduceBEq, Nat.reduceAdd, Nat.reduceLT, tysH28_13]
        (repeat ((with_reducible refine And.intro ?_ ?_); (focus (first | with_reducible rfl | trivial | exact fun h => h | exact fun h => (by rw [h]; rfl) | omega | assumption))))
        refine CallO.use (RequestsFault_c t q hs h0 hq) ?_
        try simp only [↓sxd, sxu, ↓zE, ↓exq, Nat.reduceLT]
        (repeat' (first | rfl | exact trivial | exact fun h => h | exact fun h => (by rw [h]; rfl) | apply And.intro | omega | exact Nat.le_of_ble_eq_true rfl))) ?_
    refine Tr.ret ?_
    (refine ⟨.inr rfl, ?_⟩; first | rfl | exact ⟨rfl, rfl, trivial⟩ | exact ⟨rfl, rfl, rfl, trivial⟩ | (simp only [Res, ResL, ResOK, ↓sxd, sxu, ↓zE, ↓zC, zH, ↓exP, ↓exq, ↓zB, St.keep, ↓zJ, ↓zD, ↓zN, Nat.reduceBEq, Nat.reduceAdd, Nat.reduceLT, Nat.reduceMul, Nat.reduceSub, Nat.reduceLeDiff, Nat.reduceEqDiff, Int.reduceLE, Int.reduceLT, Int.reduceToNat, reduceIte, implies_true, sxe, tysH28_13]; (repeat' (first | rfl | exact trivial | exact fun h => h | exact fun h => (by rw [h]; rfl) | apply And.intro | omega | exact Nat.le_of_ble_eq_true rfl))))
end Go.Proofs.Ytijechcadlklhaa
namespace Go.Proofs.Ytijechcadlklhaa
theorem easier_law {t : HT} {l : List HC} (h : t.pub l = 0) (q q' : List HQ) (hm : ∀ S, t.good S q = true → t.good S q' = true) :
    ((t.hide l q').2 = 0 ∨ (t.hide l q').2 = 11) ∧ ((t.hide l q).2 = 0 → (t.hide l q').2 = 0 ∧ (t.hide l q').1.length ≤ (t.hide l q).1.length) := by
  rcases hide_law h q' with ⟨g', e'⟩ | ⟨g', S', e', L'⟩
  · rw [e']
    refine ⟨.inr rfl, fun h0 => ?_⟩
    rcases hide_law h q with ⟨g, e⟩ | ⟨g, S, e, L⟩
    · rw [e] at h0; simp at h0
    · rw [hm _ g] at g'; cases g'
  · rw [e']
    refine ⟨.inl rfl, fun h0 => ?_⟩
    rcases hide_law h q with ⟨g, e⟩ | ⟨g, S, e, L⟩
    · rw [e] at h0; simp at h0
    · rw [e]
      refine ⟨rfl, ?_⟩
      have := L'.least S L.ok L.sub (hm _ L.good)
      show S'.length ≤ S.length
      omega
theorem sat_low {w : HW} {q q' : HQ} (hc : q'.cell = q.cell) (hb : q'.below ≤ q.below) (ha : q'.above ≤ q.above) (h : w.sat q = true) : w.sat q' = true := by
  unfold HW.sat at h ⊢
  rw [hc]
  rw [Bool.and_eq_true, decide_eq_true_eq, decide_eq_true_eq] at h ⊢
  omega
theorem good_set {t : HT} {S : List HC} {q : List HQ} {k : Nat} {x : HQ} (hk : k < q.length) (hx : (t.w S).sat (q.getD k default) = true → (t.w S).sat x = true) (h : t.good S q = true) : t.good S (q.set k x) = true := by
  unfold HT.good HW.good at h ⊢
  rw [List.all_eq_true] at h ⊢
  intro y hy
  rcases List.mem_or_eq_of_mem_set hy with hy | rfl
  · exact h y hy
  · exact hx (h _ (getD_mem' _ hk))
theorem good_sub {t : HT} {S : List HC} {q q' : List HQ} (hs : ∀ x ∈ q', x ∈ q) (h : t.good S q = true) : t.good S q' = true := by
  unfold HT.good HW.good at h ⊢
  rw [List.all_eq_true] at h ⊢
  exact fun x hx => h x (hs x hx)
end Go.Proofs.Ytijechcadlklhaa
namespace Go.Proofs.Ytijechcadlklhaa
open Go.Sy
set_option maxRecDepth 8000
theorem thin_go {t : HT} {a : List HC} {b : List HQ} (h : (shortB t.rows && decide ((a.length : Int) ≤ 20) && decide ((b.length : Int) ≤ 11)) = true) : small8 t.rows ∧ a.length ≤ 1000 ∧ b.length ≤ 1000 := by
  simp only [Bool.and_eq_true, decide_eq_true_eq] at h
  obtain ⟨⟨h1, h2⟩, h3⟩ := h
  exact ⟨short_small h1, by omega, by omega⟩
end Go.Proofs.Ytijechcadlklhaa
namespace Go.Proofs.Ytijechcadlklhaa
open Go.Sy
set_option maxRecDepth 8000
theorem askE_of {t : HT} {l : List HC} {q : List HQ} (h1 : t.pub l = 0) (h2 : q.length ≤ 8) (h3 : q.all t.okQ = true) : t.askE l q = 0 := by
  unfold HT.askE
  rw [if_neg (by simp [h1]), if_neg (by omega), if_neg (by simp [h3])]
def lowQ (q : HQ) (x y : Int) : HQ := ⟨q.cell, max 0 (q.below - x), max 0 (q.above - y)⟩
theorem okQ_low {t : HT} {q : HQ} {x y : Int} (h : t.okQ q = true) (hx : 0 ≤ x) (hy : 0 ≤ y) : t.okQ (lowQ q x y) = true := by
  unfold HT.okQ at h ⊢
  rw [Bool.and_eq_true, Bool.and_eq_true, inR_iff, inR_iff] at h ⊢
  unfold lowQ
  simp only
  exact ⟨⟨h.1.1, by omega⟩, by omega⟩
theorem okQ_bnd {t : HT} {q : HQ} (h : t.okQ q = true) : 0 ≤ q.below ∧ q.below ≤ 1000 ∧ 0 ≤ q.above ∧ q.above ≤ 1000 := by
  unfold HT.okQ at h
  rw [Bool.and_eq_true, Bool.and_eq_true, inR_iff, inR_iff] at h
  omega
theorem all_set {t : HT} {q : List HQ} {k : Nat} {x : HQ} (h : q.all t.okQ = true) (hx : t.okQ x = true) : (q.set k x).all t.okQ = true := by
  rw [List.all_eq_true] at h ⊢
  intro y hy
  rcases List.mem_or_eq_of_mem_set hy with hy | rfl
  · exact h y hy
  · exact hx
theorem mem_less {q : List HQ} {k : Nat} {x : HQ} (h : x ∈ q.take k ++ q.drop (k + 1)) : x ∈ q := by
  rcases List.mem_append.1 h with h | h
  · exact List.mem_of_mem_take h
  · exact List.mem_of_mem_drop h
theorem hideA_ok {t : HT} {l : List HC} {q : List HQ} (h : t.askE l q = 0) : t.hideA l q = t.hide l q := by unfold HT.hideA; rw [if_neg (by simp [h])]
theorem vQ_get {l : List HQ} {k : Nat} (h : k < l.length) : (vQ l).getD k [] = [I (l.getD k default).cell.row, I (l.getD k default).cell.col, I (l.getD k default).below, I (l.getD k default).above] := by simp [vQ, List.getD_eq_getElem?_getD, h]
theorem vQ_set (l : List HQ) (k : Nat) (q : HQ) : (vQ l).set k [I q.cell.row, I q.cell.col, I q.below, I q.above] = vQ (l.set k q) := by simp [vQ, List.map_set]
theorem src_vQ (v : List HQ) : ((dQ v).map fun e => e.map SV.d) = vQ v := by simp [dQ, vQ]
theorem vQ_all (v : List HQ) : (∀ e ∈ vQ v, e.length = 4 ∧ e.all SV.one = true) = True := by simp [vQ, SV.one]
theorem easy_go {t : HT} {l : List HC} {q : List HQ} (h : (!(!(shortB t.rows && decide ((l.length : Int) ≤ 20) && decide ((q.length : Int) ≤ 11)) || (q.length : Int) == 0)) = true) : small8 t.rows ∧ l.length ≤ 1000 ∧ q.length ≤ 1000 := by
  simp only [Bool.not_eq_true', Bool.or_eq_false_iff, Bool.not_eq_false'] at h
  exact thin_go h.1
theorem easy_of {t : HT} {l : List HC} {q : List HQ} (h : (!(shortB t.rows && decide ((l.length : Int) ≤ 20) && decide ((q.length : Int) ≤ 11)) || (q.length : Int) == 0 || t.askE l q != 0) = false) : (small8 t.rows ∧ l.length ≤ 1000 ∧ q.length ≤ 1000) ∧ 0 < q.length ∧ t.askE l q = 0 := by
  simp only [Bool.or_eq_false_iff, Bool.not_eq_false', beq_eq_false_iff_ne, bne_eq_false_iff_eq] at h
  exact ⟨thin_go h.1.1, by have := h.1.2; omega, h.2⟩
theorem u8_int {n : Nat} (h : n < 256) : IntKind.i64.wrap (n : Int) = n := wr (by omega) (by omega)
theorem tmod_nat (a b : Nat) : ((a : Nat) : Int).tmod (b : Int) = ((a % b : Nat) : Int) := by
  rw [Int.tmod_eq_emod_of_nonneg (Int.natCast_nonneg _)]; rfl
theorem tdiv_nat (a b : Nat) : ((a : Nat) : Int).tdiv (b : Int) = ((a / b : Nat) : Int) := by
  rw [Int.tdiv_eq_ediv_of_nonneg (Int.natCast_nonneg _)]; rfl
theorem vQ_app (a b : List HQ) : vQ (a ++ b) = vQ a ++ vQ b := by simp [vQ]
abbrev tysH32_4 := And.intro ty.sz0 <| And.intro ty.agg0 <| And.intro ty.elem0 <| And.intro ty.sz3 <| And.intro ty.agg3 <| And.intro ty.elem3 <| And.intro ty.zero3 <| And.intro ty.und3 <| And.intro ty.sz4 <| And.intro ty.agg4 <| And.intro ty.elem4 <| And.intro ty.zero4 <| And.intro ty.und4 <| And.intro ty.sz5 <| And.intro ty.agg5 <| And.intro ty.elem5 <| And.intro ty.zero5 <| And.intro ty.und5 <| And.intro ty.sz24 <| And.intro ty.agg24 <| And.intro ty.fld24_0 <| And.intro ty.fld24_1 <| And.intro ty.elem24 <| And.intro ty.zero24 <| And.intro ty.pl24 <| And.intro ty.sz25 <| And.intro ty.agg25 <| And.intro ty.elem25 <| And.intro ty.by25 <| And.intro ty.ez25 <| And.intro ty.zero25 <| And.intro ty.und25 <| And.intro ty.sz29 <| And.intro ty.agg29 <| And.intro ty.elem29 <| And.intro ty.zero29 <| And.intro ty.und29 <| And.intro ty.sz32 <| And.intro ty.agg32 <| And.intro ty.fld32_0 <| And.intro ty.fld32_1 <| And.intro ty.elem32 <| And.intro ty.zero32 <| And.intro ty.pl32 <| And.intro ty.sz34 <| And.intro ty.agg34 <| And.intro ty.elem34 <| And.intro ty.by34 <| And.intro ty.ez34 <| And.intro ty.zero34 <| And.intro ty.und34 <| And.intro ty.sz46 <| And.intro ty.agg46 <| And.intro ty.elem46 <| And.intro ty.by46 <| And.intro ty.ez46 <| And.intro ty.zero46 <| And.intro ty.und46 <| And.intro ty.sz49 <| And.intro ty.agg49 <| And.intro ty.fld49_0 <| And.intro ty.fld49_1 <| And.intro ty.fld49_2 <| And.intro ty.elem49 <| And.intro ty.zero49 <| And.intro ty.pl49 <| And.intro ty.sz50 <| And.intro ty.agg50 <| And.intro ty.elem50 <| And.intro ty.sz52 <| And.intro ty.agg52 <| And.intro ty.elem52 <| And.intro ty.by52 <| And.intro ty.ez52 <| And.intro ty.zero52 <| ty.und52
set_option maxHeartbeats 4000000 in
theorem HideEasier_c (t : HT) (l : List HC) (q : List HQ) (which by' : Nat) (hwh : which < 256) (hby : by' < 256) : CallP Try.prog G0 4 [t.s, SC l, SQ q, .d (.lit (.int .u8 (which : Nat))), .d (.lit (.int .u8 (by' : Nat)))] (B true) := by
  refine CallP.body 159 [.tmp 10] Try.func4 (by kernel_rfl) rfl rfl rfl (by repeat' (first | exact Pure.d _ | exact Pure.dx _ | exact Pure.dp _ | exact fa_nil | refine fa_cons ?_ ?_ | refine Pure.agg ?_ | refine Pure.tup ?_ | refine Pure.clo ?_ ?_ | refine Pure.fp ?_ | exact Pure.mapd _ | assumption)) (by repeat' (first | exact Pure.d _ | exact Pure.dx _ | exact Pure.dp _ | exact fa_nil | refine fa_cons ?_ ?_ | refine Pure.agg ?_ | refine Pure.tup ?_ | refine Pure.clo ?_ ?_ | refine Pure.fp ?_ | exact Pure.mapd _ | assumption)) ?_
  refine Tr.reg [1, 2, 3, 4, 5] (by
      simp only [↓sxd, sxu, ↓zE, ↓exq, St.keep, ↓zN, Nat.reduceBEq, Nat.reduceAdd, Nat.reduceLT, Nat.reduceEqDiff]
      (repeat' (first | rfl | exact trivial | exact fun h => h | exact fun h => (by rw [h]; rfl) | apply And.intro | omega | exact Nat.le_of_ble_eq_true rfl))) ?_
  refine Tr.seq ?_
  refine Tr.reg [1, 2, 3, 4, 5, 36] (by
      simp only [↓sxd, sxu, ↓zE, ↓exq, St.keep, ↓zD, Nat.reduceBEq, Nat.reduceAdd, Nat.reduceLT, tysH32_4]
      (repeat ((with_reducible refine And.intro ?_ ?_); (focus (first | with_reducible rfl | trivial | exact fun h => h | exact fun h => (by rw [h]; rfl) | omega | assumption))))
      refine CallO.use (Thin_c t l q) ?_
      try simp only [↓sxd, sxu, ↓zE, ↓exq, ↓zJ, Nat.reduceLT]
      iterate 6
        (repeat ((with_reducible refine And.intro ?_ ?_); (focus (first | with_reducible rfl | trivial | exact fun h => h | exact fun h => (by rw [h]; rfl) | omega | assumption))))
        refine GdO.mk _ (fun hg => by simp only [↓sxd, sxu, ↓exq, ↓zB, ↓zL, ↓zD, Nat.reduceBEq, Nat.reduceAdd, Nat.reduceLT, sxe, tysH32_4, hg]; (repeat' (first | rfl | exact trivial | exact fun h => h | exact fun h => (by rw [h]; rfl) | apply And.intro | omega | exact Nat.le_of_ble_eq_true rfl))) ?_
        simp only [↓sxd, sxu, ↓zE, ↓exq, ↓zI, Nat.reduceBEq, Nat.reduceLT]
      (repeat ((with_reducible refine And.intro ?_ ?_); (focus (first | with_reducible rfl | trivial | exact fun h => h | exact fun h => (by rw [h]; rfl) | omega | assumption))))
      refine GdO.mk _ (fun hg => by simp only [sxu, ↓exq, ↓zB, Nat.reduceBEq, hg]; (repeat ((with_reducible refine And.intro ?_ ?_); (focus (first | with_reducible rfl | trivial | exact fun h => h | exact fun h => (by rw [h]; rfl) | omega | assumption)))); exact CallP.use (lasked_c t l q (easy_go hg).1 (easy_go hg).2.1 (easy_go hg).2.2) ⟨rfl, rfl, rfl⟩) ?_
      simp only [↓sxd, sxu, ↓zE, Nat.reduceBEq, Nat.reduceLT]
      (repeat ((with_reducible refine And.intro ?_ ?_); (focus (first | with_reducible rfl | trivial | exact fun h => h | exact fun h => (by rw [h]; rfl) | omega | assumption))))
      refine GdO.mk _ (fun hg => by simp only [↓sxd, sxu, ↓exq, hg]; (repeat' (first | rfl | exact trivial | exact fun h => h | exact fun h => (by rw [h]; rfl) | apply And.intro | omega | exact Nat.le_of_ble_eq_true rfl))) ?_
      simp only [↓sxd, sxu, ↓zE, ↓exq, ↓zI, Nat.reduceBEq, Nat.reduceLT]
      (repeat' (first | rfl | exact trivial | exact fun h => h | exact fun h => (by rw [h]; rfl) | apply And.intro | omega | exact Nat.le_of_ble_eq_true rfl))) ?_
  refine Tr.cond rfl (fun h36 => ?_) (fun h36 => ?_)
  · refine Tr.reg [10] (by
        simp only [↓sxd, sxu, ↓zE, St.keep, Nat.reduceLT]
        (repeat ((with_reducible refine And.intro ?_ ?_); (focus (first | with_reducible rfl | trivial | exact fun h => h | exact fun h => (by rw [h]; rfl) | omega | assumption))))
        refine CallO.use (awake_c) ?_
        try simp only [↓sxd, sxu, ↓zE, ↓exq, Nat.reduceLT]
        (repeat' (first | rfl | exact trivial | exact fun h => h | exact fun h => (by rw [h]; rfl) | apply And.intro | omega | exact Nat.le_of_ble_eq_true rfl))) ?_
    refine Tr.ret ?_
    (refine ⟨.inr rfl, ?_⟩; first | rfl | exact ⟨rfl, rfl, trivial⟩ | exact ⟨rfl, rfl, rfl, trivial⟩ | (simp only [Res, ResL, ResOK, ↓sxd, sxu, ↓zE, ↓zC, zH, ↓exP, ↓exq, ↓zB, St.keep, ↓zI, ↓zW, ↓zJ, ↓zL, ↓zD, ↓zK, ↓zN, ↓zG, ↓zQ, ↓zV, ↓zA, sbnd, Nat.reduceBEq, Nat.reduceAdd, Nat.reduceLT, Nat.reduceMul, Nat.reduceSub, Nat.reduceLeDiff, Nat.reduceEqDiff, Int.reduceLE, Int.reduceLT, Int.reduceToNat, reduceIte, implies_true, sxe, tysH32_4]; (repeat' (first | rfl | exact trivial | exact fun h => h | exact fun h => (by rw [h]; rfl) | apply And.intro | omega | exact Nat.le_of_ble_eq_true rfl))))
  · obtain ⟨⟨hs, hl, hq⟩, hq0, hask⟩ := easy_of h36
    have hq0' : ((q.length : Int) = 0) = False := eq_false (by omega)
    have hpub := (askE_ok hask).1
    have hq8 := (askE_ok hask).2.1
    have hall := (askE_ok hask).2.2
    have u1 := u8_int hwh
    have u2 := u8_int hby
    have mk := tmod_nat which q.length
    obtain ⟨k, hk⟩ : ∃ k, k = which % q.length := ⟨_, rfl⟩
    rw [← hk] at mk
    have hkl : k < q.length := by rw [hk]; exact Nat.mod_lt _ hq0
    obtain ⟨x, hx⟩ : ∃ x, x = by' % 8 := ⟨_, rfl⟩
    obtain ⟨y, hy⟩ : ∃ y, y = by' / 8 % 8 := ⟨_, rfl⟩
    have mx : ((by' : Nat) : Int).tmod 8 = ((x : Nat) : Int) := by rw [hx]; exact tmod_nat by' 8
    have md : ((by' : Nat) : Int).tdiv 8 = ((by' / 8 : Nat) : Int) := tdiv_nat by' 8
    have wd : IntKind.i64.wrap ((by' / 8 : Nat) : Int) = ((by' / 8 : Nat) : Int) := u8_int (by omega)
    have my : ((by' / 8 : Nat) : Int).tmod 8 = ((y : Nat) : Int) := by rw [hy]; exact tmod_nat (by' / 8) 8
    obtain ⟨z, hz⟩ : ∃ z, z = q.getD k default := ⟨_, rfl⟩
    have hzo : t.okQ z = true := List.all_eq_true.1 hall z (by rw [hz]; exact getD_mem' default hkl)
    have hzb := okQ_bnd hzo
    have g0 : (vQ q).getD k [] = [I z.cell.row, I z.cell.col, I z.below, I z.above] := by rw [hz]; exact vQ_get hkl
    have wx : IntKind.i64.wrap (z.below - (x : Int)) = z.below - (x : Int) := wr (by omega) (by omega)
    have wy : IntKind.i64.wrap (z.above - (y : Int)) = z.above - (y : Int) := wr (by omega) (by omega)
    have s1 : (vQ q).set k [I z.cell.row, I z.cell.col, I (max 0 (z.below - (x : Int))), I z.above] = vQ (q.set k ⟨z.cell, max 0 (z.below - (x : Int)), z.above⟩) := vQ_set q k ⟨z.cell, max 0 (z.below - (x : Int)), z.above⟩
    have g1 : (vQ (q.set k ⟨z.cell, max 0 (z.below - (x : Int)), z.above⟩)).getD k [] = [I z.cell.row, I z.cell.col, I (max 0 (z.below - (x : Int))), I z.above] := by
      rw [vQ_get (by rw [List.length_set]; exact hkl), show (q.set k ⟨z.cell, max 0 (z.below - (x : Int)), z.above⟩).getD k default = ⟨z.cell, max 0 (z.below - (x : Int)), z.above⟩ by simp [List.getD_eq_getElem?_getD, hkl]]
    have s2 : (vQ (q.set k ⟨z.cell, max 0 (z.below - (x : Int)), z.above⟩)).set k [I z.cell.row, I z.cell.col, I (max 0 (z.below - (x : Int))), I (max 0 (z.above - (y : Int)))] = vQ (q.set k (lowQ z x y)) := by
      rw [show vQ (q.set k (lowQ z x y)) = vQ ((q.set k ⟨z.cell, max 0 (z.below - (x : Int)), z.above⟩).set k (lowQ z x y)) by rw [List.set_set]]
      exact vQ_set _ k (lowQ z x y)
    refine Tr.skip ?_
    refine Tr.reg [1, 2, 4, 5, 11] (by
        simp only [↓sxd, sxu, ↓zE, ↓exq, ↓zB, St.keep, ↓zW, ↓zL, Nat.reduceBEq, Nat.reduceLT, sxe, tysH32_4, u1, mk, hq0']
        (repeat' (first | rfl | exact trivial | exact fun h => h | exact fun h => (by rw [h]; rfl) | apply And.intro | omega | exact Nat.le_of_ble_eq_true rfl))) ?_
    have hq2 : (q.length ≤ 1073741824) = True := eq_true (by omega)
    refine Tr.reg [1, 2, 4, 5, 11, 12] (by
        simp only [↓sxd, sxu, ↓zE, ↓exq, ↓zB, St.keep, ↓zG, ↓zQ, Nat.reduceBEq, Nat.reduceAdd, Nat.reduceLT, Nat.reduceLeDiff, Nat.reduceEqDiff, tysH32_4, src_vQ, vQ_all, hq2, vQ_len]
        (repeat' (first | rfl | exact trivial | exact fun h => h | exact fun h => (by rw [h]; rfl) | apply And.intro | omega | exact Nat.le_of_ble_eq_true rfl))) ?_
    refine Tr.regD [0, 1, 2, 3, 4, 5, 6, 7, 8, 9, 10, 11, 12, 13, 14, 15, 16, 17, 18, 19, 20, 21, 22, 23, 24, 25, 26, 27, 28, 29, 30] [27, 30] [] [1, 2, 5, 11, 12] mix (by kernel_rfl) (by
        simp only [↓sxd, sxu, ↓zC, zH, ↓exq, ↓zB, St.keep, ↓zW, ↓zD, ↓zA, Nat.reduceBEq, Nat.reduceAdd, Nat.reduceLT, Nat.reduceLeDiff, Nat.reduceEqDiff, sxe, tysH32_4, u2, vQ_len, List.length_set, hkl, g0, g1, mx, md, wd, my, wx, wy, s1, s2]
        (repeat' (first | rfl | exact trivial | exact fun h => h | exact fun h => (by rw [h]; rfl) | apply And.intro | omega | exact Nat.le_of_ble_eq_true rfl))) ?_
    have tk : (q.take k).length = k := by rw [List.length_take]; omega
    have dk : (q.drop (k + 1)).length = q.length - (k + 1) := List.length_drop ..
    have w1 := add1 (show k < 4611686018427387904 by omega)
    refine Tr.regD [0, 1, 2, 3, 4, 5, 6, 7, 8, 9, 10] [4, 9] [] [1, 2, 5, 12, 13] mix (by kernel_rfl) (by
        simp only [↓sxd, sxu, ↓zC, zH, ↓exq, ↓zB, St.keep, ↓zG, ↓zQ, ↓zV, sbnd, Nat.reduceBEq, Nat.reduceAdd, Nat.reduceLT, Nat.reduceLeDiff, Nat.reduceEqDiff, Int.reduceLE, sxe, tysH32_4, List.take_length, src_vQ, vQ_all, vQ_len, tk, dk, w1]
        (repeat' (first | rfl | exact trivial | exact fun h => h | exact fun h => (by rw [h]; rfl) | apply And.intro | omega | exact Nat.le_of_ble_eq_true rfl))) ?_
    obtain ⟨lo, hlo⟩ : ∃ lo, lo = q.set k (lowQ z x y) := ⟨_, rfl⟩
    obtain ⟨le, hle⟩ : ∃ le, le = q.take k ++ q.drop (k + 1) := ⟨_, rfl⟩
    have hlol : lo.length = q.length := by rw [hlo, List.length_set]
    have hlel : le.length = k + (q.length - (k + 1)) := by rw [hle, List.length_append, tk, dk]
    refine Tr.imp (st' := ⟨[(1, SC l), (2, SQ q), (5, .ptr 0 0 0), (12, SQ lo), (13, SQ le)], [(0, tbx t)], 1, 159, [], 0⟩) (Imp.go (rg 1 3) [(0, _)] rfl rfl (.cons _ (.cons _ (.refl _))) (fun _ h => absurd h (Nat.not_lt_zero _)) (fun id h => by rw [rg_ge h]; show 4 ≤ id + 3; omega)
      (.cons rfl (TnS.d _) (.cons rfl (TnS.d _) (.cons rfl (TnS.ptr rfl) (.cons rfl (TnS.frz0 (es := vQ lo) (by rw [hlo]; rfl) (by simp) (by decide) (by rw [vQ_len, hlol]) (vQ_fz _)) (.cons rfl (TnS.frz0 (es := vQ le) (by rw [hle, vQ_app]; rfl) (by simp) (by decide) (by rw [vQ_len, hlel]) (vQ_fz _)) trivial)))))
      (.cons ⟨rfl, TnO.arr (by repeat' (first | exact TmT.cons rfl (TnS.d _) ?_ | exact trivial | exact F2.nil | refine F2.append ?_ ?_ | refine F2.map fun _ _ => ?_ | refine F2.cons ?_ ?_ | refine TmT.cons rfl ?_ ?_ | exact TnS.d _ | exact TnS.dx _ | exact TnS.dp _ | exact TnS.slc rfl | exact TnS.ptr rfl | refine TnS.frzf rfl (by simp) (by simp) (by simp) ?_ | refine TnS.frz0 rfl (by simp) (by simp) (by simp) ?_ | refine TnS.frzm rfl (by simp) ?_ | exact TnS.mapr rfl | exact TnS.yld rfl | refine ⟨rfl, ?_⟩ | refine TnO.arr ?_ | refine TnO.map ?_ | exact TnO.raw _ | exact TnO.iter _ _ | refine TnS.agg ?_ | refine TnS.tup ?_ | exact TnS.pure (Pure.clo (by assumption) (by assumption)) | refine TnS.clo ?_ ?_ | exact TnS.unk _ | exact TnS.pure (Pure.clo (by assumption) (by assumption))))⟩ .nil) (fun h => h)) ?_
    have a0 : t.askE l lo = 0 := askE_of hpub (by omega) (by rw [hlo]; exact all_set hall (okQ_low hzo (by omega) (by omega)))
    have a1 : t.askE l le = 0 := askE_of hpub (by omega) (List.all_eq_true.2 fun y hy => List.all_eq_true.1 hall y (mem_less (by rw [hle] at hy; exact hy)))
    have h0 := Hide_c t l q hs hl hq
    have h1 := Hide_c t l lo hs hl (by omega)
    have h2 := Hide_c t l le hs hl (by omega)
    rw [hideA_ok hask] at h0
    rw [hideA_ok a0] at h1
    rw [hideA_ok a1] at h2
    have e0 := easier_law hpub q q fun _ h => h
    have e1 := easier_law hpub q lo fun S h => by
      rw [hlo]
      refine good_set hkl (fun hz' => ?_) h
      rw [← hz] at hz'
      exact sat_low (q := z) (q' := lowQ z x y) rfl (show max 0 (z.below - (x : Int)) ≤ z.below by omega) (show max 0 (z.above - (y : Int)) ≤ z.above by omega) hz'
    have e2 := easier_law hpub q le fun S h => good_sub (fun y hy => mem_less (by rw [hle] at hy; exact hy)) h
    generalize t.hide l q = R0 at h0 e0 e1 e2
    generalize t.hide l lo = R1 at h1 e1
    generalize t.hide l le = R2 at h2 e2
    obtain ⟨A, e⟩ := R0
    obtain ⟨B', f⟩ := R1
    obtain ⟨C', g⟩ := R2
    simp only at h0 h1 h2 e0 e1 e2
    refine Tr.reg [1, 5, 12, 13, 14, 15] (by
        simp only [↓sxd, sxu, ↓zE, ↓exq, St.keep, ↓zD, Nat.reduceBEq, Nat.reduceAdd, Nat.reduceLT, tysH32_4]
        (repeat ((with_reducible refine And.intro ?_ ?_); (focus (first | with_reducible rfl | trivial | exact fun h => h | exact fun h => (by rw [h]; rfl) | omega | assumption))))
        refine CallO.use (Table_c t hs) ?_
        try simp only [↓sxd, sxu, ↓zE, ↓exq, Nat.reduceBEq, Nat.reduceLT]
        (repeat ((with_reducible refine And.intro ?_ ?_); (focus (first | with_reducible rfl | trivial | exact fun h => h | exact fun h => (by rw [h]; rfl) | omega | assumption))))
        refine CallO.use (Cells_c l hl) ?_
        try simp only [↓sxd, sxu, ↓zE, ↓exq, Nat.reduceBEq, Nat.reduceLT]
        (repeat ((with_reducible refine And.intro ?_ ?_); (focus (first | with_reducible rfl | trivial | exact fun h => h | exact fun h => (by rw [h]; rfl) | omega | assumption))))
        refine CallO.use (Requests_c q hq) ?_
        try simp only [↓sxd, sxu, ↓zE, Nat.reduceBEq, Nat.reduceLT]
        (repeat ((with_reducible refine And.intro ?_ ?_); (focus (first | with_reducible rfl | trivial | exact fun h => h | exact fun h => (by rw [h]; rfl) | omega | assumption))))
        refine CallO.use (h0) ?_
        try simp only [↓sxd, sxu, ↓zE, ↓exq, ↓zK, Nat.reduceBEq, Nat.reduceAdd, Nat.reduceLT]
        (repeat' (first | rfl | exact trivial | exact fun h => h | exact fun h => (by rw [h]; rfl) | apply And.intro | omega | exact Nat.le_of_ble_eq_true rfl))) ?_
    refine Tr.reg [1, 5, 13, 14, 15, 16, 17] (by
        simp only [↓sxd, sxu, ↓zE, ↓exq, St.keep, ↓zD, Nat.reduceBEq, Nat.reduceAdd, Nat.reduceLT, tysH32_4]
        (repeat ((with_reducible refine And.intro ?_ ?_); (focus (first | with_reducible rfl | trivial | exact fun h => h | exact fun h => (by rw [h]; rfl) | omega | assumption))))
        refine CallO.use (Table_c t hs) ?_
        try simp only [↓sxd, sxu, ↓zE, ↓exq, Nat.reduceBEq, Nat.reduceLT]
        (repeat ((with_reducible refine And.intro ?_ ?_); (focus (first | with_reducible rfl | trivial | exact fun h => h | exact fun h => (by rw [h]; rfl) | omega | assumption))))
        refine CallO.use (Cells_c l hl) ?_
        try simp only [↓sxd, sxu, ↓zE, ↓exq, Nat.reduceBEq, Nat.reduceLT]
        (repeat ((with_reducible refine And.intro ?_ ?_); (focus (first | with_reducible rfl | trivial | exact fun h => h | exact fun h => (by rw [h]; rfl) | omega | assumption))))
        refine CallO.use (Requests_c lo (by omega)) ?_
        try simp only [↓sxd, sxu, ↓zE, Nat.reduceBEq, Nat.reduceLT]
        (repeat ((with_reducible refine And.intro ?_ ?_); (focus (first | with_reducible rfl | trivial | exact fun h => h | exact fun h => (by rw [h]; rfl) | omega | assumption))))
        refine CallO.use (h1) ?_
        try simp only [↓sxd, sxu, ↓zE, ↓exq, ↓zK, Nat.reduceBEq, Nat.reduceAdd, Nat.reduceLT]
        (repeat' (first | rfl | exact trivial | exact fun h => h | exact fun h => (by rw [h]; rfl) | apply And.intro | omega | exact Nat.le_of_ble_eq_true rfl))) ?_
    refine Tr.reg [14, 15, 16, 17, 18, 19] (by
        simp only [↓sxd, sxu, ↓zE, ↓exq, St.keep, ↓zD, Nat.reduceBEq, Nat.reduceAdd, Nat.reduceLT, tysH32_4]
        (repeat ((with_reducible refine And.intro ?_ ?_); (focus (first | with_reducible rfl | trivial | exact fun h => h | exact fun h => (by rw [h]; rfl) | omega | assumption))))
        refine CallO.use (Table_c t hs) ?_
        try simp only [↓sxd, sxu, ↓zE, ↓exq, Nat.reduceBEq, Nat.reduceLT]
        (repeat ((with_reducible refine And.intro ?_ ?_); (focus (first | with_reducible rfl | trivial | exact fun h => h | exact fun h => (by rw [h]; rfl) | omega | assumption))))
        refine CallO.use (Cells_c l hl) ?_
        try simp only [↓sxd, sxu, ↓zE, ↓exq, Nat.reduceBEq, Nat.reduceLT]
        (repeat ((with_reducible refine And.intro ?_ ?_); (focus (first | with_reducible rfl | trivial | exact fun h => h | exact fun h => (by rw [h]; rfl) | omega | assumption))))
        refine CallO.use (Requests_c le (by omega)) ?_
        try simp only [↓sxd, sxu, ↓zE, Nat.reduceBEq, Nat.reduceLT]
        (repeat ((with_reducible refine And.intro ?_ ?_); (focus (first | with_reducible rfl | trivial | exact fun h => h | exact fun h => (by rw [h]; rfl) | omega | assumption))))
        refine CallO.use (h2) ?_
        try simp only [↓sxd, sxu, ↓zE, ↓exq, ↓zK, Nat.reduceBEq, Nat.reduceAdd, Nat.reduceLT]
        (repeat' (first | rfl | exact trivial | exact fun h => h | exact fun h => (by rw [h]; rfl) | apply And.intro | omega | exact Nat.le_of_ble_eq_true rfl))) ?_
    refine Tr.seq ?_
    refine Tr.reg [14, 15, 16, 17, 18, 19, 128] (by
        simp only [↓sxd, sxu, ↓zE, ↓exq, St.keep, Nat.reduceBEq, Nat.reduceLT]
        iterate 7
          (repeat ((with_reducible refine And.intro ?_ ?_); (focus (first | with_reducible rfl | trivial | exact fun h => h | exact fun h => (by rw [h]; rfl) | omega | assumption))))
          refine GdO.mk _ (fun hg => by simp only [↓sxd, sxu, ↓exq, Nat.reduceBEq, hg]; (repeat' (first | rfl | exact trivial | exact fun h => h | exact fun h => (by rw [h]; rfl) | apply And.intro | omega | exact Nat.le_of_ble_eq_true rfl))) ?_
          simp only [↓sxd, sxu, ↓zE, ↓exq, ↓zI, Nat.reduceBEq, Nat.reduceLT]
        (repeat ((with_reducible refine And.intro ?_ ?_); (focus (first | with_reducible rfl | trivial | exact fun h => h | exact fun h => (by rw [h]; rfl) | omega | assumption))))
        first | refine GdO.and (fun hg => by simp only [sxu, Nat.reduceBEq, pickArgs, hg]; (repeat' (first | rfl | exact trivial | exact fun h => h | exact fun h => (by rw [h]; rfl) | apply And.intro | omega | exact Nat.le_of_ble_eq_true rfl))) ?_ | refine GdO.mk _ (fun hg => by simp only [↓sxd, sxu, ↓zE, ↓zC, zH, ↓exP, ↓exq, ↓zB, St.keep, ↓zI, ↓zW, ↓zJ, ↓zL, ↓zD, ↓zK, ↓zN, ↓zG, ↓zQ, ↓zV, ↓zA, sbnd, Nat.reduceBEq, Nat.reduceAdd, Nat.reduceLT, Nat.reduceMul, Nat.reduceSub, Nat.reduceLeDiff, Nat.reduceEqDiff, Int.reduceLE, Int.reduceLT, Int.reduceToNat, reduceIte, implies_true, sxe, tysH32_4, hg, if_true]; (repeat' (first | rfl | exact trivial | exact fun h => h | exact fun h => (by rw [h]; rfl) | apply And.intro | omega | exact Nat.le_of_ble_eq_true rfl))) ?_
        simp only [↓sxd, sxu, ↓zE, ↓exq, ↓zI, Nat.reduceBEq, Nat.reduceLT]
        (repeat' (first | rfl | exact trivial | exact fun h => h | exact fun h => (by rw [h]; rfl) | apply And.intro | omega | exact Nat.le_of_ble_eq_true rfl))) ?_
    refine Tr.cond rfl (fun h128 => ?_) (fun h128 => ?_)
    · exfalso
      rcases e1.1 with rfl | rfl <;> rcases e2.1 with rfl | rfl <;> simp at h128
    · refine Tr.skip ?_
      refine Tr.seq ?_
      refine Tr.reg [14, 15, 16, 17, 18, 19, 130] (by
          simp only [↓sxd, sxu, ↓zE, ↓exq, St.keep, Nat.reduceBEq, Nat.reduceLT]
          (repeat' (first | rfl | exact trivial | exact fun h => h | exact fun h => (by rw [h]; rfl) | apply And.intro | omega | exact Nat.le_of_ble_eq_true rfl))) ?_
      refine Tr.cond rfl (fun h130 => ?_) (fun h130 => ?_)
      · have he : e = 11 := by
          rcases e0.1 with h | h
          · subst h; simp at h130
          · exact h
        subst he
        refine Tr.reg [10] (by
            simp only [↓sxd, sxu, ↓zE, ↓exq, St.keep, Nat.reduceBEq, Nat.reduceLT]
            (repeat ((with_reducible refine And.intro ?_ ?_); (focus (first | with_reducible rfl | trivial | exact fun h => h | exact fun h => (by rw [h]; rfl) | omega | assumption))))
            refine GdO.mk _ (fun hg => by simp only [sxu, ↓exq, ↓zB]; (repeat ((with_reducible refine And.intro ?_ ?_); (focus (first | with_reducible rfl | trivial | exact fun h => h | exact fun h => (by rw [h]; rfl) | omega | assumption)))); exact CallP.use (awake_c) ⟨rfl, rfl, rfl⟩) ?_
            simp only [↓sxd, sxu, ↓zE, ↓exq, ↓zI, Nat.reduceBEq, Nat.reduceLT]
            (repeat' (first | rfl | exact trivial | exact fun h => h | exact fun h => (by rw [h]; rfl) | apply And.intro | omega | exact Nat.le_of_ble_eq_true rfl))) ?_
        refine Tr.ret ?_
        (refine ⟨.inr rfl, ?_⟩; first | rfl | exact ⟨rfl, rfl, trivial⟩ | exact ⟨rfl, rfl, rfl, trivial⟩ | (simp only [Res, ResL, ResOK, ↓sxd, sxu, ↓zE, ↓zC, zH, ↓exP, ↓exq, ↓zB, St.keep, ↓zI, ↓zW, ↓zJ, ↓zL, ↓zD, ↓zK, ↓zN, ↓zG, ↓zQ, ↓zV, ↓zA, sbnd, Nat.reduceBEq, Nat.reduceAdd, Nat.reduceLT, Nat.reduceMul, Nat.reduceSub, Nat.reduceLeDiff, Nat.reduceEqDiff, Int.reduceLE, Int.reduceLT, Int.reduceToNat, reduceIte, implies_true, sxe, tysH32_4]; (repeat' (first | rfl | exact trivial | exact fun h => h | exact fun h => (by rw [h]; rfl) | apply And.intro | omega | exact Nat.le_of_ble_eq_true rfl))))
      · have he : e = 0 := by simpa using h130
        subst he
        obtain ⟨rfl, hb⟩ := e1.2 rfl
        obtain ⟨rfl, hc⟩ := e2.2 rfl
        refine Tr.skip ?_
        refine Tr.reg [10] (by
            simp only [↓sxd, sxu, ↓zE, ↓exq, St.keep, Nat.reduceBEq, Nat.reduceLT]
            iterate 12
              (repeat ((with_reducible refine And.intro ?_ ?_); (focus (first | with_reducible rfl | trivial | exact fun h => h | exact fun h => (by rw [h]; rfl) | omega | assumption))))
              refine GdO.mk _ (fun hg => by simp only [↓sxd, sxu, ↓exq, ↓zB, ↓zL, Nat.reduceBEq, sxe, tysH32_4, hg]; (repeat' (first | rfl | exact trivial | exact fun h => h | exact fun h => (by rw [h]; rfl) | apply And.intro | omega | exact Nat.le_of_ble_eq_true rfl))) ?_
              simp only [↓sxd, sxu, ↓zE, ↓exq, ↓zI, Nat.reduceBEq, Nat.reduceLT]
            (repeat ((with_reducible refine And.intro ?_ ?_); (focus (first | with_reducible rfl | trivial | exact fun h => h | exact fun h => (by rw [h]; rfl) | omega | assumption))))
            refine GdO.mk _ (fun hg => by simp only [sxu, ↓exq, ↓zB, hg]; (repeat ((with_reducible refine And.intro ?_ ?_); (focus (first | with_reducible rfl | trivial | exact fun h => h | exact fun h => (by rw [h]; rfl) | omega | assumption)))); exact CallP.use (awake_c) ⟨rfl, rfl, rfl⟩) ?_
            simp only [↓sxd, sxu, ↓zE, ↓exq, ↓zI, Nat.reduceBEq, Nat.reduceLT]
            (repeat' (first | rfl | exact trivial | exact fun h => h | exact fun h => (by rw [h]; rfl) | apply And.intro | omega | exact Nat.le_of_ble_eq_true rfl))) ?_
        refine Tr.ret ?_
        exact ⟨.inr rfl, congrArg (fun n => some (B n)) (by
        rw [decide_eq_true (show B'.length ≤ A.length from hb), decide_eq_true (show C'.length ≤ A.length from hc)]
        rfl)⟩
end Go.Proofs.Ytijechcadlklhaa
