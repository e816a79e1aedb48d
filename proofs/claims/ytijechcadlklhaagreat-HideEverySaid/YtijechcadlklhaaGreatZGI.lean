/- Lemmas, part ZGI. Conditions: none. -/
import Derived.Test.YtijechcadlklhaaGreatZGG
import Derived.Test.YtijechcadlklhaaGreatZGH
import Derived.KernelRfl
set_option linter.unusedVariables false
namespace Go.Sy
abbrev sxd :=
  And.intro (@xC) <|
  And.intro (@xJ) <|
  And.intro (@xQ) <|
  And.intro (@xR) <|
  And.intro (@yB.eq_1) <|
  And.intro (@yB.eq_2) <|
  And.intro (@yB.eq_3) <|
  And.intro (@yB.eq_4) <|
  And.intro (@yB.eq_5) <|
  And.intro (@yB.eq_6) <|
  And.intro (@yB.eq_7) <|
  And.intro (@yB.eq_8) <|
  And.intro (@z7.eq_1) <|
  And.intro (@z7.eq_2) <|
  And.intro (@z7.eq_3) <|
  And.intro (@z7.eq_4) <|
  And.intro (@z7.eq_5) <|
  And.intro (@z7.eq_6) <|
  And.intro (@z7.eq_7) <|
  And.intro (@z7.eq_8) <|
  And.intro (@z7.eq_9) <|
  And.intro (@z7.eq_10) <|
  And.intro (@z7.eq_11) <|
  And.intro (@z7.eq_12) <|
  And.intro (@z7.eq_13) <|
  And.intro (@z7.eq_14) <|
  And.intro (@z7.eq_15) <|
  And.intro (@z7.eq_16) <|
  And.intro (@z5.eq_1) <|
  And.intro (@z5.eq_2) <|
  And.intro (@yC.eq_1) <|
  And.intro (@yC.eq_2) <|
  And.intro (@z6.eq_1) <|
  And.intro (@z6.eq_2) <|
  And.intro (@yJ.eq_1) <|
  And.intro (@yJ.eq_2) <|
  And.intro (@yJ.eq_3) <|
  And.intro (@yG.eq_1) <|
  And.intro (@yG.eq_2) <|
  And.intro (@yQ.eq_1) <|
  And.intro (@yQ.eq_2) <|
  And.intro (@yA.eq_1) <|
  @yA.eq_2
abbrev sxu :=
  And.intro (@St.keep.eq_1) <|
  And.intro (@implies_true.{0}) <|
  And.intro (@implies_true.{1}) <|
  And.intro (@ldOk.eq_1) <|
  And.intro (@ldOk.eq_2) <|
  And.intro (@stabOk.eq_1) <|
  And.intro (@stabOk.eq_2) <|
  And.intro (@addRd.eq_1) <|
  And.intro (@addRd.eq_2) <|
  And.intro (@List.contains_nil.{0}) <|
  And.intro (@List.contains_cons.{0}) <|
  And.intro (@Bool.or_false) <|
  And.intro (@Bool.false_eq_true) <|
  And.intro (@if_false.{1}) <|
  And.intro (@and_self) <|
  And.intro (@ev.eq_1) <|
  And.intro (@ev.eq_2) <|
  And.intro (@ev.eq_3) <|
  And.intro (@ev.eq_4) <|
  And.intro (@svOf.eq_1) <|
  And.intro (@svOf.eq_2) <|
  And.intro (@svOf.eq_3) <|
  And.intro (@svOf.eq_4) <|
  And.intro (@putT.eq_1) <|
  And.intro (@putT.eq_2) <|
  And.intro (@dstOk.eq_1) <|
  And.intro (@dstOk.eq_2) <|
  And.intro (@argTm.eq_1) <|
  And.intro (@argTm.eq_2) <|
  And.intro (@keepT.eq_1) <|
  And.intro (@keepT.eq_2) <|
  And.intro (@List.lookup_cons.{0,0}) <|
  And.intro (@List.lookup_nil.{0,0}) <|
  And.intro (@beq_self_eq_true.{0}) <|
  And.intro (@true_and) <|
  And.intro (@gcond.eq_1) <|
  And.intro (@gcond.eq_2) <|
  And.intro (@gcond.eq_3) <|
  And.intro (@gcond.eq_4) <|
  And.intro (@gcond.eq_5) <|
  And.intro (@gstrip.eq_1) <|
  And.intro (@gstrip.eq_2) <|
  And.intro (@List.getElem?_cons_zero.{0}) <|
  And.intro (@List.getElem?_cons_succ.{0}) <|
  And.intro (@Option.getD_some.{0}) <|
  And.intro (@Option.bind_some.{0,0}) <|
  And.intro (@putAt.eq_1) <|
  And.intro (@putAt.eq_2) <|
  And.intro (@svCells.eq_1) <|
  And.intro (@svCells.eq_2) <|
  And.intro (@svOk.eq_1) <|
  And.intro (@svOk.eq_2) <|
  And.intro (@SV.one.eq_1) <|
  And.intro (@SV.one.eq_2) <|
  And.intro (@SV.one.eq_3) <|
  And.intro (@SV.one.eq_4) <|
  And.intro (@SV.one.eq_5) <|
  And.intro (@svCell.eq_1) <|
  And.intro (@svCell.eq_2) <|
  And.intro (@upd.eq_1) <|
  And.intro (@upd.eq_2) <|
  And.intro (@del.eq_1) <|
  And.intro (@del.eq_2) <|
  And.intro (@List.getD_cons_zero.{0}) <|
  And.intro (@List.getD_cons_succ.{0}) <|
  And.intro (@List.getD_nil.{0}) <|
  And.intro (@List.drop_succ_cons.{0}) <|
  And.intro (@List.drop_zero.{0}) <|
  And.intro (@List.drop_nil.{0}) <|
  And.intro (@List.take_succ_cons.{0}) <|
  And.intro (@List.take_zero.{0}) <|
  And.intro (@List.take_nil.{0}) <|
  And.intro (@List.set_cons_zero.{0}) <|
  And.intro (@List.set_cons_succ.{0}) <|
  And.intro (@List.length_cons.{0}) <|
  And.intro (@List.length_nil.{0}) <|
  And.intro (@List.length_map.{0,0}) <|
  And.intro (@List.length_append.{0}) <|
  And.intro (@List.length_replicate.{0}) <|
  And.intro (@Nat.sub_zero) <|
  And.intro (@List.map_cons.{0,0}) <|
  And.intro (@List.map_nil.{0,0}) <|
  And.intro (@List.cons_append.{0}) <|
  And.intro (@List.nil_append.{0}) <|
  And.intro (@List.append_nil.{0}) <|
  And.intro (@List.all_cons.{0}) <|
  And.intro (@List.all_nil.{0}) <|
  And.intro (@Bool.and_true) <|
  And.intro (@Bool.true_and) <|
  And.intro (@Bool.and_self) <|
  And.intro (@Nat.zero_add) <|
  And.intro (@Nat.add_zero) <|
  And.intro (@Nat.mul_one) <|
  And.intro (@Nat.one_mul) <|
  And.intro (@Nat.zero_mul) <|
  And.intro (@Nat.mul_zero) <|
  And.intro (@Nat.zero_le) <|
  And.intro (@Nat.le_refl) <|
  And.intro (@if_true.{1}) <|
  And.intro (@ite_true.{1}) <|
  And.intro (@toD.eq_1) <|
  And.intro (@toD.eq_2) <|
  And.intro (@toD.eq_3) <|
  And.intro (@allD.eq_1) <|
  And.intro (@allD.eq_2) <|
  And.intro (@allDD.eq_1) <|
  And.intro (@allDD.eq_2) <|
  And.intro (@fillS.eq_1) <|
  And.intro (@fillS.eq_2) <|
  And.intro (@srcOf.eq_1) <|
  And.intro (@srcOf.eq_2) <|
  And.intro (@srcOf.eq_3) <|
  And.intro (@srcOf.eq_4) <|
  And.intro (@bnd.eq_1) <|
  And.intro (@bnd.eq_2) <|
  And.intro (@bnd.eq_3) <|
  And.intro (@Option.map_some.{0,0}) <|
  And.intro (@Option.map_none.{0,0}) <|
  And.intro (@Option.isSome_some.{0}) <|
  And.intro (@Option.isSome_none.{0}) <|
  And.intro (@Int.toNat_zero) <|
  And.intro (@Int.toNat_one) <|
  And.intro (@ne_eq.{1}) <|
  And.intro (@not_false_eq_true) <|
  And.intro (@not_true_eq_false) <|
  And.intro (@false_and) <|
  And.intro (@Int.natCast_zero) <|
  And.intro (@svKey.eq_1) <|
  And.intro (@svKey.eq_2) <|
  And.intro (@svKey.eq_3) <|
  And.intro (@litL.eq_1) <|
  And.intro (@litL.eq_2) <|
  And.intro (@litL.eq_3) <|
  And.intro (@mapOf.eq_1) <|
  And.intro (@mapOf.eq_2) <|
  And.intro (@mapOf.eq_3) <|
  And.intro (@Option.some.injEq.{0}) <|
  And.intro (@TypeDesc.int.injEq) <|
  And.intro (@exists_eq_left'.{1}) <|
  And.intro (@List.range_succ) <|
  And.intro (@List.range_zero) <|
  And.intro (@true_or) <|
  And.intro (@or_true) <|
  And.intro (@List.forall_mem_cons.{0}) <|
  And.intro (@List.not_mem_nil.{0}) <|
  And.intro (@false_implies) <|
  And.intro (@List.find?_nil.{0}) <|
  And.intro (@yE.eq_1) <|
  And.intro (@yE.eq_2) <|
  @yE.eq_3
end Go.Sy
namespace Go.Sy
theorem zF {a : Prop} (h : a := by (repeat' (first | rfl | exact trivial | exact fun h => h | exact fun h => (by rw [h]; rfl) | apply And.intro | omega | exact Nat.le_of_ble_eq_true rfl))) : a := h
theorem zP {a : Prop} (h : a := by repeat' (first | exact Pure.d _ | exact Pure.dx _ | exact Pure.dp _ | exact fa_nil | refine fa_cons ?_ ?_ | refine Pure.agg ?_ | refine Pure.tup ?_ | refine Pure.clo ?_ ?_ | refine Pure.fp ?_ | exact Pure.mapd _ | assumption)) : a := h
theorem zS {a : Prop} (h : a := by first | with_reducible rfl | trivial | exact fun h => h | exact fun h => (by rw [h]; rfl) | omega | assumption) : a := h
theorem zT {a : Prop} (h : a := by repeat' (first | exact TmT.cons rfl (TnS.d _) ?_ | exact trivial | exact F2.nil | refine F2.append ?_ ?_ | refine F2.map fun _ _ => ?_ | refine F2.cons ?_ ?_ | refine TmT.cons rfl ?_ ?_ | exact TnS.d _ | exact TnS.dx _ | exact TnS.dp _ | exact TnS.slc rfl | exact TnS.ptr rfl | refine TnS.frzf rfl (by simp) (by simp) (by simp) ?_ | refine TnS.frz0 rfl (by simp) (by simp) (by simp) ?_ | refine TnS.frzm rfl (by simp) ?_ | exact TnS.mapr rfl | exact TnS.yld rfl | refine ⟨rfl, ?_⟩ | refine TnO.arr ?_ | refine TnO.map ?_ | exact TnO.raw _ | exact TnO.iter _ _ | refine TnS.agg ?_ | refine TnS.tup ?_ | exact TnS.pure (Pure.clo (by assumption) (by assumption)) | refine TnS.clo ?_ ?_ | exact TnS.unk _ | exact TnS.pure (Pure.clo (by assumption) (by assumption)))) : a := h
end Go.Sy
namespace Go.Proofs.YtijechcadlklhaaGreat
abbrev Rows8 := List (List Int)
def cellAt (rows : Rows8) (r c : Nat) : Int := (rows.getD r []).getD c 0
def addAt (rows : Rows8) (r c : Nat) (d : Int) : Rows8 := rows.set r ((rows.getD r []).set c (cellAt rows r c + d))
abbrev HNode := Bool × Nat
structure HW where
  rows : Rows8
  cap : Int
  hid : List Bool
  deriving Inhabited
def HW.h (w : HW) (r c : Nat) : Bool := decide (c < 4) && w.hid.getD (4 * r + c) false
def ncell (a b : HNode) : Nat × Nat := if a.1 then (b.2, a.2) else (a.2, b.2)
def HW.room (w : HW) (rows : Rows8) (a b : HNode) : Int :=
  if w.h (ncell a b).1 (ncell a b).2 = false then 0 else if a.1 then cellAt rows (ncell a b).1 (ncell a b).2 else w.cap - cellAt rows (ncell a b).1 (ncell a b).2
def HW.others (w : HW) (a : HNode) : Nat := if a.1 then w.rows.length else (w.rows.getD 0 []).length
abbrev WR := Int × List HNode × Rows8
def walkL (w : HW) (rec : HNode → Int → List HNode → Rows8 → WR) (skip : Nat × Nat) (a : HNode) (most : Int) : Nat → Nat → List HNode → Rows8 → WR
  | _, 0, seen, rows => (0, seen, rows)
  | n, m + 1, seen, rows =>
    if seen.contains (!a.1, n) || ncell a (!a.1, n) == skip || min (w.room rows a (!a.1, n)) most == 0 then walkL w rec skip a most (n + 1) m seen rows
    else if (rec (!a.1, n) (min (w.room rows a (!a.1, n)) most) seen rows).1 == 0 then
      walkL w rec skip a most (n + 1) m (rec (!a.1, n) (min (w.room rows a (!a.1, n)) most) seen rows).2.1 (rec (!a.1, n) (min (w.room rows a (!a.1, n)) most) seen rows).2.2
    else ((rec (!a.1, n) (min (w.room rows a (!a.1, n)) most) seen rows).1, (rec (!a.1, n) (min (w.room rows a (!a.1, n)) most) seen rows).2.1,
      addAt (rec (!a.1, n) (min (w.room rows a (!a.1, n)) most) seen rows).2.2 (ncell a (!a.1, n)).1 (ncell a (!a.1, n)).2
        (if a.1 then -(rec (!a.1, n) (min (w.room rows a (!a.1, n)) most) seen rows).1 else (rec (!a.1, n) (min (w.room rows a (!a.1, n)) most) seen rows).1))
def walkS (w : HW) (to : HNode) (skip : Nat × Nat) : Nat → HNode → Int → List HNode → Rows8 → WR
  | 0, _, _, seen, rows => (0, seen, rows)
  | f + 1, a, most, seen, rows => if a == to then (most, seen, rows) else walkL w (walkS w to skip f) skip a most 0 (w.others a) (seen ++ [a]) rows
def Dim (n m : Nat) (rows : Rows8) : Prop := rows.length = n ∧ ∀ r, r < n → (rows.getD r []).length = m
theorem Dim.add {n m : Nat} {rows : Rows8} (h : Dim n m rows) (r c : Nat) (d : Int) : Dim n m (addAt rows r c d) := by
  refine ⟨by simp [addAt, h.1], fun k hk => ?_⟩
  have hk' : k < rows.length := by rw [h.1]; exact hk
  unfold addAt
  by_cases e : r = k
  · subst e
    simp [List.getD_eq_getElem?_getD, hk']
    simpa [List.getD_eq_getElem?_getD, hk'] using h.2 r hk
  · simp [List.getD_eq_getElem?_getD, List.getElem?_set_ne e]
    simpa [List.getD_eq_getElem?_getD] using h.2 k hk
theorem cellAt_add {n m : Nat} {rows : Rows8} (h : Dim n m rows) {r c : Nat} (hr : r < n) (hc : c < m) (d : Int) (r' c' : Nat) :
    cellAt (addAt rows r c d) r' c' = if r' = r ∧ c' = c then cellAt rows r c + d else cellAt rows r' c' := by
  have hr' : r < rows.length := by rw [h.1]; exact hr
  have hc' : c < (rows[r]).length := by
    have := h.2 r hr
    rw [← this] at hc
    simpa [List.getD_eq_getElem?_getD, hr'] using hc
  have e0 : (rows.getD r []) = rows[r] := by simp [List.getD_eq_getElem?_getD, hr']
  by_cases e : r' = r
  · subst e
    by_cases e2 : c' = c
    · subst e2
      simp only [and_self, if_true]
      show ((addAt rows r' c' d).getD r' []).getD c' 0 = _
      unfold addAt
      simp [List.getD_eq_getElem?_getD, hr', hc']
    · rw [if_neg (by simp [e2])]
      show ((addAt rows r' c d).getD r' []).getD c' 0 = (rows.getD r' []).getD c' 0
      unfold addAt
      simp [List.getD_eq_getElem?_getD, hr', List.getElem?_set_ne (Ne.symm e2)]
  · rw [if_neg (by simp [e])]
    show ((addAt rows r c d).getD r' []).getD c' 0 = (rows.getD r' []).getD c' 0
    unfold addAt
    simp [List.getD_eq_getElem?_getD, List.getElem?_set_ne (Ne.symm e)]
def rs8 (rows : Rows8) (r : Nat) : Int := cellAt rows r 0 + cellAt rows r 1 + cellAt rows r 2 + cellAt rows r 3
def cs8 (rows : Rows8) (c : Nat) : Int := cellAt rows 0 c + cellAt rows 1 c + cellAt rows 2 c
theorem rs8_add {n m : Nat} {rows : Rows8} (h : Dim n m rows) {r c : Nat} (hr : r < n) (hc : c < m) (hm : m ≤ 4) (d : Int) (r' : Nat) :
    rs8 (addAt rows r c d) r' = rs8 rows r' + if r' = r then d else 0 := by
  unfold rs8
  simp only [cellAt_add h hr hc]
  by_cases e : r' = r
  · subst e
    simp only [true_and, if_true]
    have : c = 0 ∨ c = 1 ∨ c = 2 ∨ c = 3 := by omega
    rcases this with rfl | rfl | rfl | rfl <;> simp <;> omega
  · simp [e]
theorem cs8_add {n m : Nat} {rows : Rows8} (h : Dim n m rows) {r c : Nat} (hr : r < n) (hc : c < m) (hn : n ≤ 3) (d : Int) (c' : Nat) :
    cs8 (addAt rows r c d) c' = cs8 rows c' + if c' = c then d else 0 := by
  unfold cs8
  simp only [cellAt_add h hr hc]
  by_cases e : c' = c
  · subst e
    simp only [and_true, if_true]
    have : r = 0 ∨ r = 1 ∨ r = 2 := by omega
    rcases this with rfl | rfl | rfl <;> simp <;> omega
  · simp [e]
def exc8 (rows : Rows8) (v : HNode) : Int := if v.1 then - cs8 rows v.2 else rs8 rows v.2
structure HW.Ok (w : HW) (n m : Nat) : Prop where
  dim : Dim n m w.rows
  n3 : n ≤ 3
  m4 : m ≤ 4
  n0 : 0 < n
  m0 : 0 < m
  hl : w.hid.length = 12
  hin : ∀ r c, w.h r c = true → r < n ∧ c < m
  cell : ∀ r c, r < n → c < m → 0 ≤ cellAt w.rows r c ∧ cellAt w.rows r c ≤ w.cap
  cap : 0 ≤ w.cap ∧ w.cap ≤ 1000
structure HW.Fit (w : HW) (n m : Nat) (rows : Rows8) : Prop where
  dim : Dim n m rows
  cell : ∀ r c, r < n → c < m → 0 ≤ cellAt rows r c ∧ cellAt rows r c ≤ w.cap
  shown : ∀ r c, w.h r c = false → cellAt rows r c = cellAt w.rows r c
def vOk (n m : Nat) (v : HNode) : Prop := v.2 < if v.1 then m else n
theorem HW.Ok.others {w : HW} {n m : Nat} (h : w.Ok n m) (a : HNode) : w.others a = if a.1 then n else m := by
  unfold HW.others
  rw [h.dim.1, h.dim.2 0 h.n0]
theorem ncell_ok {n m : Nat} {a : HNode} (ha : vOk n m a) {k : Nat} (hk : k < if a.1 then n else m) : (ncell a (!a.1, k)).1 < n ∧ (ncell a (!a.1, k)).2 < m := by
  obtain ⟨b, i⟩ := a
  cases b <;> simp [vOk, ncell] at ha hk ⊢ <;> exact ⟨by assumption, by assumption⟩
theorem nodup_len {α : Type} [DecidableEq α] : ∀ (l l' : List α), l.Nodup → (∀ x ∈ l, x ∈ l') → l.length ≤ l'.length
  | [], l', _, _ => Nat.zero_le _
  | x :: l, l', hd, hs => by
    have hx : x ∈ l' := hs x List.mem_cons_self
    rw [List.nodup_cons] at hd
    have := nodup_len l (l'.erase x) hd.2 fun y hy => by
      have hne : y ≠ x := fun e => hd.1 (e ▸ hy)
      exact (List.mem_erase_of_ne hne).2 (hs y (List.mem_cons_of_mem _ hy))
    have h1 := List.length_erase_of_mem hx
    have h2 : 0 < l'.length := List.length_pos_of_mem hx
    simp only [List.length_cons]
    omega
def allN (n m : Nat) : List HNode := (List.range n).map (fun i => (false, i)) ++ (List.range m).map (fun i => (true, i))
theorem seen_len {n m : Nat} {l : List HNode} (hd : l.Nodup) (hv : ∀ v ∈ l, vOk n m v) : l.length ≤ n + m := by
  have := nodup_len l (allN n m) hd fun v hv' => by
    obtain ⟨b, i⟩ := v
    have := hv _ hv'
    simp only [vOk] at this
    cases b
    · exact List.mem_append.2 (.inl (List.mem_map.2 ⟨i, by simpa using this, rfl⟩))
    · exact List.mem_append.2 (.inr (List.mem_map.2 ⟨i, by simpa using this, rfl⟩))
  simpa [allN] using this
def ofNode (v : HNode) (r c : Nat) : Prop := if v.1 then c = v.2 else r = v.2
structure WPos (w : HW) (n m : Nat) (to : HNode) (skip : Nat × Nat) (a : HNode) (most : Int) (fixed : HNode → Prop) (rows : Rows8) (g : Int) (rows' : Rows8) : Prop where
  pos : 0 < g
  le : g ≤ most
  fit : w.Fit n m rows'
  skip : cellAt rows' skip.1 skip.2 = cellAt rows skip.1 skip.2
  fix : ∀ v, fixed v → ∀ r c, ofNode v r c → cellAt rows' r c = cellAt rows r c
  exc : ∀ v, exc8 rows' v = exc8 rows v + (if v = a then g else 0) - (if v = to then g else 0)
structure WZero (w : HW) (n m : Nat) (to : HNode) (skip : Nat × Nat) (seen seen' : List HNode) (rows : Rows8) : Prop where
  sub : ∀ v ∈ seen, v ∈ seen'
  nd : seen'.Nodup
  ok : ∀ v ∈ seen', vOk n m v
  notto : to ∉ seen'
  closed : ∀ v ∈ seen', v ∉ seen → ∀ k, (k < if v.1 then n else m) → ncell v (!v.1, k) ≠ skip → w.room rows v (!v.1, k) ≠ 0 → ((!v.1, k) : HNode) ∈ seen'
theorem HW.Ok.room_nonneg {w : HW} {n m : Nat} (hw : w.Ok n m) {rows : Rows8} (hf : w.Fit n m rows) (a b : HNode) : 0 ≤ w.room rows a b := by
  unfold HW.room
  split
  · exact Int.le_refl _
  · rename_i h
    have h' : w.h (ncell a b).1 (ncell a b).2 = true := by simpa using h
    have hi := hw.hin _ _ h'
    have := hf.cell _ _ hi.1 hi.2
    split <;> omega
abbrev WSpec (w : HW) (n m : Nat) (to : HNode) (skip : Nat × Nat) (a : HNode) (most : Int) (seen : List HNode) (rows : Rows8) (x : WR) : Prop :=
  (x.1 = 0 ∧ x.2.2 = rows ∧ a ∈ x.2.1 ∧ WZero w n m to skip seen x.2.1 rows) ∨ (WPos w n m to skip a most (· ∈ seen) rows x.1 x.2.2)
theorem walkL_law {w : HW} {n m : Nat} (hw : w.Ok n m) {to : HNode} {skip : Nat × Nat} {f : Nat} {rec : HNode → Int → List HNode → Rows8 → WR} {a : HNode} {most : Int} (hmost : 0 < most) (ha : vOk n m a) (hato : a ≠ to)
    (hrec : ∀ b mo seen rows, vOk n m b → 0 < mo → b ∉ seen → seen.Nodup → (∀ v ∈ seen, vOk n m v) → to ∉ seen → w.Fit n m rows → 8 ≤ f + seen.length → WSpec w n m to skip b mo seen rows (rec b mo seen rows)) :
    ∀ (rem k : Nat) (seen : List HNode) (rows : Rows8), (k + rem = if a.1 then n else m) → a ∈ seen → seen.Nodup → (∀ v ∈ seen, vOk n m v) → to ∉ seen → w.Fit n m rows → 8 ≤ f + seen.length →
      ((walkL w rec skip a most k rem seen rows).1 = 0 ∧ (walkL w rec skip a most k rem seen rows).2.2 = rows ∧ WZero w n m to skip seen (walkL w rec skip a most k rem seen rows).2.1 rows ∧
        ∀ j, k ≤ j → (j < if a.1 then n else m) → ncell a (!a.1, j) ≠ skip → w.room rows a (!a.1, j) ≠ 0 → ((!a.1, j) : HNode) ∈ (walkL w rec skip a most k rem seen rows).2.1) ∨
      (WPos w n m to skip a most (fun v => v ∈ seen ∧ v ≠ a) rows (walkL w rec skip a most k rem seen rows).1 (walkL w rec skip a most k rem seen rows).2.2) := by
  intro rem
  induction rem with
  | zero =>
    intro k seen rows hk has hnd hok hto hfit hfu
    refine .inl ⟨rfl, rfl, ⟨fun _ h => h, hnd, hok, hto, fun v hv hn => absurd hv hn⟩, fun j h1 h2 => ?_⟩
    exfalso; omega
  | succ rem ih =>
    intro k seen rows hk has hnd hok hto hfit hfu
    have hkk : k < if a.1 then n else m := by omega
    have hvb : vOk n m (!a.1, k) := by
      obtain ⟨b, i⟩ := a
      cases b <;> simpa [vOk] using hkk
    have hroom := hw.room_nonneg hfit a (!a.1, k)
    rw [walkL]
    by_cases hc : (seen.contains (!a.1, k) || ncell a (!a.1, k) == skip || min (w.room rows a (!a.1, k)) most == 0) = true
    · rw [if_pos hc]
      rcases ih (k + 1) seen rows (by omega) has hnd hok hto hfit hfu with ⟨h1, h2, h3, h4⟩ | h
      · refine .inl ⟨h1, h2, h3, fun j hj1 hj2 hs hr => ?_⟩
        by_cases e : j = k
        · subst e
          simp only [Bool.or_eq_true, List.contains_iff_mem, beq_iff_eq] at hc
          rcases hc with (hc | hc) | hc
          · exact h3.sub _ hc
          · exact absurd hc hs
          · exfalso; omega
        · exact h4 j (by omega) hj2 hs hr
      · exact .inr h
    · rw [if_neg hc]
      simp only [Bool.or_eq_true, List.contains_iff_mem, beq_iff_eq, not_or] at hc
      obtain ⟨⟨hc1, hc2⟩, hc3⟩ := hc
      have hmo : 0 < min (w.room rows a (!a.1, k)) most := by omega
      have hsp := hrec (!a.1, k) (min (w.room rows a (!a.1, k)) most) seen rows hvb hmo hc1 hnd hok hto hfit hfu
      generalize hx : rec (!a.1, k) (min (w.room rows a (!a.1, k)) most) seen rows = x at hsp ⊢
      rcases hsp with ⟨z1, z2, z3, z4⟩ | hp
      · rw [if_pos (by simpa using z1), z2]
        rcases ih (k + 1) x.2.1 rows (by omega) (z4.sub _ has) z4.nd z4.ok z4.notto hfit (by
          have := nodup_len seen x.2.1 hnd z4.sub
          omega) with ⟨h1, h2, h3, h4⟩ | h
        · refine .inl ⟨h1, h2, ⟨fun v hv => h3.sub _ (z4.sub _ hv), h3.nd, h3.ok, h3.notto, fun v hv hn j hj1 hj2 hj3 => ?_⟩, fun j hj1 hj2 hs hr => ?_⟩
          · by_cases hvx : v ∈ x.2.1
            · exact h3.sub _ (z4.closed v hvx hn j hj1 hj2 hj3)
            · exact h3.closed v hv hvx j hj1 hj2 hj3
          · by_cases e : j = k
            · subst e; exact h3.sub _ z3
            · exact h4 j (by omega) hj2 hs hr
        · exact .inr ⟨h.pos, h.le, h.fit, h.skip, fun v hv => h.fix v ⟨z4.sub _ hv.1, hv.2⟩, h.exc⟩
      · have hg := hp.pos
        rw [if_neg (by simp; omega)]
        have hcl := ncell_ok ha hkk
        have hgle := hp.le
        have hcell : cellAt x.2.2 (ncell a (!a.1, k)).1 (ncell a (!a.1, k)).2 = cellAt rows (ncell a (!a.1, k)).1 (ncell a (!a.1, k)).2 := by
          refine hp.fix a has _ _ ?_
          obtain ⟨b, i⟩ := a
          cases b <;> simp [ofNode, ncell]
        have hgr : x.1 ≤ w.room rows a (!a.1, k) := by omega
        have hgm : x.1 ≤ most := by omega
        have hrm : w.h (ncell a (!a.1, k)).1 (ncell a (!a.1, k)).2 = true := by
          cases hh : w.h (ncell a (!a.1, k)).1 (ncell a (!a.1, k)).2
          · exfalso
            have : w.room rows a (!a.1, k) = 0 := by unfold HW.room; rw [if_pos hh]
            omega
          · rfl
        have hrv : w.room rows a (!a.1, k) = if a.1 then cellAt rows (ncell a (!a.1, k)).1 (ncell a (!a.1, k)).2 else w.cap - cellAt rows (ncell a (!a.1, k)).1 (ncell a (!a.1, k)).2 := by
          unfold HW.room; rw [hrm]; simp
        generalize hd : (if a.1 then -x.1 else x.1) = d
        generalize hcc : ncell a (!a.1, k) = cc at *
        have hca := fun r' c' => cellAt_add hp.fit.dim hcl.1 hcl.2 d r' c'
        refine .inr ⟨hg, hgm, ⟨hp.fit.dim.add _ _ _, fun r c hr hc => ?_, fun r c hh => ?_⟩, ?_, fun v hv r c ho => ?_, fun v => ?_⟩
        · rw [hca]
          split
          · rename_i e
            have h1 := hfit.cell _ _ hcl.1 hcl.2
            rw [hrv] at hgr
            rw [hcell, ← hd]
            cases hb : a.1 <;> simp only [hb, if_true, if_false, Bool.false_eq_true] at hgr ⊢ <;> omega
          · exact hp.fit.cell r c hr hc
        · rw [hca, if_neg]
          · exact hp.fit.shown r c hh
          · rintro ⟨rfl, rfl⟩
            rw [hrm] at hh; cases hh
        · rw [hca, if_neg]
          · exact hp.skip
          · rintro ⟨e1, e2⟩
            exact hc2 (Prod.ext e1.symm e2.symm)
        · rw [hca, if_neg]
          · exact hp.fix v hv.1 r c ho
          · rintro ⟨rfl, rfl⟩
            obtain ⟨hv1, hv2⟩ := hv
            obtain ⟨b, i⟩ := a
            obtain ⟨bv, iv⟩ := v
            subst hcc
            cases b <;> cases bv <;> simp [ofNode, ncell] at ho
            · exact hv2 (by rw [ho])
            · exact hc1 (by simpa [ho] using hv1)
            · exact hc1 (by simpa [ho] using hv1)
            · exact hv2 (by rw [ho])
        · have he := hp.exc v
          have hr8 := fun r' => rs8_add hp.fit.dim hcl.1 hcl.2 hw.m4 d r'
          have hc8 := fun c' => cs8_add hp.fit.dim hcl.1 hcl.2 hw.n3 d c'
          obtain ⟨b, i⟩ := a
          obtain ⟨bv, iv⟩ := v
          subst hcc
          generalize (if ((bv, iv) : HNode) = to then x.1 else 0) = z at he ⊢
          cases b <;> simp only [ncell, Bool.not_true, Bool.not_false, Bool.false_eq_true, if_false, if_true] at hr8 hc8 hd he ⊢ <;> cases bv <;> simp only [exc8, Prod.mk.injEq, Bool.false_eq_true, if_false, if_true, false_and, true_and, reduceCtorEq, hr8, hc8] at he ⊢ <;> subst hd <;> (repeat' split) <;> (repeat' split at he) <;> omega
theorem walkS_law {w : HW} {n m : Nat} (hw : w.Ok n m) {to : HNode} {skip : Nat × Nat} : ∀ (f : Nat) (b : HNode) (mo : Int) (seen : List HNode) (rows : Rows8), vOk n m b → 0 < mo → b ∉ seen → seen.Nodup → (∀ v ∈ seen, vOk n m v) → to ∉ seen → w.Fit n m rows → 8 ≤ f + seen.length →
    WSpec w n m to skip b mo seen rows (walkS w to skip f b mo seen rows)
  | 0, b, mo, seen, rows, hb, hmo, hns, hnd, hok, hto, hfit, hfu => by
    exfalso
    have := seen_len (n := n) (m := m) (l := b :: seen) (List.nodup_cons.2 ⟨hns, hnd⟩) (fun v hv => by
      rcases List.mem_cons.1 hv with rfl | h
      · exact hb
      · exact hok v h)
    have h3 := hw.n3
    have h4 := hw.m4
    simp only [List.length_cons] at this
    omega
  | f + 1, b, mo, seen, rows, hb, hmo, hns, hnd, hok, hto, hfit, hfu => by
    rw [walkS]
    by_cases e : b = to
    · subst e
      rw [if_pos (by simp)]
      exact .inr ⟨hmo, Int.le_refl _, hfit, rfl, fun _ _ _ _ _ => rfl, fun v => by dsimp only; omega⟩
    · rw [if_neg (by simpa using e), hw.others]
      have hnd1 : (seen ++ [b]).Nodup := by
        rw [List.nodup_append]
        exact ⟨hnd, by simp, fun x hx y hy => by
          rw [List.mem_singleton] at hy
          subst hy
          exact fun h => hns (h ▸ hx)⟩
      have hok1 : ∀ v ∈ seen ++ [b], vOk n m v := fun v hv => by
        rcases List.mem_append.1 hv with h | h
        · exact hok v h
        · rw [List.mem_singleton] at h; subst h; exact hb
      have hto1 : to ∉ seen ++ [b] := fun h => by
        rcases List.mem_append.1 h with h | h
        · exact hto h
        · rw [List.mem_singleton] at h; exact e h.symm
      rcases walkL_law hw (f := f) (rec := walkS w to skip f) (skip := skip) hmo hb e (fun b' mo' seen' rows' h1 h2 h3 h4 h5 h6 h7 h8 => walkS_law hw f b' mo' seen' rows' h1 h2 h3 h4 h5 h6 h7 h8) (if b.1 then n else m) 0 (seen ++ [b]) rows (by omega) (by simp) hnd1 hok1 hto1 hfit (by simp; omega) with ⟨h1, h2, h3, h4⟩ | h
      · refine .inl ⟨h1, h2, h3.sub _ (by simp), ⟨fun v hv => h3.sub _ (by simp [hv]), h3.nd, h3.ok, h3.notto, fun v hv hn j hj1 hj2 hj3 => ?_⟩⟩
        by_cases hvb : v = b
        · subst hvb; exact h4 j (Nat.zero_le _) hj1 hj2 hj3
        · exact h3.closed v hv (by simp [hn, hvb]) j hj1 hj2 hj3
      · exact .inr ⟨h.pos, h.le, h.fit, h.skip, fun v hv => h.fix v ⟨by simp [hv], fun h => hns (h ▸ hv)⟩, h.exc⟩
end Go.Proofs.YtijechcadlklhaaGreat
namespace Go.Proofs.YtijechcadlklhaaGreat
def HW.move (w : HW) (rows : Rows8) (a to : HNode) (skip : Nat × Nat) (most : Int) : Int × Rows8 := ((walkS w to skip 8 a most [] rows).1, (walkS w to skip 8 a most [] rows).2.2)
def HW.shift (w : HW) (up : Bool) (rows : Rows8) (r c : Nat) : Int × Rows8 :=
  if up then ((w.move rows (true, c) (false, r) (r, c) (w.cap - cellAt rows r c)).1, addAt (w.move rows (true, c) (false, r) (r, c) (w.cap - cellAt rows r c)).2 r c (w.move rows (true, c) (false, r) (r, c) (w.cap - cellAt rows r c)).1)
  else ((w.move rows (false, r) (true, c) (r, c) (cellAt rows r c)).1, addAt (w.move rows (false, r) (true, c) (r, c) (cellAt rows r c)).2 r c (-(w.move rows (false, r) (true, c) (r, c) (cellAt rows r c)).1))
def HW.reachF (w : HW) (up : Bool) (r c : Nat) : Nat → Rows8 → Rows8
  | 0, rows => rows
  | f + 1, rows => if w.h r c then (if (w.shift up rows r c).1 > 0 then w.reachF up r c f (w.shift up rows r c).2 else (w.shift up rows r c).2) else rows
def HW.reach (w : HW) (up : Bool) (r c : Nat) : Rows8 := w.reachF up r c 1001 w.rows
structure HW.Cand (w : HW) (n m : Nat) (rows : Rows8) : Prop where
  fit : w.Fit n m rows
  row : ∀ r, rs8 rows r = rs8 w.rows r
  col : ∀ c, cs8 rows c = cs8 w.rows c
theorem HW.Ok.self {w : HW} {n m : Nat} (h : w.Ok n m) : w.Cand n m w.rows := ⟨⟨h.dim, h.cell, fun _ _ _ => rfl⟩, fun _ => rfl, fun _ => rfl⟩
def S12 (f : Nat → Nat → Int) : Int := f 0 0 + f 0 1 + f 0 2 + f 0 3 + f 1 0 + f 1 1 + f 1 2 + f 1 3 + f 2 0 + f 2 1 + f 2 2 + f 2 3
theorem S12_le {f g : Nat → Nat → Int} (h : ∀ i j, i < 3 → j < 4 → f i j ≤ g i j) : S12 f ≤ S12 g := by
  unfold S12
  have a := h 0 0 (by omega) (by omega); have b := h 0 1 (by omega) (by omega); have c := h 0 2 (by omega) (by omega); have d := h 0 3 (by omega) (by omega)
  have a' := h 1 0 (by omega) (by omega); have b' := h 1 1 (by omega) (by omega); have c' := h 1 2 (by omega) (by omega); have d' := h 1 3 (by omega) (by omega)
  have a'' := h 2 0 (by omega) (by omega); have b'' := h 2 1 (by omega) (by omega); have c'' := h 2 2 (by omega) (by omega); have d'' := h 2 3 (by omega) (by omega)
  omega
theorem S12_eq {f g : Nat → Nat → Int} (h : ∀ i j, i < 3 → j < 4 → f i j = g i j) : S12 f = S12 g :=
  Int.le_antisymm (S12_le fun i j a b => Int.le_of_eq (h i j a b)) (S12_le fun i j a b => Int.le_of_eq (h i j a b).symm)
theorem S12_add (f g : Nat → Nat → Int) : S12 (fun i j => f i j + g i j) = S12 f + S12 g := by simp only [S12]; omega
theorem S12_one {r c : Nat} (hr : r < 3) (hc : c < 4) (z : Int) : S12 (fun i j => if i = r ∧ j = c then z else 0) = z := by
  have h1 : r = 0 ∨ r = 1 ∨ r = 2 := by omega
  have h2 : c = 0 ∨ c = 1 ∨ c = 2 ∨ c = 3 := by omega
  rcases h1 with rfl | rfl | rfl <;> rcases h2 with rfl | rfl | rfl | rfl <;> simp [S12]
def HW.hv (w : HW) (rows : Rows8) (i j : Nat) : Int := if w.h i j then cellAt rows i j else 0
def cutT (f : Nat → Nat → Int) (A K : Nat → Bool) (i j : Nat) : Int := (if A i then f i j else 0) - (if K j then f i j else 0)
def HW.cutC (w : HW) (r c : Nat) (A K : Nat → Bool) (i j : Nat) : Int := if w.h i j = true ∧ ¬ (i = r ∧ j = c) ∧ A i = true ∧ K j = false then w.cap else 0
theorem S12_cut (f : Nat → Nat → Int) (A K : Nat → Bool) : S12 (cutT f A K) =
    ((if A 0 then f 0 0 + f 0 1 + f 0 2 + f 0 3 else 0) + (if A 1 then f 1 0 + f 1 1 + f 1 2 + f 1 3 else 0) + (if A 2 then f 2 0 + f 2 1 + f 2 2 + f 2 3 else 0))
    - ((if K 0 then f 0 0 + f 1 0 + f 2 0 else 0) + (if K 1 then f 0 1 + f 1 1 + f 2 1 else 0) + (if K 2 then f 0 2 + f 1 2 + f 2 2 else 0) + (if K 3 then f 0 3 + f 1 3 + f 2 3 else 0)) := by
  have e4 : ∀ (b : Bool) (x y z u : Int), (if b then x + y + z + u else 0) = (if b then x else 0) + (if b then y else 0) + (if b then z else 0) + (if b then u else 0) := by intro b; cases b <;> simp
  have e3 : ∀ (b : Bool) (x y z : Int), (if b then x + y + z else 0) = (if b then x else 0) + (if b then y else 0) + (if b then z else 0) := by intro b; cases b <;> simp
  simp only [e4, e3, S12, cutT]
  omega
def HW.CanP (w : HW) (r c : Nat) (v : Int) : Prop := 0 ≤ v ∧ v ≤ w.cap ∧ ∀ A K : Nat → Bool, S12 (cutT (w.hv w.rows) A K) - (if A r then v else 0) + (if K c then v else 0) ≤ S12 (w.cutC r c A K)
theorem HW.Cand.hsum {w : HW} {n m : Nat} {y : Rows8} (hy : w.Cand n m y) (A K : Nat → Bool) : S12 (cutT (w.hv y) A K) = S12 (cutT (w.hv w.rows) A K) := by
  have e : ∀ i j, cellAt y i j - w.hv y i j = cellAt w.rows i j - w.hv w.rows i j := by
    intro i j
    unfold HW.hv
    cases h : w.h i j
    · simp [hy.fit.shown i j h]
    · simp
  have hr : ∀ i, w.hv y i 0 + w.hv y i 1 + w.hv y i 2 + w.hv y i 3 = w.hv w.rows i 0 + w.hv w.rows i 1 + w.hv w.rows i 2 + w.hv w.rows i 3 := by
    intro i
    have := hy.row i
    unfold rs8 at this
    have a := e i 0; have b := e i 1; have c := e i 2; have d := e i 3
    omega
  have hc : ∀ j, w.hv y 0 j + w.hv y 1 j + w.hv y 2 j = w.hv w.rows 0 j + w.hv w.rows 1 j + w.hv w.rows 2 j := by
    intro j
    have := hy.col j
    unfold cs8 at this
    have a := e 0 j; have b := e 1 j; have c := e 2 j
    omega
  rw [S12_cut, S12_cut]
  simp only [hr, hc]
theorem S12_but {w : HW} {f : Nat → Nat → Int} {r c : Nat} (hr : r < 3) (hc : c < 4) (A K : Nat → Bool) (v : Int) (hv : f r c = v) :
    S12 (cutT f A K) - (if A r then v else 0) + (if K c then v else 0) = S12 (fun i j => if i = r ∧ j = c then 0 else cutT f A K i j) := by
  have : S12 (cutT f A K) = S12 (fun i j => if i = r ∧ j = c then 0 else cutT f A K i j) + S12 (fun i j => if i = r ∧ j = c then cutT f A K r c else 0) := by
    rw [← S12_add]
    refine S12_eq fun i j _ _ => ?_
    by_cases e : i = r ∧ j = c
    · obtain ⟨rfl, rfl⟩ := e; simp
    · simp [e]
  rw [this, S12_one hr hc]
  unfold cutT
  rw [hv]
  omega
theorem HW.Cand.can {w : HW} {n m : Nat} (hw : w.Ok n m) {y : Rows8} (hy : w.Cand n m y) {r c : Nat} (hh : w.h r c = true) : w.CanP r c (cellAt y r c) := by
  have hi := hw.hin r c hh
  have h3 := hw.n3
  have h4 := hw.m4
  have hb := hy.fit.cell r c hi.1 hi.2
  refine ⟨hb.1, hb.2, fun A K => ?_⟩
  rw [← hy.hsum A K, S12_but (w := w) (by omega) (by omega) A K _ (by simp [HW.hv, hh])]
  refine S12_le fun i j _ _ => ?_
  unfold HW.cutC cutT HW.hv
  cases hij : w.h i j
  · simp
  · have hb' := hy.fit.cell i j (hw.hin i j hij).1 (hw.hin i j hij).2
    by_cases e : i = r ∧ j = c
    · simp [e]
    · cases A i <;> cases K j <;> simp [e] <;> omega
def HW.Cut (w : HW) (rows : Rows8) (r c : Nat) (A K : Nat → Bool) : Prop :=
  ∀ i j, w.h i j = true → ¬ (i = r ∧ j = c) → (A i = true → K j = false → cellAt rows i j = w.cap) ∧ (A i = false → K j = true → cellAt rows i j = 0)
theorem HW.Cut.sum {w : HW} {n m : Nat} (hw : w.Ok n m) {x : Rows8} (hx : w.Cand n m x) {r c : Nat} (hh : w.h r c = true) {A K : Nat → Bool} (h : w.Cut x r c A K) :
    S12 (cutT (w.hv w.rows) A K) - (if A r then cellAt x r c else 0) + (if K c then cellAt x r c else 0) = S12 (w.cutC r c A K) := by
  have hi := hw.hin r c hh
  have h3 := hw.n3
  have h4 := hw.m4
  rw [← hx.hsum A K, S12_but (w := w) (by omega) (by omega) A K _ (by simp [HW.hv, hh])]
  refine S12_eq fun i j _ _ => ?_
  unfold HW.cutC cutT HW.hv
  cases hij : w.h i j
  · simp
  · by_cases e : i = r ∧ j = c
    · simp [e]
    · have := h i j hij e
      cases hA : A i <;> cases hK : K j <;> simp [e] <;> simp_all
theorem cut_up {w : HW} {n m : Nat} (hw : w.Ok n m) {x : Rows8} (hx : w.Cand n m x) {r c : Nat} (hh : w.h r c = true) {A K : Nat → Bool} (h : w.Cut x r c A K) (hA : A r = false) (hK : K c = true) {v : Int} (hv : w.CanP r c v) : v ≤ cellAt x r c := by
  have := h.sum hw hx hh
  have := hv.2.2 A K
  simp [hA, hK] at *
  omega
theorem cut_down {w : HW} {n m : Nat} (hw : w.Ok n m) {x : Rows8} (hx : w.Cand n m x) {r c : Nat} (hh : w.h r c = true) {A K : Nat → Bool} (h : w.Cut x r c A K) (hA : A r = true) (hK : K c = false) {v : Int} (hv : w.CanP r c v) : cellAt x r c ≤ v := by
  have := h.sum hw hx hh
  have := hv.2.2 A K
  simp [hA, hK] at *
  omega
theorem zero_cut {w : HW} {n m : Nat} (hw : w.Ok n m) {x : Rows8} {r c : Nat} {to : HNode} {S : List HNode} (h : WZero w n m to (r, c) [] S x) : w.Cut x r c (fun i => S.contains (false, i)) (fun j => S.contains (true, j)) := by
  intro i j hij hne
  have hi := hw.hin i j hij
  refine ⟨fun h1 h2 => ?_, fun h1 h2 => ?_⟩ <;> simp only at h1 h2
  · rw [List.contains_iff_mem] at h1
    have h2' : ((true, j) : HNode) ∉ S := fun hc => by rw [← List.contains_iff_mem, h2] at hc; cases hc
    have := h.closed _ h1 (by simp) j (by simpa using hi.2) (by
      intro e
      simp only [ncell, Bool.false_eq_true, if_false, Prod.mk.injEq] at e
      exact hne e)
    by_cases hr : w.room x (false, i) (true, j) = 0
    · simp [HW.room, ncell, hij] at hr
      omega
    · exact absurd (this hr) h2'
  · rw [List.contains_iff_mem] at h2
    have h1' : ((false, i) : HNode) ∉ S := fun hc => by rw [← List.contains_iff_mem, h1] at hc; cases hc
    have := h.closed _ h2 (by simp) i (by simpa using hi.1) (by
      intro e
      simp only [ncell, if_true, Prod.mk.injEq] at e
      exact hne e)
    by_cases hr : w.room x (true, j) (false, i) = 0
    · simpa [HW.room, ncell, hij] using hr
    · exact absurd (this hr) h1'
theorem walkL_none {w : HW} {n m : Nat} (hw : w.Ok n m) {rows : Rows8} (hf : w.Fit n m rows) (rec : HNode → Int → List HNode → Rows8 → WR) (skip : Nat × Nat) (a : HNode) : ∀ (rem k : Nat) (seen : List HNode), walkL w rec skip a 0 k rem seen rows = (0, seen, rows)
  | 0, _, _ => rfl
  | rem + 1, k, seen => by
    rw [walkL, if_pos, walkL_none hw hf rec skip a rem]
    have := hw.room_nonneg hf a (!a.1, k)
    simp only [Bool.or_eq_true, beq_iff_eq]
    exact .inr (by omega)
theorem addAt_zero {n m : Nat} {rows : Rows8} (h : Dim n m rows) {r c : Nat} (hr : r < n) (hc : c < m) : addAt rows r c 0 = rows := by
  have hr' : r < rows.length := by rw [h.1]; exact hr
  have hc' : c < (rows[r]).length := by
    have := h.2 r hr
    rw [← this] at hc
    simpa [List.getD_eq_getElem?_getD, hr'] using hc
  unfold addAt cellAt
  simp [List.getD_eq_getElem?_getD, hr', hc']
theorem shift_law {w : HW} {n m : Nat} (hw : w.Ok n m) {x : Rows8} (hx : w.Cand n m x) {r c : Nat} (hh : w.h r c = true) (up : Bool) :
    (0 < (w.shift up x r c).1 ∧ w.Cand n m (w.shift up x r c).2 ∧ cellAt (w.shift up x r c).2 r c = cellAt x r c + (if up then (w.shift up x r c).1 else -(w.shift up x r c).1)) ∨
    ((w.shift up x r c).1 = 0 ∧ (w.shift up x r c).2 = x ∧ ∀ v, w.CanP r c v → if up then v ≤ cellAt x r c else cellAt x r c ≤ v) := by
  have hi := hw.hin r c hh
  have hb := hx.fit.cell r c hi.1 hi.2
  have key : ∀ (a to : HNode) (most : Int) (d : Int → Int), a ≠ to → vOk n m a → vOk n m to → 0 ≤ most → (∀ g, d g = if up then g else -g) → a = (if up then (true, c) else (false, r)) → to = (if up then (false, r) else (true, c)) → most = (if up then w.cap - cellAt x r c else cellAt x r c) →
      (0 < (w.move x a to (r, c) most).1 ∧ w.Cand n m (addAt (w.move x a to (r, c) most).2 r c (d (w.move x a to (r, c) most).1)) ∧ cellAt (addAt (w.move x a to (r, c) most).2 r c (d (w.move x a to (r, c) most).1)) r c = cellAt x r c + (if up then (w.move x a to (r, c) most).1 else -(w.move x a to (r, c) most).1)) ∨
      ((w.move x a to (r, c) most).1 = 0 ∧ addAt (w.move x a to (r, c) most).2 r c (d (w.move x a to (r, c) most).1) = x ∧ ∀ v, w.CanP r c v → if up then v ≤ cellAt x r c else cellAt x r c ≤ v) := by
    intro a to most d hat ha hto hmost hd hae hte hme
    by_cases h0 : most = 0
    · right
      have hm : w.move x a to (r, c) most = (0, x) := by
        unfold HW.move
        rw [walkS, if_neg (by simpa using hat), h0, walkL_none hw hx.fit]
      rw [hm]
      refine ⟨rfl, ?_, fun v hv => ?_⟩
      · have : d 0 = 0 := by rw [hd]; cases up <;> rfl
        simp only [this]
        exact addAt_zero hx.fit.dim hi.1 hi.2
      · cases up
        · simp only [Bool.false_eq_true, if_false] at hme ⊢; have := hv.1; omega
        · simp only [if_true] at hme ⊢; have := hv.2.1; omega
    · have hsp := walkS_law hw (to := to) (skip := (r, c)) 8 a most [] x ha (by omega) (by simp) .nil (by simp) (by simp) hx.fit (by simp)
      rcases hsp with ⟨z1, z2, z3, z4⟩ | hp
      · right
        refine ⟨z1, ?_, fun v hv => ?_⟩
        · have : d (w.move x a to (r, c) most).1 = 0 := by rw [hd, show (w.move x a to (r, c) most).1 = 0 from z1]; cases up <;> rfl
          rw [this]
          show addAt (walkS w to (r, c) 8 a most [] x).2.2 r c 0 = x
          rw [z2]
          exact addAt_zero hx.fit.dim hi.1 hi.2
        · have hcut := zero_cut hw z4
          have hna : ∀ v, v ∉ (walkS w to (r, c) 8 a most [] x).2.1 → (walkS w to (r, c) 8 a most [] x).2.1.contains v = false := fun v hv => by
            rw [← Bool.not_eq_true, List.contains_iff_mem]; exact hv
          have hpa : (walkS w to (r, c) 8 a most [] x).2.1.contains a = true := List.contains_iff_mem.2 z3
          have hpt := hna _ z4.notto
          cases up
          · simp only [Bool.false_eq_true, if_false] at hae hte ⊢
            subst hae hte
            exact cut_down hw hx hh hcut hpa hpt hv
          · simp only [if_true] at hae hte ⊢
            subst hae hte
            exact cut_up hw hx hh hcut hpt hpa hv
      · left
        have hfit := hp.fit
        have hskip : cellAt (walkS w to (r, c) 8 a most [] x).2.2 r c = cellAt x r c := hp.skip
        have hca := fun r' c' => cellAt_add hfit.dim hi.1 hi.2 (d (walkS w to (r, c) 8 a most [] x).1) r' c'
        have hle := hp.le
        have hpos := hp.pos
        refine ⟨hpos, ⟨⟨hfit.dim.add _ _ _, fun r' c' hr hc => ?_, fun r' c' h0' => ?_⟩, fun r' => ?_, fun c' => ?_⟩, ?_⟩
        · show 0 ≤ cellAt (addAt (walkS w to (r, c) 8 a most [] x).2.2 r c (d (walkS w to (r, c) 8 a most [] x).1)) r' c' ∧ _
          show _ ∧ cellAt (addAt (walkS w to (r, c) 8 a most [] x).2.2 r c (d (walkS w to (r, c) 8 a most [] x).1)) r' c' ≤ _
          rw [hca]
          split
          · rw [hskip, hd]
            cases up <;> simp only [Bool.false_eq_true, if_false, if_true] at hme ⊢ <;> omega
          · exact hfit.cell r' c' hr hc
        · show cellAt (addAt (walkS w to (r, c) 8 a most [] x).2.2 r c (d (walkS w to (r, c) 8 a most [] x).1)) r' c' = _
          rw [hca, if_neg]
          · exact hfit.shown r' c' h0'
          · rintro ⟨rfl, rfl⟩; rw [hh] at h0'; cases h0'
        · show rs8 (addAt (walkS w to (r, c) 8 a most [] x).2.2 r c (d (walkS w to (r, c) 8 a most [] x).1)) r' = _
          rw [rs8_add hfit.dim hi.1 hi.2 hw.m4, ← hx.row r', hd]
          have he := hp.exc (false, r')
          cases up <;> simp only [Bool.false_eq_true, if_false, if_true] at hae hte ⊢ <;> subst hae hte <;> simp only [exc8, Bool.false_eq_true, if_false, Prod.mk.injEq, true_and, false_and] at he <;> split <;> simp_all <;> omega
        · show cs8 (addAt (walkS w to (r, c) 8 a most [] x).2.2 r c (d (walkS w to (r, c) 8 a most [] x).1)) c' = _
          rw [cs8_add hfit.dim hi.1 hi.2 hw.n3, ← hx.col c', hd]
          have he := hp.exc (true, c')
          cases up <;> simp only [Bool.false_eq_true, if_false, if_true] at hae hte ⊢ <;> subst hae hte <;> simp only [exc8, if_true, Prod.mk.injEq, true_and, false_and, if_false, reduceCtorEq] at he <;> split <;> simp_all <;> omega
        · show cellAt (addAt (walkS w to (r, c) 8 a most [] x).2.2 r c (d (walkS w to (r, c) 8 a most [] x).1)) r c = _
          rw [hca, if_pos ⟨rfl, rfl⟩, hskip, hd]
          rfl
  cases up
  · have := key (false, r) (true, c) (cellAt x r c) (fun g => -g) (by simp) (by simpa [vOk] using hi.1) (by simpa [vOk] using hi.2) hb.1 (fun _ => by simp) (by simp) (by simp) (by simp)
    simpa [HW.shift] using this
  · have := key (true, c) (false, r) (w.cap - cellAt x r c) (fun g => g) (by simp) (by simpa [vOk] using hi.2) (by simpa [vOk] using hi.1) (by omega) (fun _ => by simp) (by simp) (by simp) (by simp)
    simpa [HW.shift] using this
theorem reachF_law {w : HW} {n m : Nat} (hw : w.Ok n m) {r c : Nat} (hh : w.h r c = true) (up : Bool) : ∀ (f : Nat) (x : Rows8), w.Cand n m x → (if up then w.cap - cellAt x r c else cellAt x r c) < f →
    w.Cand n m (w.reachF up r c f x) ∧ (if up then cellAt x r c ≤ cellAt (w.reachF up r c f x) r c else cellAt (w.reachF up r c f x) r c ≤ cellAt x r c) ∧ ∀ v, w.CanP r c v → if up then v ≤ cellAt (w.reachF up r c f x) r c else cellAt (w.reachF up r c f x) r c ≤ v
  | 0, x, hx, hf => by
    exfalso
    have hi := hw.hin r c hh
    have := hx.fit.cell r c hi.1 hi.2
    cases up <;> simp at hf <;> omega
  | f + 1, x, hx, hf => by
    rw [HW.reachF, if_pos hh]
    rcases shift_law hw hx hh up with ⟨h1, h2, h3⟩ | ⟨h1, h2, h3⟩
    · rw [if_pos h1]
      have ih := reachF_law hw hh up f _ h2 (by rw [h3]; cases up <;> simp at hf ⊢ <;> omega)
      refine ⟨ih.1, ?_, ih.2.2⟩
      have := ih.2.1
      rw [h3] at this
      cases up <;> simp at this ⊢ <;> omega
    · rw [if_neg (by omega), h2]
      exact ⟨hx, by cases up <;> simp, h3⟩
theorem HW.reachF_not {w : HW} {up : Bool} {r c : Nat} (h : w.h r c = false) (f : Nat) (rows : Rows8) : w.reachF up r c f rows = rows := by
  cases f with
  | zero => rfl
  | succ f => rw [HW.reachF, h]; simp
theorem HW.Ok.reach {w : HW} {n m : Nat} (hw : w.Ok n m) {r c : Nat} (hh : w.h r c = true) (up : Bool) :
    w.Cand n m (w.reach up r c) ∧ (if up then cellAt w.rows r c ≤ cellAt (w.reach up r c) r c else cellAt (w.reach up r c) r c ≤ cellAt w.rows r c) ∧ ∀ v, w.CanP r c v → if up then v ≤ cellAt (w.reach up r c) r c else cellAt (w.reach up r c) r c ≤ v := by
  refine reachF_law hw hh up 1001 w.rows hw.self ?_
  have hi := hw.hin r c hh
  have := hw.cell r c hi.1 hi.2
  have := hw.cap
  cases up <;> simp <;> omega
def HW.lo (w : HW) (r c : Nat) : Int := cellAt (w.reach false r c) r c
def HW.hi (w : HW) (r c : Nat) : Int := cellAt (w.reach true r c) r c
def HW.Can (w : HW) (r c : Nat) (v : Int) : Prop := if w.h r c then w.CanP r c v else v = cellAt w.rows r c
theorem CanP_mid {w : HW} {r c : Nat} {a b v : Int} (ha : w.CanP r c a) (hb : w.CanP r c b) (h1 : a ≤ v) (h2 : v ≤ b) : w.CanP r c v := by
  refine ⟨by have := ha.1; omega, by have := hb.2.1; omega, fun A K => ?_⟩
  have x := ha.2.2 A K
  have y := hb.2.2 A K
  cases hA : A r <;> cases hK : K c <;> simp [hA, hK] at x y ⊢ <;> omega
theorem HW.Ok.can_iff {w : HW} {n m : Nat} (hw : w.Ok n m) (r c : Nat) (v : Int) : w.Can r c v ↔ w.lo r c ≤ v ∧ v ≤ w.hi r c := by
  unfold HW.Can HW.lo HW.hi
  cases hh : w.h r c
  · simp only [Bool.false_eq_true, if_false, HW.reach, HW.reachF_not hh]
    omega
  · simp only [if_true]
    have hl := hw.reach hh false
    have hu := hw.reach hh true
    simp only [Bool.false_eq_true, if_false, if_true] at hl hu
    refine ⟨fun h => ⟨hl.2.2 v h, hu.2.2 v h⟩, fun h => CanP_mid (hl.1.can hw hh) (hu.1.can hw hh) h.1 h.2⟩
theorem HW.Ok.lo_le {w : HW} {n m : Nat} (hw : w.Ok n m) (r c : Nat) : w.lo r c ≤ cellAt w.rows r c ∧ cellAt w.rows r c ≤ w.hi r c := by
  unfold HW.lo HW.hi
  cases hh : w.h r c
  · simp [HW.reach, HW.reachF_not hh]
  · have hl := hw.reach hh false
    have hu := hw.reach hh true
    simp only [Bool.false_eq_true, if_false, if_true] at hl hu
    exact ⟨hl.2.1, hu.2.1⟩
theorem HW.Cand.Can {w : HW} {n m : Nat} (hw : w.Ok n m) {y : Rows8} (hy : w.Cand n m y) (r c : Nat) : w.Can r c (cellAt y r c) := by
  unfold HW.Can
  cases hh : w.h r c
  · simp [hy.fit.shown r c hh]
  · simp only [if_true]; exact hy.can hw hh
theorem HW.Ok.ends {w : HW} {n m : Nat} (hw : w.Ok n m) (up : Bool) (r c : Nat) : w.Cand n m (w.reach up r c) := by
  cases hh : w.h r c
  · rw [HW.reach, HW.reachF_not hh]; exact hw.self
  · exact (hw.reach hh up).1
end Go.Proofs.YtijechcadlklhaaGreat
namespace Go.Proofs.YtijechcadlklhaaGreat
structure HC where
  row : Int
  col : Int
  deriving DecidableEq, Inhabited
structure HQ where
  cell : HC
  below : Int
  above : Int
  deriving DecidableEq, Inhabited
structure HT where
  rows : Rows8
  cap : Int
  deriving Inhabited
def inR (n lo hi : Int) : Bool := decide (lo ≤ n) && decide (n ≤ hi)
theorem inR_iff {n lo hi : Int} : inR n lo hi = true ↔ lo ≤ n ∧ n ≤ hi := by simp [inR]
def HT.filled (t : HT) (rows : Rows8) : Bool := decide (rows.length = t.rows.length) && rows.all fun l => decide (l.length = (t.rows.getD 0 []).length) && l.all fun n => inR n 0 t.cap
def HT.check (t : HT) : Int := if (decide (t.rows.length > 3) || !(t.rows.all fun l => decide (l.length ≤ 4))) = true then 3 else if (decide (t.rows.length = 0) || decide ((t.rows.getD 0 []).length = 0) || !inR t.cap 0 1000 || !t.filled t.rows) = true then 1 else 0
def HT.isCell (t : HT) (c : HC) : Bool := inR c.row 0 (t.rows.length - 1) && inR c.col 0 ((t.rows.getD 0 []).length - 1)
def cmpI8 (a b : Int) : Int := if a < b then -1 else if b < a then 1 else 0
def HC.cmp (a b : HC) : Int := if cmpI8 a.row b.row ≠ 0 then cmpI8 a.row b.row else cmpI8 a.col b.col
def sortedTo (l : List HC) : Nat → Bool
  | 0 => true
  | k + 1 => sortedTo l k && (decide (k = 0) || decide ((l.getD (k - 1) default).cmp (l.getD k default) < 0))
def marksTo (l : List HC) : Nat → List Bool
  | 0 => List.replicate 12 false
  | k + 1 => (marksTo l k).set (4 * (l.getD k default).row.toNat + (l.getD k default).col.toNat) true
def HT.pub (t : HT) (l : List HC) : Int := if t.check ≠ 0 then t.check else if (l.all t.isCell && sortedTo l l.length) = true then 0 else 2
def HT.w (t : HT) (l : List HC) : HW := ⟨t.rows, t.cap, marksTo l l.length⟩
structure HT.Ok (t : HT) (n m : Nat) : Prop where
  dim : Dim n m t.rows
  n3 : n ≤ 3
  m4 : m ≤ 4
  n0 : 0 < n
  m0 : 0 < m
  cell : ∀ r c, r < n → c < m → 0 ≤ cellAt t.rows r c ∧ cellAt t.rows r c ≤ t.cap
  cap : 0 ≤ t.cap ∧ t.cap ≤ 1000
theorem mem_getD' {α : Type} [Inhabited α] {l : List α} {x : α} (h : x ∈ l) : ∃ i, i < l.length ∧ l.getD i default = x := by
  obtain ⟨i, hi, rfl⟩ := List.getElem_of_mem h
  exact ⟨i, hi, by simp [List.getD_eq_getElem?_getD, hi]⟩
theorem getD_mem' {α : Type} {l : List α} {i : Nat} (d : α) (h : i < l.length) : l.getD i d ∈ l := by
  simp [List.getD_eq_getElem?_getD, h]
theorem HT.filled_iff {t : HT} {n m : Nat} (h1 : t.rows.length = n) (h2 : (t.rows.getD 0 []).length = m) (rows : Rows8) : t.filled rows = true ↔ Dim n m rows ∧ ∀ r c, r < n → c < m → 0 ≤ cellAt rows r c ∧ cellAt rows r c ≤ t.cap := by
  unfold HT.filled
  rw [h1, h2, Bool.and_eq_true, decide_eq_true_eq, List.all_eq_true]
  constructor
  · rintro ⟨e, h⟩
    have hrow : ∀ r, r < n → (rows.getD r []).length = m ∧ ∀ x ∈ rows.getD r [], inR x 0 t.cap = true := by
      intro r hr
      have := h (rows.getD r []) (getD_mem' [] (by omega))
      simpa using this
    refine ⟨⟨e, fun r hr => (hrow r hr).1⟩, fun r c hr hc => ?_⟩
    have := (hrow r hr).2 (cellAt rows r c) (getD_mem' 0 (by rw [(hrow r hr).1]; exact hc))
    exact inR_iff.1 this
  · rintro ⟨⟨e, hd⟩, hc⟩
    refine ⟨e, fun l hl => ?_⟩
    obtain ⟨r, hr, rfl⟩ := List.getElem_of_mem hl
    have e1 : rows.getD r [] = rows[r] := by simp [List.getD_eq_getElem?_getD, hr]
    have hl' : (rows[r]).length = m := by have := hd r (by omega); rwa [e1] at this
    rw [Bool.and_eq_true, decide_eq_true_eq, List.all_eq_true]
    refine ⟨hl', fun x hx => ?_⟩
    obtain ⟨c, hcc, rfl⟩ := List.getElem_of_mem hx
    have := hc r c (by omega) (by omega)
    unfold cellAt at this
    rw [e1] at this
    simp only [List.getD_eq_getElem?_getD, List.getElem?_eq_getElem hcc, Option.getD_some] at this
    exact inR_iff.2 this
theorem HT.check_ok {t : HT} (h : t.check = 0) : t.Ok t.rows.length (t.rows.getD 0 []).length := by
  unfold HT.check at h
  split at h
  · cases h
  · rename_i h1
    split at h
    · cases h
    · rename_i h2
      simp only [Bool.or_eq_true, Bool.not_eq_true', decide_eq_true_eq, not_or, Bool.not_eq_false] at h1 h2
      obtain ⟨h1a, h1b⟩ := h1
      obtain ⟨⟨⟨h2a, h2b⟩, h2c⟩, h2d⟩ := h2
      have hf := (HT.filled_iff rfl rfl _).1 h2d
      have hm : (t.rows.getD 0 []).length ≤ 4 := by
        have := List.all_eq_true.1 h1b (t.rows.getD 0 []) (getD_mem' [] (by omega))
        simpa using this
      exact ⟨hf.1, by omega, hm, by omega, by omega, hf.2, inR_iff.1 h2c⟩
theorem HT.isCell_iff {t : HT} {n m : Nat} (h1 : t.rows.length = n) (h2 : (t.rows.getD 0 []).length = m) {c : HC} : t.isCell c = true ↔ 0 ≤ c.row ∧ c.row < n ∧ 0 ≤ c.col ∧ c.col < m := by
  unfold HT.isCell
  rw [h1, h2, Bool.and_eq_true, inR_iff, inR_iff]
  omega
def HC.key (c : HC) : Nat := 4 * c.row.toNat + c.col.toNat
theorem cmp_key {a b : HC} (ha : 0 ≤ a.row ∧ 0 ≤ a.col ∧ a.col < 4) (hb : 0 ≤ b.row ∧ 0 ≤ b.col ∧ b.col < 4) : a.cmp b < 0 ↔ a.key < b.key := by
  unfold HC.cmp cmpI8 HC.key
  split <;> split <;> (try split) <;> omega
structure HidOk (n m : Nat) (l : List HC) : Prop where
  cell : ∀ c ∈ l, 0 ≤ c.row ∧ c.row < n ∧ 0 ≤ c.col ∧ c.col < m
  lt : l.Pairwise fun a b => a.key < b.key
theorem sortedTo_iff {l : List HC} (hc : ∀ c ∈ l, 0 ≤ c.row ∧ 0 ≤ c.col ∧ c.col < 4) : ∀ k, k ≤ l.length → (sortedTo l k = true ↔ ∀ i, i + 1 < k → (l.getD i default).key < (l.getD (i + 1) default).key)
  | 0, _ => by simp [sortedTo]
  | k + 1, hk => by
    rw [sortedTo, Bool.and_eq_true, sortedTo_iff hc k (by omega), Bool.or_eq_true, decide_eq_true_eq, decide_eq_true_eq]
    constructor
    · rintro ⟨h1, h2⟩ i hi
      by_cases e : i + 1 < k
      · exact h1 i e
      · have e' : k = i + 1 := by omega
        subst e'
        rcases h2 with h2 | h2
        · omega
        · rw [cmp_key (hc _ (getD_mem' _ (by omega))) (hc _ (getD_mem' _ (by omega)))] at h2
          simpa using h2
    · intro h
      refine ⟨fun i hi => h i (by omega), ?_⟩
      by_cases e : k = 0
      · exact .inl e
      · right
        rw [cmp_key (hc _ (getD_mem' _ (by omega))) (hc _ (getD_mem' _ (by omega)))]
        have := h (k - 1) (by omega)
        rwa [show k - 1 + 1 = k by omega] at this
theorem adj_pairwise {l : List HC} (h : ∀ i, i + 1 < l.length → (l.getD i default).key < (l.getD (i + 1) default).key) : l.Pairwise fun a b => a.key < b.key := by
  induction l with
  | nil => exact .nil
  | cons x l ih =>
    have ih' := ih fun i hi => by
      have := h (i + 1) (by simp; omega)
      simpa using this
    refine .cons ?_ ih'
    cases l with
    | nil => intro y hy; cases hy
    | cons z l =>
      have h0 := h 0 (by simp)
      simp only [List.getD_cons_zero, List.getD_cons_succ] at h0
      intro y hy
      rcases List.mem_cons.1 hy with rfl | hy
      · exact h0
      · have := (List.pairwise_cons.1 ih').1 y hy
        omega
theorem pairwise_adj {l : List HC} (h : l.Pairwise fun a b => a.key < b.key) : ∀ i, i + 1 < l.length → (l.getD i default).key < (l.getD (i + 1) default).key := by
  intro i hi
  have := List.pairwise_iff_getElem.1 h i (i + 1) (by omega) hi (by omega)
  simpa [List.getD_eq_getElem?_getD, show i < l.length by omega, hi] using this
theorem HT.pub_ok {t : HT} {l : List HC} (h : t.pub l = 0) : t.check = 0 ∧ HidOk t.rows.length (t.rows.getD 0 []).length l := by
  unfold HT.pub at h
  split at h
  · rename_i h1; exact absurd h h1
  · rename_i h1
    have h0 : t.check = 0 := by simpa using h1
    have ho := HT.check_ok h0
    split at h
    · rename_i h2
      rw [Bool.and_eq_true, List.all_eq_true] at h2
      have hc : ∀ c ∈ l, _ := fun c hc => (HT.isCell_iff (t := t) rfl rfl).1 (h2.1 c hc)
      refine ⟨h0, hc, adj_pairwise ((sortedTo_iff (fun c h => ?_) l.length (Nat.le_refl _)).1 h2.2)⟩
      have := hc c h
      have := ho.m4
      omega
    · cases h
theorem HT.pub_of {t : HT} {l : List HC} (h0 : t.check = 0) (h : HidOk t.rows.length (t.rows.getD 0 []).length l) : t.pub l = 0 := by
  have ho := HT.check_ok h0
  unfold HT.pub
  rw [if_neg (by simp [h0]), if_pos]
  rw [Bool.and_eq_true, List.all_eq_true]
  refine ⟨fun c hc => (HT.isCell_iff (t := t) rfl rfl).2 (h.cell c hc), (sortedTo_iff (fun c hc => ?_) l.length (Nat.le_refl _)).2 (pairwise_adj h.lt)⟩
  have := h.cell c hc
  have := ho.m4
  omega
theorem marks_len (l : List HC) : ∀ k, (marksTo l k).length = 12
  | 0 => by simp [marksTo]
  | k + 1 => by rw [marksTo, List.length_set, marks_len l k]
theorem marks_get (l : List HC) : ∀ k, k ≤ l.length → ∀ j, j < 12 → ((marksTo l k).getD j false = true ↔ ∃ i, i < k ∧ (l.getD i default).key = j)
  | 0, _, j, hj => by
    have : (marksTo l 0).getD j false = false := by
      unfold marksTo
      rw [List.getD_eq_getElem?_getD, List.getElem?_replicate]
      split <;> rfl
    rw [this]
    simp
  | k + 1, hk, j, hj => by
    rw [marksTo, show 4 * (l.getD k default).row.toNat + (l.getD k default).col.toNat = (l.getD k default).key from rfl]
    have ih := marks_get l k (by omega) j hj
    have hl := marks_len l k
    by_cases e : (l.getD k default).key = j
    · rw [e]
      constructor
      · intro _; exact ⟨k, by omega, e⟩
      · intro _; simp [List.getD_eq_getElem?_getD, hl, hj]
    · rw [List.getD_eq_getElem?_getD, List.getElem?_set_ne e, ← List.getD_eq_getElem?_getD, ih]
      constructor
      · rintro ⟨i, hi, h⟩; exact ⟨i, by omega, h⟩
      · rintro ⟨i, hi, h⟩
        refine ⟨i, ?_, h⟩
        by_cases e2 : i = k
        · subst e2; exact absurd h e
        · omega
theorem HidOk.h_iff {t : HT} {n m : Nat} {l : List HC} (hl : HidOk n m l) (hn : n ≤ 3) (hm : m ≤ 4) {r c : Nat} : (t.w l).h r c = true ↔ (⟨(r : Int), (c : Int)⟩ : HC) ∈ l := by
  unfold HW.h HT.w
  rw [Bool.and_eq_true, decide_eq_true_eq]
  constructor
  · rintro ⟨h4, h⟩
    by_cases hj : 4 * r + c < 12
    · obtain ⟨i, hi, he⟩ := (marks_get l l.length (Nat.le_refl _) _ hj).1 h
      have hb := hl.cell _ (getD_mem' default hi)
      have hm' := getD_mem' (default : HC) hi
      unfold HC.key at he
      have e : l.getD i default = ⟨(r : Int), (c : Int)⟩ := by
        cases hx : l.getD i default with
        | mk a b =>
          rw [hx] at he hb
          simp only at he hb
          congr 1 <;> omega
      rwa [e] at hm'
    · exfalso
      have hlen := marks_len l l.length
      simp only at h
      rw [List.getD_eq_getElem?_getD, List.getElem?_eq_none (by omega)] at h
      cases h
  · intro h
    have hb := hl.cell _ h
    simp only at hb
    obtain ⟨i, hi, he⟩ := mem_getD' h
    refine ⟨by omega, (marks_get l l.length (Nat.le_refl _) _ (by omega)).2 ⟨i, hi, ?_⟩⟩
    rw [he]
    simp [HC.key]
end Go.Proofs.YtijechcadlklhaaGreat
namespace Go.Proofs.YtijechcadlklhaaGreat
theorem getD_set {α : Type} (l : List α) (i j : Nat) (x d : α) (hi : i < l.length) : (l.set i x).getD j d = if j = i then x else l.getD j d := by
  by_cases e : j = i
  · subst e; simp [List.getD_eq_getElem?_getD, hi]
  · rw [List.getD_eq_getElem?_getD, List.getElem?_set_ne (Ne.symm e), if_neg e, ← List.getD_eq_getElem?_getD]
theorem HT.w_ok {t : HT} {l : List HC} (h : t.pub l = 0) : (t.w l).Ok t.rows.length (t.rows.getD 0 []).length := by
  obtain ⟨h0, hl⟩ := HT.pub_ok h
  have ho := HT.check_ok h0
  exact ⟨ho.dim, ho.n3, ho.m4, ho.n0, ho.m0, marks_len _ _, fun r c hh => by
    have := hl.cell _ ((hl.h_iff (t := t) ho.n3 ho.m4).1 hh)
    simp only at this
    omega, ho.cell, ho.cap⟩
end Go.Proofs.YtijechcadlklhaaGreat
