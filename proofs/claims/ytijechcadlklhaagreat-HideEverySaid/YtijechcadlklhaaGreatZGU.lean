/- Lemmas, part ZGU. Conditions: none. -/
import Derived.Test.YtijechcadlklhaaGreatZGT
set_option linter.unusedVariables false
namespace Go.Proofs.YtijechcadlklhaaGreat
open Go.Sy
set_option maxRecDepth 8000
theorem upd_mem {id : Nat} {o : Sy.Obj} {p : Nat × Sy.Obj} {hp : HpT} (h : p ∈ upd hp id o) : p = (id, o) ∨ p ∈ hp := mem_upd h
theorem fix_upd {n id : Nat} {hp : HpT} {o : Sy.Obj} (h : TnFix n hp) (hid : id < n) (ho : ∀ (r : Nat → Nat) (h h' : HpT), (∀ i, i < n → r i = i) → TnO r h h' o o) : TnFix n (upd hp id o) := fun p hp' => by
  rcases upd_mem hp' with rfl | h'
  · exact ⟨hid, ho⟩
  · exact h p h'
theorem look_lt {n id : Nat} {hp : HpT} {o : Sy.Obj} (h : TnFix n hp) (hl : hp.lookup id = some o) : id < n := (h _ (lookup_mem hl)).1
abbrev wob (rows : Rows8) (cap : Int) (hid : List Bool) : Sy.Obj := .arr 14 [SL rows :: I cap :: hid.map B]
theorem wob_tn {rows : Rows8} {cap : Int} {hid : List Bool} (r : Nat → Nat) (h h' : HpT) : TnO r h h' (wob rows cap hid) (wob rows cap hid) := TnO.arr (.cons (.cons (TnS.d _) (.cons (TnS.d _) (F2.map fun _ _ => TnS.d _))) .nil)
def markTo (l : List HC) (b : Bool) (hid : List Bool) (k : Nat) : List Bool := (l.take k).foldl (fun h c => h.set c.key b) hid
theorem markTo_succ {l : List HC} {b : Bool} {hid : List Bool} {k : Nat} (h : k < l.length) : markTo l b hid (k + 1) = (markTo l b hid k).set (l.getD k default).key b := by
  unfold markTo
  rw [List.take_succ_eq_append_getElem h, List.foldl_append]
  simp [List.getD_eq_getElem?_getD, h]
theorem markTo_len {l : List HC} {b : Bool} {hid : List Bool} {k : Nat} : (markTo l b hid k).length = hid.length := foldSet_len b _ _
theorem set2b {a c : SV} {l : List Bool} {j : Nat} {b : Bool} : (a :: c :: l.map B).set (j + 2) (B b) = a :: c :: (l.set j b).map B := by
  simp [List.set, List.map_set]
abbrev tysH18_50 := And.intro ty.sz0 <| And.intro ty.agg0 <| And.intro ty.elem0 <| And.intro ty.sz3 <| And.intro ty.agg3 <| And.intro ty.elem3 <| And.intro ty.zero3 <| And.intro ty.und3 <| And.intro ty.sz4 <| And.intro ty.agg4 <| And.intro ty.elem4 <| And.intro ty.zero4 <| And.intro ty.und4 <| And.intro ty.sz34 <| And.intro ty.agg34 <| And.intro ty.elem34 <| And.intro ty.by34 <| And.intro ty.ez34 <| And.intro ty.zero34 <| And.intro ty.und34 <| And.intro ty.sz79 <| And.intro ty.agg79 <| And.intro ty.fld79_0 <| And.intro ty.fld79_1 <| And.intro ty.elem79 <| And.intro ty.zero79 <| And.intro ty.pl79 <| And.intro ty.sz83 <| And.intro ty.agg83 <| And.intro ty.elem83 <| And.intro ty.zero83 <| And.intro ty.sz106 <| And.intro ty.agg106 <| And.intro ty.elem106 <| And.intro ty.arr106 <| And.intro ty.zero106 <| And.intro ty.und106 <| And.intro ty.sz108 <| And.intro ty.agg108 <| And.intro ty.elem108 <| And.intro ty.arr108 <| And.intro ty.zero108 <| And.intro ty.und108 <| And.intro ty.sz110 <| And.intro ty.agg110 <| And.intro ty.fld110_0 <| And.intro ty.fld110_1 <| And.intro ty.elem110 <| And.intro ty.zero110 <| ty.pl110
theorem mark_h (rows : Rows8) (cap : Int) (hid : List Bool) (h12 : hid.length = 12) (l : List HC) (b : Bool) (hc : ∀ c ∈ l, 0 ≤ c.row ∧ c.row < 3 ∧ 0 ≤ c.col ∧ c.col < 4) (hl : l.length ≤ 1000) (hp : HpT) (nx iw : Nat) (hfix : TnFix nx hp) (hL : hp.lookup iw = some (wob rows cap hid)) : CallH Tryz.prog G0 50 [.ptr iw 0 0, SC l, B b] hp nx (fun _ hp' nx' => hp' = upd hp iw (wob rows cap (l.foldl (fun h c => h.set c.key b) hid)) ∧ nx' = nx) := by
  have hlt := look_lt hfix hL
  have hfx : ∀ h', TnFix nx (upd hp iw (wob rows cap h')) := fun h' => fix_upd hfix hlt fun r h1 h2 _ => wob_tn r h1 h2
  have hlk : ∀ h', (upd hp iw (wob rows cap h')).lookup iw = some (wob rows cap h') := fun h' => upd_self hL
  have huu : ∀ h' o, upd (upd hp iw (wob rows cap h')) iw o = upd hp iw o := fun h' o => upd_upd
  have e1 : (iw == nx) = false := beq_eq_false_iff_ne.2 (by omega)
  have e2 : (nx = iw) = False := eq_false (by omega)
  refine CallH.body 25 [] Tryz.func50 (by kernel_rfl) rfl rfl rfl ?_
  refine Tr.reg [0, 2, 8, 9, 10] (by
      simp only [↓sxd, sxu, ↓zE, ↓exq, ↓zB, ↓zL, Nat.reduceBEq, Nat.reduceAdd, Nat.reduceLT, sxe, tysH18_50]
      (all_goals try exact zF)) ?_
  refine Tr.imp (st' := ⟨[(0, .ptr iw 0 0), (2, B b), (8, SC l), (9, I l.length), (10, I 0)], upd hp iw (wob rows cap (markTo l b hid 0)), nx, 25, [], nx⟩) (by rw [show upd hp iw (wob rows cap (markTo l b hid 0)) = hp from upd_same hL]; exact Imp.keepAll) (Tr.block (Tr.loopI (fun mm ss => ∃ (k : Nat), (k ≤ l.length) ∧ l.length - k = mm ∧ ss = ⟨[(0, .ptr iw 0 0), (2, B b), (8, SC l), (9, I l.length), (10, I k)], upd hp iw (wob rows cap (markTo l b hid k)), nx, 25, [], nx⟩) _ ⟨0, ?_, rfl, rfl⟩ ?_))
  · exact Nat.zero_le _
  rintro mm ss ⟨k, hI, rfl, rfl⟩
  refine Tr.reg [0, 2, 8, 9, 10, 11] (by
      simp only [↓sxd, sxu, ↓zE, ↓exq, Nat.reduceBEq, Nat.reduceLT, sxe]
      (all_goals try exact zF)) ?_
  refine Tr.seq ?_
  refine Tr.cond rfl (fun h11 => ?_) (fun h11 => ?_)
  · have hlt2 : k < l.length := by simpa using h11
    have hcc := hc _ (getD_mem' default hlt2)
    refine Tr.skip ?_
    refine Tr.seq ?_
    refine Tr.block ?_
    refine Tr.reg [0, 2, 7, 8, 9, 10] (by
        simp only [↓sxd, sxu, ↓zE, ↓exq, ↓zD, ↓zN, Nat.reduceBEq, Nat.reduceAdd, Nat.reduceLT, Nat.reduceEqDiff, sxe, tysH18_50, hlt2]
        (all_goals try exact zF)) ?_
    obtain ⟨q, hq⟩ : ∃ q, q = l.getD k default := ⟨_, rfl⟩
    rw [← hq] at hcc ⊢
    obtain ⟨r, hr⟩ := Int.eq_ofNat_of_zero_le hcc.1
    obtain ⟨c, hcol⟩ := Int.eq_ofNat_of_zero_le hcc.2.2.1
    have i1 : ((r : Int) < ((3 : Nat) : Int)) = True := eq_true (by omega)
    have i2 : ((c : Int) < ((4 : Nat) : Int)) = True := eq_true (by omega)
    rw [hr, hcol]
    refine Tr.regD1 [0, 1, 2, 3, 4, 5, 6, 7, 8, 9, 10] [10] [] [0, 2, 8, 9, 10] mix (by kernel_rfl) (by
        simp only [↓sxd, sxu, ↓zC, zJ, ↓exq, ↓zD, ↓zR, ↓zA, Nat.reduceBEq, Nat.reduceAdd, Nat.reduceLT, Nat.reduceLeDiff, Nat.reduceEqDiff, sxe, tysH18_50, hlk, e1, e2, markTo_len, h12, huu]
        (all_goals try exact zF)) ?_
    have w1 : IntKind.i64.wrap ((k : Int) + 1) = ((k + 1 : Nat) : Int) := by rw [wr (by omega) (by omega)]; rfl
    refine Tr.reg1 [0, 2, 8, 9, 10] (by
        simp only [↓sxd, sxu, ↓zE, ↓exq, Nat.reduceBEq, Nat.reduceLT, w1]
        (all_goals try exact zF)) ?_
    have hset : (SL rows :: I cap :: (markTo l b hid k).map B).set (2 + r * 4 + c) (B b) = SL rows :: I cap :: (markTo l b hid (k + 1)).map B := by
      rw [show 2 + r * 4 + c = (4 * r + c) + 2 by omega, set2b, markTo_succ hlt2, ← hq]
      unfold HC.key
      rw [hr, hcol]; rfl
    rw [hset]
    refine ⟨_, _, ?_, Imp.go (tm' := [(0, .ptr iw 0 0), (2, B b), (8, SC l), (9, I l.length), (10, I ((k + 1 : Nat) : Int))]) (nx' := nx) (rg nx 1) (upd hp iw (wob rows cap (markTo l b hid (k + 1)))) rfl rfl (.cons _ (.refl _)) (fun id h => rg_lt h) (fun id h => by rw [rg_ge h]; show nx + 1 ≤ id + 1; omega) (.cons rfl (TnS.ptr (rg_lt hlt)) (.cons rfl (TnS.d _) (.cons rfl (TnS.d _) (.cons rfl (TnS.d _) (.cons rfl (TnS.d _) trivial))))) ((hfx _).f2 fun i hi => rg_lt hi) (fun h => h), ⟨k + 1, hlt2, rfl, rfl⟩⟩
    omega
  · have hge : k = l.length := by simp at h11; omega
    refine Tr.exit ?_
    exact ⟨.inl rfl, .tup [], trivial, by subst hge; rw [show l.foldl (fun h c => h.set c.key b) hid = markTo l b hid l.length by unfold markTo; rw [List.take_length]], rfl⟩
end Go.Proofs.YtijechcadlklhaaGreat
namespace Go.Proofs.YtijechcadlklhaaGreat
open Go.Sy
set_option maxRecDepth 8000
theorem wob_hid {w : HW} (h : w.hid.length = 12) {r c : Nat} (hr : r < 3) (hc : c < 4) : (SL w.rows :: I w.cap :: w.hid.map B).getD (2 + r * 4 + c) .unk = B (w.h r c) := by
  rw [show 2 + r * 4 + c = (4 * r + c) + 2 by omega, List.getD_cons_succ, List.getD_cons_succ]
  unfold HW.h
  simp [List.getD_eq_getElem?_getD, h, show 4 * r + c < 12 by omega, hc]
theorem wob_hid0 {w : HW} (h : w.hid.length = 12) {r c : Nat} (hr : r < 3) (hc : c < 4) : (2 + r * 4 + c < w.hid.length + 1 + 1) = True := eq_true (by omega)
abbrev tysH19_56 := And.intro ty.sz0 <| And.intro ty.agg0 <| And.intro ty.elem0 <| And.intro ty.sz83 <| And.intro ty.agg83 <| And.intro ty.elem83 <| And.intro ty.zero83 <| And.intro ty.sz98 <| And.intro ty.agg98 <| And.intro ty.elem98 <| And.intro ty.zero98 <| And.intro ty.sz99 <| And.intro ty.agg99 <| And.intro ty.elem99 <| ty.zero99
theorem cellsO_h (hp : HpT) (nx iw : Nat) : CallH Tryz.prog G0 56 [.ptr iw 0 0] hp nx (Det (.clo (.func 85) [] [.ptr nx 0 0]) ((nx, .arr 1 [[.ptr iw 0 0]]) :: hp) (nx + 1)) := by
  refine CallH.body 4 [.tmp 2] Tryz.func56 (by kernel_rfl) rfl rfl rfl ?_
  refine Tr.reg [1] (by
      simp only [↓sxd, sxu, ↓zE, ↓exq, ↓zM, Nat.reduceBEq, Nat.reduceLT, Nat.reduceEqDiff]
      (all_goals try exact zF)) ?_
  refine Tr.reg [2] (by
      simp only [↓sxd, sxu, ↓zE, ↓exq, Nat.reduceLT]
      (all_goals try exact zF)) ?_
  refine Tr.ret ?_
  exact ⟨.inr rfl, _, rfl, rfl, rfl, rfl⟩
abbrev tysH19_85 := And.intro ty.sz0 <| And.intro ty.agg0 <| And.intro ty.elem0 <| And.intro ty.sz3 <| And.intro ty.agg3 <| And.intro ty.elem3 <| And.intro ty.zero3 <| And.intro ty.und3 <| And.intro ty.sz4 <| And.intro ty.agg4 <| And.intro ty.elem4 <| And.intro ty.zero4 <| And.intro ty.und4 <| And.intro ty.sz22 <| And.intro ty.agg22 <| And.intro ty.elem22 <| And.intro ty.by22 <| And.intro ty.ez22 <| And.intro ty.zero22 <| And.intro ty.und22 <| And.intro ty.sz32 <| And.intro ty.agg32 <| And.intro ty.fld32_0 <| And.intro ty.fld32_1 <| And.intro ty.elem32 <| And.intro ty.zero32 <| And.intro ty.pl32 <| And.intro ty.sz44 <| And.intro ty.agg44 <| And.intro ty.elem44 <| And.intro ty.by44 <| And.intro ty.ez44 <| And.intro ty.zero44 <| And.intro ty.und44 <| And.intro ty.sz79 <| And.intro ty.agg79 <| And.intro ty.fld79_0 <| And.intro ty.fld79_1 <| And.intro ty.elem79 <| And.intro ty.zero79 <| And.intro ty.pl79 <| And.intro ty.sz83 <| And.intro ty.agg83 <| And.intro ty.elem83 <| And.intro ty.zero83 <| And.intro ty.sz106 <| And.intro ty.agg106 <| And.intro ty.elem106 <| And.intro ty.arr106 <| And.intro ty.zero106 <| And.intro ty.und106 <| And.intro ty.sz108 <| And.intro ty.agg108 <| And.intro ty.elem108 <| And.intro ty.arr108 <| And.intro ty.zero108 <| And.intro ty.und108 <| And.intro ty.sz110 <| And.intro ty.agg110 <| And.intro ty.fld110_0 <| And.intro ty.fld110_1 <| And.intro ty.elem110 <| And.intro ty.zero110 <| And.intro ty.pl110 <| And.intro ty.sz115 <| And.intro ty.agg115 <| And.intro ty.elem115 <| ty.zero115
theorem cells1O_h {w : HW} {n m : Nat} (hw : w.Ok n m) (J : List HC → Prop) (hJ : J []) (H : List HC → HpT) (N : List HC → Nat) (iwb iw l : Nat) (hW : ∀ gs, (H gs).lookup iwb = some (.arr 1 [[.ptr iw 0 0]])) (hO : ∀ gs, (H gs).lookup iw = some (wob w.rows w.cap w.hid))
    (hY : ∀ (gs : List HC) (c : HC) (ts : List HC), gs ++ c :: ts = w.cells → J gs → RoundH Tryz.prog G0 l [c.s] (H gs) (N gs) (fun r hp' nx' => r = B true ∧ J (gs ++ [c]) ∧ hp' = H (gs ++ [c]) ∧ nx' = N (gs ++ [c]))) :
  CallH Tryz.prog G0 85 [.yld l, .ptr iwb 0 0] (H []) (N []) (fun _ hp' nx' => J w.cells ∧ hp' = H w.cells ∧ nx' = N w.cells) := by
  rw [cells_sel hw] at hY ⊢
  obtain ⟨p, hp⟩ : ∃ p : HC → Bool, p = fun c => w.h c.row.toNat c.col.toNat := ⟨_, rfl⟩
  rw [← hp] at hY ⊢
  obtain ⟨L, hL⟩ : ∃ L, L = selC p n m (0 * m) := ⟨_, rfl⟩
  have hn3 := hw.n3
  have hm4 := hw.m4
  rw [← hL] at hY ⊢
  have hn := hw.dims.1
  refine CallH.body 40 [] Tryz.func85 (by kernel_rfl) rfl rfl rfl ?_
  refine Tr.reg [0, 1, 10, 11, 12] (by
      simp only [↓sxd, sxu, ↓zE, ↓exq, ↓zB, ↓zL, ↓zD, ↓zR, ↓zA, Nat.reduceBEq, Nat.reduceAdd, Nat.reduceLT, Nat.reduceEqDiff, sxe, tysH19_85, hW, hO]
      (all_goals try exact zF)) ?_
  refine Tr.imp (st' := ⟨[(0, .yld l), (1, .ptr iwb 0 0), (10, SL w.rows), (11, I w.rows.length), (12, I 0)], H [], N [], 40, [], N []⟩) (Imp.keepAll) (Tr.block (Tr.loopI (fun mm ss => ∃ (r : Nat) (gs : List HC), (r ≤ n ∧ J gs ∧ gs ++ selC p n m (r * m) = L) ∧ n - r = mm ∧ ss = ⟨[(0, .yld l), (1, .ptr iwb 0 0), (10, SL w.rows), (11, I w.rows.length), (12, I r)], H gs, N gs, 40, [], N []⟩) _ ⟨0, [], ?_, rfl, rfl⟩ ?_))
  · exact ⟨Nat.zero_le _, hJ, hL.symm⟩
  rintro mm ss ⟨r, gs, hI, rfl, rfl⟩
  obtain ⟨hrn, hJg, hsel⟩ := hI
  refine Tr.reg [0, 1, 10, 11, 12, 13] (by
      simp only [↓sxd, sxu, ↓zE, ↓exq, Nat.reduceBEq, Nat.reduceLT, sxe]
      (all_goals try exact zF)) ?_
  refine Tr.seq ?_
  refine Tr.cond rfl (fun h13 => ?_) (fun h13 => ?_)
  · have hr : r < w.rows.length := by simpa using h13
    have hrl := hw.dim.2 r (by omega)
    refine Tr.skip ?_
    refine Tr.seq ?_
    refine Tr.block ?_
    refine Tr.reg [0, 1, 3, 4, 10, 11, 12] (by
        simp only [↓sxd, sxu, ↓zE, ↓exq, ↓zD, Nat.reduceBEq, Nat.reduceLT, sxe, tysH19_85, hr]
        (all_goals try exact zF)) ?_
    refine Tr.reg [0, 1, 3, 10, 11, 12, 18, 19] (by
        simp only [↓sxd, sxu, ↓zE, ↓exq, ↓zB, ↓zL, Nat.reduceBEq, Nat.reduceLT, sxe, tysH19_85]
        (all_goals try exact zF)) ?_
    refine Tr.imp (st' := ⟨[(0, .yld l), (1, .ptr iwb 0 0), (3, I r), (10, SL w.rows), (11, I w.rows.length), (12, I r), (18, I (w.rows.getD r []).length), (19, I 0)], H gs, N gs, 40, [], N []⟩) (Imp.keepAll) (Tr.block (Tr.loopI (fun mm ss => ∃ (c : Nat) (g2 : List HC), (c ≤ m ∧ J g2 ∧ g2 ++ selC p n m (r * m + c) = L) ∧ m - c = mm ∧ ss = ⟨[(0, .yld l), (1, .ptr iwb 0 0), (3, I r), (10, SL w.rows), (11, I w.rows.length), (12, I r), (18, I (w.rows.getD r []).length), (19, I c)], H g2, N g2, 40, [], N []⟩) _ ⟨0, gs, ?_, rfl, rfl⟩ ?_))
    · exact ⟨Nat.zero_le _, hJg, hsel⟩
    rintro mm ss ⟨c, g2, hI, rfl, rfl⟩
    obtain ⟨hcm, hJ2, hsel2⟩ := hI
    refine Tr.reg [0, 1, 3, 10, 11, 12, 18, 19, 20] (by
        simp only [↓sxd, sxu, ↓zE, ↓exq, Nat.reduceBEq, Nat.reduceLT, sxe]
        (all_goals try exact zF)) ?_
    refine Tr.seq ?_
    refine Tr.cond rfl (fun h20 => ?_) (fun h20 => ?_)
    · have hc0 : c < (w.rows.getD r []).length := by simpa using h20
      have hc : c < m := by omega
      have hi3 := i3 (show r < n by omega) hw.n3
      have hj4 := i4 hc hw.m4
      have hw0 := wob_hid hw.hl (show r < 3 by omega) (show c < 4 by omega)
      have hw1 := wob_hid0 hw.hl (show r < 3 by omega) (show c < 4 by omega)
      have hpe : p ⟨(r : Nat), (c : Nat)⟩ = w.h r c := by rw [hp]; rfl
      have hcn : c + 1 ≤ m := hc
      have hWg := hW g2
      have hOg := hO g2
      refine Tr.skip ?_
      refine Tr.seq ?_
      refine Tr.block ?_
      refine Tr.reg [0, 1, 3, 5, 10, 11, 12, 18, 19] (by
          simp only [↓sxd, sxu, ↓zE, ↓exq, Nat.reduceBEq, Nat.reduceLT]
          (all_goals try exact zF)) ?_
      refine Tr.seq (Tr.mono (Q := fun x s => x = .normal ∧ ∃ g3, J g3 ∧ g3 ++ selC p n m (r * m + (c + 1)) = L ∧ Imp s ⟨[(0, .yld l), (1, .ptr iwb 0 0), (3, I r), (10, SL w.rows), (11, I w.rows.length), (12, I r), (18, I (w.rows.getD r []).length), (19, I c), (37, B false)], H g3, N g3, 40, [], N []⟩) ?_ ?_)
      · cases ho : w.h r c with
        | false =>
          rw [sel_no (by omega) hc (by rw [hpe]; exact ho)] at hsel2
          refine Tr.region ?_
          simp only [↓sxd, sxu, ↓zE, ↓exq, ↓zD, ↓zR, ↓zA, Nat.reduceBEq, Nat.reduceLT, Nat.reduceEqDiff, sxe, tysH19_85, hWg, hOg, hi3, hj4, hw0, hw1, ho]
          iterate 6
            (repeat ((with_reducible refine And.intro ?_ ?_); (focus (exact zS))))
            refine GdO.no rfl ?_
            simp only [↓sxd, sxu, ↓zE, ↓exq, ↓zI, Nat.reduceBEq, Nat.reduceLT]
          (repeat ((with_reducible refine And.intro ?_ ?_); (focus (exact zS))))
          exact ⟨g2, hJ2, hsel2, Imp.keep [0, 1, 3, 10, 11, 12, 18, 19, 37]⟩
        | true =>
          rw [sel_yes (by omega) hc (by rw [hpe]; exact ho)] at hsel2
          refine Tr.region ?_
          simp only [↓sxd, sxu, ↓zE, ↓exq, ↓zD, ↓zR, ↓zA, Nat.reduceBEq, Nat.reduceLT, Nat.reduceEqDiff, sxe, tysH19_85, hWg, hOg, hi3, hj4, hw0, hw1, ho]
          iterate 5
            (repeat ((with_reducible refine And.intro ?_ ?_); (focus (exact zS))))
            refine GdO.now rfl ?_
            simp only [↓sxd, sxu, ↓zE, ↓exq, ↓zB, ↓zO, Nat.reduceBEq, Nat.reduceAdd, Nat.reduceLT, Nat.reduceLeDiff, tysH19_85]
          refine (hY g2 ⟨(r : Nat), (c : Nat)⟩ _ hsel2 hJ2).mono ?_
          rintro r' hp' nx' ⟨rfl, hJ3, rfl, rfl⟩
          try simp only [↓sxd, sxu, ↓zE, ↓zC, zJ, ↓exP, ↓exq, ↓zB, ↓zI, ↓zK, ↓zL, ↓zD, ↓zR, ↓zO, ↓zA, Nat.reduceBEq, Nat.reduceAdd, Nat.reduceLT, Nat.reduceMul, Nat.reduceSub, Nat.reduceLeDiff, Nat.reduceEqDiff, Int.reduceLE, Int.reduceLT, Int.reduceToNat, reduceIte, sxe, tysH19_85]
          refine GdO.now rfl ?_
          simp only [↓sxd, sxu, ↓zE, ↓exq, ↓zI, ↓zK, Nat.reduceBEq, Nat.reduceLT, Bool.not_true]
          (repeat ((with_reducible refine And.intro ?_ ?_); (focus (exact zS))))
          exact ⟨g2 ++ [⟨(r : Nat), (c : Nat)⟩], hJ3, by rw [List.append_assoc]; exact hsel2, Imp.keep [0, 1, 3, 10, 11, 12, 18, 19, 37]⟩
      rintro x s ⟨rfl, g3, hJ3, hsel3, himp⟩
      refine Tr.imp himp ?_
      refine Tr.cond rfl (fun h37 => ?_) (fun h37 => ?_)
      · cases h37
      · refine Tr.skip ?_
        have w1 : IntKind.i64.wrap ((c : Int) + 1) = ((c + 1 : Nat) : Int) := by rw [wr (by omega) (by omega)]; rfl
        refine Tr.reg1 [0, 1, 3, 10, 11, 12, 18, 19] (by
            simp only [↓sxd, sxu, ↓zE, ↓exq, Nat.reduceBEq, Nat.reduceLT, w1]
            (all_goals try exact zF)) ?_
        exact ⟨_, _, by omega, Imp.keepAll, ⟨c + 1, g3, ⟨hcn, hJ3, hsel3⟩, rfl, rfl⟩⟩
    · have hc0 : ¬ c < (w.rows.getD r []).length := by simpa using h20
      have hc : c = m := by omega
      subst hc
      refine Tr.exit ?_
      have w1 : IntKind.i64.wrap ((r : Int) + 1) = ((r + 1 : Nat) : Int) := by rw [wr (by omega) (by omega)]; rfl
      refine Tr.reg1 [0, 1, 10, 11, 12] (by
          simp only [↓sxd, sxu, ↓zE, ↓exq, Nat.reduceBEq, Nat.reduceLT, w1]
          (all_goals try exact zF)) ?_
      exact ⟨_, _, by omega, Imp.keepAll, ⟨r + 1, _, ⟨by omega, hJ2, by rw [Nat.succ_mul]; exact hsel2⟩, rfl, rfl⟩⟩
  · have hr : r = n := by simp at h13; omega
    subst hr
    rw [sel_end, List.append_nil] at hsel
    subst hsel
    refine Tr.exit ?_
    exact ⟨.inl rfl, .tup [], trivial, hJg, rfl, rfl⟩
def idO (nx : Nat) : List HC → Nat
  | [] => nx
  | _ :: gs => nx + 5 + 2 * gs.length
def rO (nx : Nat) (gs : List HC) (i : Nat) : Nat := if i < nx + 2 then i else if i = nx + 2 then idO nx gs else i + 2 * gs.length + 1
theorem idO_snoc (nx : Nat) (gs : List HC) (c : HC) : idO nx (gs ++ [c]) = nx + 2 + 1 + 1 + 2 * gs.length + 1 := by cases gs <;> simp [idO] <;> omega
theorem idO_lt (nx : Nat) (gs : List HC) : idO nx gs = nx ∨ (nx + 5 ≤ idO nx gs ∧ idO nx gs < nx + 2 + 1 + 1 + 2 * gs.length) := by cases gs <;> simp [idO] <;> omega
abbrev tysH19_79 := And.intro ty.sz0 <| And.intro ty.agg0 <| And.intro ty.elem0 <| And.intro ty.sz34 <| And.intro ty.agg34 <| And.intro ty.elem34 <| And.intro ty.by34 <| And.intro ty.ez34 <| And.intro ty.zero34 <| And.intro ty.und34 <| And.intro ty.sz79 <| And.intro ty.agg79 <| And.intro ty.fld79_0 <| And.intro ty.fld79_1 <| And.intro ty.elem79 <| And.intro ty.zero79 <| And.intro ty.pl79 <| And.intro ty.sz99 <| And.intro ty.agg99 <| And.intro ty.elem99 <| ty.zero99
theorem appendSeqO_h {w : HW} {n m : Nat} (hw : w.Ok n m) (l : List HC) (hlen : l.length ≤ 1000) (hp : HpT) (nx iw : Nat) (hfix : TnFix nx hp) (hO : hp.lookup iw = some (wob w.rows w.cap w.hid)) : CallH Tryz.prog G0 79 [.slc nx 2 0 l.length l.length, .clo (.func 85) [] [.ptr (nx + 1) 0 0]] ((nx + 1, .arr 1 [[.ptr iw 0 0]]) :: (nx, .arr 2 (vC l)) :: hp) (nx + 2) (Det (.slc (if w.cells = [] then nx else nx + 2) 2 0 (appL l w.cells).length (appL l w.cells).length) ((nx + 1, .arr 1 [[.ptr iw 0 0]]) :: (if w.cells = [] then nx else nx + 2, .arr 2 (vC (appL l w.cells))) :: hp) (nx + 3)) := by
  have hiw := look_lt hfix hO
  have hcl : w.cells.length ≤ 12 := by rw [cells_sel hw]; exact sel_len hw.n3 hw.m4
  refine CallH.body 13 [.tmp 4] Tryz.func79 (by kernel_rfl) rfl rfl rfl ?_
  refine Tr.reg [1, 2, 4] (by
      simp only [↓sxd, sxu, ↓zE, ↓exq, ↓zM, Nat.reduceBEq, Nat.reduceAdd, Nat.reduceLT, Nat.reduceEqDiff]
      (all_goals try exact zF)) ?_
  refine Tr.seq ?_
  refine Tr.reg [2, 4, 6] (by
      simp only [↓sxd, sxu, ↓zE, ↓exq, Nat.reduceBEq, Nat.reduceLT]
      (all_goals try exact zF)) ?_
  refine Tr.block ?_
  refine Tr.rangeF2 rfl (fun fn ca cb has hbd => ?_)
  try dsimp only
  refine CallH.mono (cells1O_h hw (fun _ => True) trivial (fun gs => (nx + 2 + 1, .loop fn _ _ _ ca cb .ready none 0) :: (nx + 2, .arr 1 [[.slc (idO nx gs) 2 0 (appL l gs).length (appL l gs).length]]) :: (nx + 1, .arr 1 [[.ptr iw 0 0]]) :: (idO nx gs, .arr 2 (vC (appL l gs))) :: hp) (fun gs => nx + 2 + 1 + 1 + 2 * gs.length) (nx + 1) iw (nx + 2 + 1) (fun gs => by rw [List.lookup_cons, show (nx + 1 == nx + 2 + 1) = false from beq_eq_false_iff_ne.2 (by omega), List.lookup_cons, show (nx + 1 == nx + 2) = false from beq_eq_false_iff_ne.2 (by omega), List.lookup_cons_self]) (fun gs => by
    have hi := idO_lt nx gs
    rw [List.lookup_cons, show (iw == nx + 2 + 1) = false from beq_eq_false_iff_ne.2 (by omega), List.lookup_cons, show (iw == nx + 2) = false from beq_eq_false_iff_ne.2 (by omega), List.lookup_cons, show (iw == nx + 1) = false from beq_eq_false_iff_ne.2 (by omega), List.lookup_cons, show (iw == idO nx gs) = false from beq_eq_false_iff_ne.2 (by omega)]; exact hO) ?_) ?_
  · intro gs q ts hgs _
    obtain ⟨z, hz⟩ : ∃ z, z = nx + 2 + 1 + 1 + 2 * gs.length := ⟨_, rfl⟩
    have hi := idO_lt nx gs
    have hgl : gs.length ≤ 12 := by
      have := congrArg List.length hgs
      rw [List.length_append] at this; omega
    have hal : (appL l gs).length = l.length + gs.length := by rw [appL_eq, List.length_append]
    have hsn := idO_snoc nx gs q
    have han : appL l (gs ++ [q]) = appL l gs ++ [q] := by rw [appL_eq, appL_eq, List.append_assoc]
    try dsimp only
    rw [← hz] at hi hsn ⊢
    generalize idO nx gs = i at hi
    generalize appL l gs = L at hal han
    refine RoundH.of_body2 has hbd List.lookup_cons_self rfl (fun t ht => by simp at ht; subst ht; decide) (fun ro => ?_)
    refine Tr.reg1 [2, 5] (by
        simp only [↓sxd, sxu, ↓zE, ↓exq, ↓zN, Nat.reduceBEq, Nat.reduceAdd, Nat.reduceLT, Nat.reduceEqDiff, tysH19_79, bindT]
        (all_goals try exact zF)) ?_
    refine ⟨rfl, none, _, lookup_2nd (beq_eq_false_iff_ne.2 (by omega)), ?_⟩
    try dsimp only
    rw [upd_2nd (by omega)]
    refine Tr.block ?_
    refine Tr.post ?_
    have e0 : (nx + 2 == nx + 2 + 1) = false := beq_eq_false_iff_ne.2 (by omega)
    have e1 : (nx + 2 + 1 = nx + 2) = False := eq_false (by omega)
    have e2 : (nx + 2 == z) = false := beq_eq_false_iff_ne.2 (by omega)
    have e3 : (nx + 2 == z + 1) = false := beq_eq_false_iff_ne.2 (by omega)
    have f1 : (i == z) = false := beq_eq_false_iff_ne.2 (by omega)
    have f2 : (i == nx + 2 + 1) = false := beq_eq_false_iff_ne.2 (by omega)
    have f3 : (i == nx + 2) = false := beq_eq_false_iff_ne.2 (by omega)
    have f4 : (i == nx + 1) = false := beq_eq_false_iff_ne.2 (by omega)
    have d1 : (z = i) = False := eq_false (by omega)
    have d2 : (nx + 2 + 1 = i) = False := eq_false (by omega)
    have d3 : (nx + 2 = i) = False := eq_false (by omega)
    have d4 : (nx + 1 = i) = False := eq_false (by omega)
    have s1 : (z + 1 = nx + 2) = False := eq_false (by omega)
    have s2 : (z = nx + 2) = False := eq_false (by omega)
    have s3 : (z + 1 = nx + 2 + 1) = False := eq_false (by omega)
    have s4 : (z = nx + 2 + 1) = False := eq_false (by omega)
    have hk : (L.length + 1 ≤ 1073741824) = True := eq_true (by omega)
    refine Tr.reg1 [] (by
        simp only [↓sxd, sxu, ↓zE, ↓exq, ↓zB, ↓zD, ↓zG, ↓zQ, Nat.reduceBEq, Nat.reduceAdd, Nat.reduceLT, Nat.reduceLeDiff, Nat.reduceEqDiff, tysH19_79, e0, e1, e2, e3, f1, f2, f3, f4, d1, d2, d3, d4, s1, s2, vC_len, hk]
        (all_goals try exact zF)) ?_
    refine ⟨_, Imp.trans (Imp.weak (tm' := []) (fun _ _ h => by cases h) (.cons_cons _ (.cons _ (.refl _))) (Nat.le_refl _)) (Imp.perm (hp' := (nx + 2 + 1, _) :: (nx + 2, _) :: (nx + 1, _) :: (z + 1, _) :: hp) (List.perm_middle (l₁ := [_, _, _]))), _, _, _, _, _, _, _, _, _, List.lookup_cons_self, ?_⟩
    refine ⟨rfl, trivial, ?_, ?_⟩
    · rw [upd_head, hsn, han, vC_snoc', List.length_append]
      rfl
    · rw [List.length_append, List.length_singleton, hz]
      show nx + 2 + 1 + 1 + 2 * gs.length + 1 + 1 = _
      omega
  rintro r' hp' nx' ⟨-, rfl, rfl⟩
  refine ⟨_, .ready, none, List.lookup_cons_self, by decide, ?_⟩
  try dsimp only
  rw [upd_head]
  have e0 : (nx + 2 == nx + 2 + 1) = false := beq_eq_false_iff_ne.2 (by omega)
  refine Tr.reg [4] (by
      simp only [↓sxd, sxu, ↓zE, ↓exq, ↓zD, Nat.reduceLT, tysH19_79, e0]
      (all_goals try exact zF)) ?_
  have hr : rO nx w.cells (if w.cells = [] then nx else nx + 2) = idO nx w.cells := by
    by_cases h : w.cells = []
    · rw [if_pos h, h, rO, if_pos (by omega)]; rfl
    · rw [if_neg h, rO, if_neg (by omega), if_pos rfl]
  refine Tr.imp (Imp.go (tm' := [(4, .slc (if w.cells = [] then nx else nx + 2) 2 0 (appL l w.cells).length (appL l w.cells).length)]) (nx' := nx + 3) (hp'' := (nx + 1, .arr 1 [[.ptr iw 0 0]]) :: (if w.cells = [] then nx else nx + 2, .arr 2 (vC (appL l w.cells))) :: hp) (rO nx w.cells) ((nx + 1, .arr 1 [[.ptr iw 0 0]]) :: (idO nx w.cells, .arr 2 (vC (appL l w.cells))) :: hp) rfl rfl (.cons _ (.cons _ (.refl _))) (fun id h => if_pos h) (fun id h => by rw [rO, if_neg (by omega), if_neg (by omega)]; show nx + 2 + 1 + 1 + 2 * w.cells.length ≤ _; omega) (.cons rfl (TnS.slc hr) trivial) (.cons ⟨(if_pos (by omega)).symm, TnO.arr (.cons (.cons (TnS.ptr (if_pos (by omega))) .nil) .nil)⟩ (.cons ⟨hr.symm, TnO.arr (vC_tn _)⟩ (hfix.f2 fun i hi => if_pos (by omega)))) (df' := [0]) (fun h => by cases h)) ?_
  refine Tr.ret ?_
  exact ⟨.inr rfl, _, rfl, rfl, rfl, rfl⟩
abbrev tysH19_52 := And.intro ty.sz0 <| And.intro ty.agg0 <| And.intro ty.elem0 <| And.intro ty.sz34 <| And.intro ty.agg34 <| And.intro ty.elem34 <| And.intro ty.by34 <| And.intro ty.ez34 <| And.intro ty.zero34 <| And.intro ty.und34 <| And.intro ty.sz83 <| And.intro ty.agg83 <| And.intro ty.elem83 <| And.intro ty.zero83 <| And.intro ty.sz99 <| And.intro ty.agg99 <| And.intro ty.elem99 <| ty.zero99
theorem withO_h {w : HW} {n m : Nat} (hw : w.Ok n m) (l : List HC) (hlen : (l ++ w.cells).length ≤ 12) (hp : HpT) (nx iw : Nat) (hfix : TnFix nx hp) (hO : hp.lookup iw = some (wob w.rows w.cap w.hid)) : CallH Tryz.prog G0 52 [.ptr iw 0 0, SC l] hp nx (Det (.slc nx 2 0 (l ++ w.cells).length (l ++ w.cells).length) ((nx, .arr 2 (vC (w.with l))) :: hp) (nx + 1)) := by
  have hl : l.length ≤ 12 := by rw [List.length_append] at hlen; omega
  refine CallH.body 14 [.tmp 4] Tryz.func52 (by kernel_rfl) rfl rfl rfl ?_
  refine Tr.reg [0, 1] (by
      simp only [↓sxd, sxu, ↓zE, ↓exq, Nat.reduceBEq, Nat.reduceAdd, Nat.reduceLT]
      (all_goals try exact zF)) ?_
  refine Tr.reg [5] (by
      simp only [↓sxd, sxu, ↓zE, ↓exq, Nat.reduceBEq, Nat.reduceLT]
      (repeat ((with_reducible refine And.intro ?_ ?_); (focus (exact zS))))
      refine CallH.mono (cloneC_h l (by omega) _ _) ?_
      rintro r' hp' nx' ⟨rfl, rfl, rfl⟩
      try simp only [↓sxd, sxu, ↓zE, ↓exq, Nat.reduceBEq, Nat.reduceLT]
      (repeat ((with_reducible refine And.intro ?_ ?_); (focus (exact zS))))
      refine CallH.mono (cellsO_h _ _ iw) ?_
      rintro r' hp' nx' ⟨rfl, rfl, rfl⟩
      try simp only [↓sxd, sxu, ↓zE, Nat.reduceBEq, Nat.reduceLT]
      (repeat ((with_reducible refine And.intro ?_ ?_); (focus (exact zS))))
      refine CallH.mono (appendSeqO_h hw l (by omega) hp nx iw hfix hO) ?_
      rintro r' hp' nx' ⟨rfl, rfl, rfl⟩
      try simp only [↓sxd, sxu, ↓zE, ↓exq, Nat.reduceLT]
      (all_goals try exact zF)) ?_
  have hi : (if w.cells = [] then nx else nx + 2) = nx ∨ (if w.cells = [] then nx else nx + 2) = nx + 2 := by split <;> simp
  have hal : appL l w.cells = l ++ w.cells := appL_eq _ _
  rw [hal]
  generalize (if w.cells = [] then nx else nx + 2) = i at hi
  have hlk : List.lookup i ((nx + 1, (.arr 1 [[.ptr iw 0 0]] : Sy.Obj)) :: (i, .arr 2 (vC (l ++ w.cells))) :: hp) = some (.arr 2 (vC (l ++ w.cells))) := lookup_2nd (beq_eq_false_iff_ne.2 (by omega))
  refine Tr.reg [5] (by
      simp only [↓sxd, sxu, ↓zE, ↓exq, Nat.reduceLT]
      (repeat ((with_reducible refine And.intro ?_ ?_); (focus (exact zS))))
      refine CallH.mono (sortC_h (l ++ w.cells) hlen (l.length + w.cells.length) (List.length_append ..).symm _ _ i hlk) ?_
      rintro r' hp' nx' ⟨rfl, rfl⟩
      try simp only [↓sxd, sxu, Nat.reduceBEq]
      (all_goals try exact zF)) ?_
  rw [if_neg (by omega)]
  refine Tr.reg [4] (by
      simp only [↓sxd, sxu, ↓zE, ↓exq, Nat.reduceLT]
      (all_goals try exact zF)) ?_
  have hr : (fun j => if j < nx then j else if j = nx then i else j + 2) nx = i := by simp
  refine Tr.imp (Imp.go (tm' := [(4, .slc nx 2 0 (l.length + w.cells.length) (l.length + w.cells.length))]) (nx' := nx + 1) (hp'' := (nx, .arr 2 (vC (isort8 (l ++ w.cells)))) :: hp) (fun j => if j < nx then j else if j = nx then i else j + 2) ((i, .arr 2 (vC (isort8 (l ++ w.cells)))) :: hp) rfl rfl (.cons _ (.refl _)) (fun id h => if_pos h) (fun id h => by show nx + 3 ≤ if id < nx then id else if id = nx then i else id + 2; rw [if_neg (by omega), if_neg (by omega)]; omega) (.cons rfl (TnS.slc hr) trivial) (.cons ⟨hr.symm, TnO.arr (vC_tn _)⟩ (hfix.f2 (r := fun j => if j < nx then j else if j = nx then i else j + 2) fun j hj => if_pos hj)) (fun h => h)) ?_
  refine Tr.ret ?_
  exact ⟨.inr rfl, _, rfl, by rw [List.length_append], rfl, rfl⟩
end Go.Proofs.YtijechcadlklhaaGreat
namespace Go.Proofs.YtijechcadlklhaaGreat
open Go.Sy
theorem bv {a : Nat} (h : a < 18446744073709551616) : (BitVec.ofInt IntKind.u64.bits (a : Int)).toNat = a := by
  show (BitVec.ofInt 64 (a : Int)).toNat = a
  rw [BitVec.ofInt_natCast, BitVec.toNat_ofNat]
  exact Nat.mod_eq_of_lt h
theorem shr_u {a n : Nat} (ha : a < 18446744073709551616) : (a : Int).fdiv (2 ^ min n IntKind.u64.bits) = ((a >>> n : Nat) : Int) := by
  have e2 : ((2 : Int) ^ min n IntKind.u64.bits) = ((2 ^ min n IntKind.u64.bits : Nat) : Int) := by simp
  rw [e2, Int.fdiv_eq_ediv_of_nonneg _ (Int.natCast_nonneg _), ← Int.natCast_ediv, Nat.shiftRight_eq_div_pow]
  congr 1
  by_cases h : n ≤ 64
  · rw [show min n IntKind.u64.bits = n from Nat.min_eq_left h]
  · have h' : 64 ≤ n := by omega
    rw [show min n IntKind.u64.bits = 64 from Nat.min_eq_right h']
    rw [Nat.div_eq_of_lt ha, Nat.div_eq_of_lt (Nat.lt_of_lt_of_le ha (Nat.pow_le_pow_right (n := 2) (by omega) h'))]
end Go.Proofs.YtijechcadlklhaaGreat
