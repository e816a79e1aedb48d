/- Lemmas, part ZGR. Conditions: none. -/
import Derived.Test.YtijechcadlklhaaGreatZGQ
set_option linter.unusedVariables false
namespace Go.Proofs.YtijechcadlklhaaGreat
open Go.Sy
set_option maxRecDepth 8000
abbrev tysH13_56 := And.intro ty.sz0 <| And.intro ty.agg0 <| And.intro ty.elem0 <| And.intro ty.sz83 <| And.intro ty.agg83 <| And.intro ty.elem83 <| And.intro ty.zero83 <| And.intro ty.sz98 <| And.intro ty.agg98 <| And.intro ty.elem98 <| And.intro ty.zero98 <| And.intro ty.sz99 <| And.intro ty.agg99 <| And.intro ty.elem99 <| ty.zero99
theorem cells_h (hp : HpT) (nx : Nat) (d : List D) : CallH Tryz.prog G0 56 [.dp d] hp nx (Det (.clo (.func 85) [] [.ptr nx 0 0]) ((nx, .arr 1 [[.dp d]]) :: hp) (nx + 1)) := by
  refine CallH.body 4 [.tmp 2] Tryz.func56 (by kernel_rfl) rfl rfl rfl ?_
  refine Tr.reg [1] (by
      simp only [↓sxd, sxu, ↓zE, ↓exq, ↓zM, Nat.reduceBEq, Nat.reduceLT, Nat.reduceEqDiff]
      (all_goals try exact zF)) ?_
  refine Tr.reg [2] (by
      simp only [↓sxd, sxu, ↓zE, ↓exq, Nat.reduceLT]
      (all_goals try exact zF)) ?_
  refine Tr.ret ?_
  exact ⟨.inr rfl, _, rfl, rfl, rfl, rfl⟩
abbrev tysH13_85 := And.intro ty.sz0 <| And.intro ty.agg0 <| And.intro ty.elem0 <| And.intro ty.sz3 <| And.intro ty.agg3 <| And.intro ty.elem3 <| And.intro ty.zero3 <| And.intro ty.und3 <| And.intro ty.sz4 <| And.intro ty.agg4 <| And.intro ty.elem4 <| And.intro ty.zero4 <| And.intro ty.und4 <| And.intro ty.sz22 <| And.intro ty.agg22 <| And.intro ty.elem22 <| And.intro ty.by22 <| And.intro ty.ez22 <| And.intro ty.zero22 <| And.intro ty.und22 <| And.intro ty.sz32 <| And.intro ty.agg32 <| And.intro ty.fld32_0 <| And.intro ty.fld32_1 <| And.intro ty.elem32 <| And.intro ty.zero32 <| And.intro ty.pl32 <| And.intro ty.sz44 <| And.intro ty.agg44 <| And.intro ty.elem44 <| And.intro ty.by44 <| And.intro ty.ez44 <| And.intro ty.zero44 <| And.intro ty.und44 <| And.intro ty.sz79 <| And.intro ty.agg79 <| And.intro ty.fld79_0 <| And.intro ty.fld79_1 <| And.intro ty.elem79 <| And.intro ty.zero79 <| And.intro ty.pl79 <| And.intro ty.sz83 <| And.intro ty.agg83 <| And.intro ty.elem83 <| And.intro ty.zero83 <| And.intro ty.sz106 <| And.intro ty.agg106 <| And.intro ty.elem106 <| And.intro ty.arr106 <| And.intro ty.zero106 <| And.intro ty.und106 <| And.intro ty.sz108 <| And.intro ty.agg108 <| And.intro ty.elem108 <| And.intro ty.arr108 <| And.intro ty.zero108 <| And.intro ty.und108 <| And.intro ty.sz110 <| And.intro ty.agg110 <| And.intro ty.fld110_0 <| And.intro ty.fld110_1 <| And.intro ty.elem110 <| And.intro ty.zero110 <| And.intro ty.pl110 <| And.intro ty.sz115 <| And.intro ty.agg115 <| And.intro ty.elem115 <| ty.zero115
theorem cells1_h {w : HW} {n m : Nat} (hw : w.Ok n m) (J : List HC → Prop) (hJ : J []) (H : List HC → HpT) (N : List HC → Nat) (iwb l : Nat) (hW : ∀ gs, (H gs).lookup iwb = some (.arr 1 [[.dp w.d]]))
    (hY : ∀ (gs : List HC) (c : HC) (ts : List HC), gs ++ c :: ts = w.cells → J gs → RoundH Tryz.prog G0 l [c.s] (H gs) (N gs) (fun r hp' nx' => r = B true ∧ J (gs ++ [c]) ∧ hp' = H (gs ++ [c]) ∧ nx' = N (gs ++ [c]))) :
  CallH Tryz.prog G0 85 [.yld l, .ptr iwb 0 0] (H []) (N []) (fun _ hp' nx' => J w.cells ∧ hp' = H w.cells ∧ nx' = N w.cells) := by
  rw [cells_sel hw] at hY ⊢
  obtain ⟨p, hp⟩ : ∃ p : HC → Bool, p = fun c => w.h c.row.toNat c.col.toNat := ⟨_, rfl⟩
  rw [← hp] at hY ⊢
  obtain ⟨L, hL⟩ : ∃ L, L = selC p n m (0 * m) := ⟨_, rfl⟩
  have hn3 := hw.n3
  have hm4 := hw.m4
  rw [← hL] at hY ⊢
  have hn := hw.dims.1
  refine CallH.body 40 [] Tryz.func85 (by kernel_rfl) rfl rfl rfl ?_
  refine Tr.reg [0, 1, 10, 11, 12] (by
      simp only [↓sxd, sxu, ↓zE, ↓exq, ↓zB, ↓zL, ↓zD, ↓zR, ↓zA, Nat.reduceBEq, Nat.reduceAdd, Nat.reduceLT, Nat.reduceEqDiff, sxe, tysH13_85, hW]
      (all_goals try exact zF)) ?_
  refine Tr.imp (st' := ⟨[(0, .yld l), (1, .ptr iwb 0 0), (10, SL w.rows), (11, I w.rows.length), (12, I 0)], H [], N [], 40, [], N []⟩) (Imp.keepAll) (Tr.block (Tr.loopI (fun mm ss => ∃ (r : Nat) (gs : List HC), (r ≤ n ∧ J gs ∧ gs ++ selC p n m (r * m) = L) ∧ n - r = mm ∧ ss = ⟨[(0, .yld l), (1, .ptr iwb 0 0), (10, SL w.rows), (11, I w.rows.length), (12, I r)], H gs, N gs, 40, [], N []⟩) _ ⟨0, [], ?_, rfl, rfl⟩ ?_))
  · exact ⟨Nat.zero_le _, hJ, hL.symm⟩
  rintro mm ss ⟨r, gs, hI, rfl, rfl⟩
  obtain ⟨hrn, hJg, hsel⟩ := hI
  refine Tr.reg [0, 1, 10, 11, 12, 13] (by
      simp only [↓sxd, sxu, ↓zE, ↓exq, Nat.reduceBEq, Nat.reduceLT, sxe]
      (all_goals try exact zF)) ?_
  refine Tr.seq ?_
  refine Tr.cond rfl (fun h13 => ?_) (fun h13 => ?_)
  · have hr : r < w.rows.length := by simpa using h13
    have hrl := hw.dim.2 r (by omega)
    refine Tr.skip ?_
    refine Tr.seq ?_
    refine Tr.block ?_
    refine Tr.reg [0, 1, 3, 4, 10, 11, 12] (by
        simp only [↓sxd, sxu, ↓zE, ↓exq, ↓zD, Nat.reduceBEq, Nat.reduceLT, sxe, tysH13_85, hr]
        (all_goals try exact zF)) ?_
    refine Tr.reg [0, 1, 3, 10, 11, 12, 18, 19] (by
        simp only [↓sxd, sxu, ↓zE, ↓exq, ↓zB, ↓zL, Nat.reduceBEq, Nat.reduceLT, sxe, tysH13_85]
        (all_goals try exact zF)) ?_
    refine Tr.imp (st' := ⟨[(0, .yld l), (1, .ptr iwb 0 0), (3, I r), (10, SL w.rows), (11, I w.rows.length), (12, I r), (18, I (w.rows.getD r []).length), (19, I 0)], H gs, N gs, 40, [], N []⟩) (Imp.keepAll) (Tr.block (Tr.loopI (fun mm ss => ∃ (c : Nat) (g2 : List HC), (c ≤ m ∧ J g2 ∧ g2 ++ selC p n m (r * m + c) = L) ∧ m - c = mm ∧ ss = ⟨[(0, .yld l), (1, .ptr iwb 0 0), (3, I r), (10, SL w.rows), (11, I w.rows.length), (12, I r), (18, I (w.rows.getD r []).length), (19, I c)], H g2, N g2, 40, [], N []⟩) _ ⟨0, gs, ?_, rfl, rfl⟩ ?_))
    · exact ⟨Nat.zero_le _, hJg, hsel⟩
    rintro mm ss ⟨c, g2, hI, rfl, rfl⟩
    obtain ⟨hcm, hJ2, hsel2⟩ := hI
    refine Tr.reg [0, 1, 3, 10, 11, 12, 18, 19, 20] (by
        simp only [↓sxd, sxu, ↓zE, ↓exq, Nat.reduceBEq, Nat.reduceLT, sxe]
        (all_goals try exact zF)) ?_
    refine Tr.seq ?_
    refine Tr.cond rfl (fun h20 => ?_) (fun h20 => ?_)
    · have hc0 : c < (w.rows.getD r []).length := by simpa using h20
      have hc : c < m := by omega
      have hi3 := i3 (show r < n by omega) hw.n3
      have hj4 := i4 hc hw.m4
      have hw0 := wd_hid hw.hl (show r < 3 by omega) (show c < 4 by omega)
      have hw1 := wd_hid0 hw.hl (show r < 3 by omega) (show c < 4 by omega)
      have hpe : p ⟨(r : Nat), (c : Nat)⟩ = w.h r c := by rw [hp]; rfl
      have hcn : c + 1 ≤ m := hc
      have hWg := hW g2
      refine Tr.skip ?_
      refine Tr.seq ?_
      refine Tr.block ?_
      refine Tr.reg [0, 1, 3, 5, 10, 11, 12, 18, 19] (by
          simp only [↓sxd, sxu, ↓zE, ↓exq, Nat.reduceBEq, Nat.reduceLT]
          (all_goals try exact zF)) ?_
      refine Tr.seq (Tr.mono (Q := fun x s => x = .normal ∧ ∃ g3, J g3 ∧ g3 ++ selC p n m (r * m + (c + 1)) = L ∧ Imp s ⟨[(0, .yld l), (1, .ptr iwb 0 0), (3, I r), (10, SL w.rows), (11, I w.rows.length), (12, I r), (18, I (w.rows.getD r []).length), (19, I c), (37, B false)], H g3, N g3, 40, [], N []⟩) ?_ ?_)
      · cases ho : w.h r c with
        | false =>
          rw [sel_no (by omega) hc (by rw [hpe]; exact ho)] at hsel2
          refine Tr.region ?_
          simp only [↓sxd, sxu, ↓zE, ↓exq, ↓zD, ↓zR, ↓zA, Nat.reduceBEq, Nat.reduceLT, Nat.reduceEqDiff, sxe, tysH13_85, hWg, hi3, hj4, hw0, hw1, ho]
          iterate 6
            (repeat ((with_reducible refine And.intro ?_ ?_); (focus (exact zS))))
            refine GdO.no rfl ?_
            simp only [↓sxd, sxu, ↓zE, ↓exq, ↓zI, Nat.reduceBEq, Nat.reduceLT]
          (repeat ((with_reducible refine And.intro ?_ ?_); (focus (exact zS))))
          exact ⟨g2, hJ2, hsel2, Imp.keep [0, 1, 3, 10, 11, 12, 18, 19, 37]⟩
        | true =>
          rw [sel_yes (by omega) hc (by rw [hpe]; exact ho)] at hsel2
          refine Tr.region ?_
          simp only [↓sxd, sxu, ↓zE, ↓exq, ↓zD, ↓zR, ↓zA, Nat.reduceBEq, Nat.reduceLT, Nat.reduceEqDiff, sxe, tysH13_85, hWg, hi3, hj4, hw0, hw1, ho]
          iterate 5
            (repeat ((with_reducible refine And.intro ?_ ?_); (focus (exact zS))))
            refine GdO.now rfl ?_
            simp only [↓sxd, sxu, ↓zE, ↓exq, ↓zB, ↓zO, Nat.reduceBEq, Nat.reduceAdd, Nat.reduceLT, Nat.reduceLeDiff, tysH13_85]
          refine (hY g2 ⟨(r : Nat), (c : Nat)⟩ _ hsel2 hJ2).mono ?_
          rintro r' hp' nx' ⟨rfl, hJ3, rfl, rfl⟩
          try simp only [↓sxd, sxu, ↓zE, ↓zC, zJ, ↓exP, ↓exq, ↓zB, ↓zI, ↓zK, ↓zL, ↓zD, ↓zR, ↓zO, ↓zA, Nat.reduceBEq, Nat.reduceAdd, Nat.reduceLT, Nat.reduceMul, Nat.reduceSub, Nat.reduceLeDiff, Nat.reduceEqDiff, Int.reduceLE, Int.reduceLT, Int.reduceToNat, reduceIte, sxe, tysH13_85]
          refine GdO.now rfl ?_
          simp only [↓sxd, sxu, ↓zE, ↓exq, ↓zI, ↓zK, Nat.reduceBEq, Nat.reduceLT, Bool.not_true]
          (repeat ((with_reducible refine And.intro ?_ ?_); (focus (exact zS))))
          exact ⟨g2 ++ [⟨(r : Nat), (c : Nat)⟩], hJ3, by rw [List.append_assoc]; exact hsel2, Imp.keep [0, 1, 3, 10, 11, 12, 18, 19, 37]⟩
      rintro x s ⟨rfl, g3, hJ3, hsel3, himp⟩
      refine Tr.imp himp ?_
      refine Tr.cond rfl (fun h37 => ?_) (fun h37 => ?_)
      · cases h37
      · refine Tr.skip ?_
        have w1 : IntKind.i64.wrap ((c : Int) + 1) = ((c + 1 : Nat) : Int) := by rw [wr (by omega) (by omega)]; rfl
        refine Tr.reg1 [0, 1, 3, 10, 11, 12, 18, 19] (by
            simp only [↓sxd, sxu, ↓zE, ↓exq, Nat.reduceBEq, Nat.reduceLT, w1]
            (all_goals try exact zF)) ?_
        exact ⟨_, _, by omega, Imp.keepAll, ⟨c + 1, g3, ⟨hcn, hJ3, hsel3⟩, rfl, rfl⟩⟩
    · have hc0 : ¬ c < (w.rows.getD r []).length := by simpa using h20
      have hc : c = m := by omega
      subst hc
      refine Tr.exit ?_
      have w1 : IntKind.i64.wrap ((r : Int) + 1) = ((r + 1 : Nat) : Int) := by rw [wr (by omega) (by omega)]; rfl
      refine Tr.reg1 [0, 1, 10, 11, 12] (by
          simp only [↓sxd, sxu, ↓zE, ↓exq, Nat.reduceBEq, Nat.reduceLT, w1]
          (all_goals try exact zF)) ?_
      exact ⟨_, _, by omega, Imp.keepAll, ⟨r + 1, _, ⟨by omega, hJ2, by rw [Nat.succ_mul]; exact hsel2⟩, rfl, rfl⟩⟩
  · have hr : r = n := by simp at h13; omega
    subst hr
    rw [sel_end, List.append_nil] at hsel
    subst hsel
    refine Tr.exit ?_
    exact ⟨.inl rfl, .tup [], trivial, hJg, rfl, rfl⟩
end Go.Proofs.YtijechcadlklhaaGreat
namespace Go.Proofs.YtijechcadlklhaaGreat
open Go.Sy
set_option maxRecDepth 8000
def refsS (sz b m : Nat) : Nat → List (List SV)
  | 0 => []
  | k + 1 => refsS sz b m k ++ [[.slc (b + k) sz 0 m m]]
def rowsS (b : Nat) (F : Nat → Sy.Obj) : Nat → HpT
  | 0 => []
  | k + 1 => (b + k, F k) :: rowsS b F k
theorem refsS_len (sz b m : Nat) : ∀ n, (refsS sz b m n).length = n
  | 0 => rfl
  | n + 1 => by rw [refsS, List.length_append, refsS_len sz b m n]; rfl
theorem refsS_get (sz b m : Nat) {r : Nat} : ∀ n, r < n → (refsS sz b m n).getD r [] = [.slc (b + r) sz 0 m m]
  | 0, h => by omega
  | n + 1, h => by
    rw [refsS, List.getD_eq_getElem?_getD]
    by_cases e : r < n
    · rw [List.getElem?_append_left (by rw [refsS_len]; exact e), ← List.getD_eq_getElem?_getD]
      exact refsS_get sz b m n e
    · have e' : r = n := by omega
      subst e'
      rw [List.getElem?_append_right (by rw [refsS_len]; exact Nat.le_refl _), refsS_len]
      simp
theorem rowsS_look {b : Nat} {F : Nat → Sy.Obj} {r : Nat} (hp : HpT) : ∀ n, r < n → (rowsS b F n ++ hp).lookup (b + r) = some (F r)
  | 0, h => by omega
  | n + 1, h => by
    show List.lookup (b + r) ((b + n, _) :: (rowsS b F n ++ hp)) = _
    by_cases e : r < n
    · have : (b + r == b + n) = false := beq_eq_false_iff_ne.2 (by omega)
      rw [List.lookup_cons, this]
      exact rowsS_look hp n e
    · have e' : r = n := by omega
      subst e'
      rw [List.lookup_cons, beq_self_eq_true]
theorem rowsS_skip {b : Nat} {F : Nat → Sy.Obj} {k : Nat} (hp : HpT) : ∀ n, k < b ∨ b + n ≤ k → (rowsS b F n ++ hp).lookup k = hp.lookup k
  | 0, h => rfl
  | n + 1, h => by
    show List.lookup k ((b + n, _) :: (rowsS b F n ++ hp)) = _
    have : (k == b + n) = false := beq_eq_false_iff_ne.2 (by omega)
    rw [List.lookup_cons, this]
    exact rowsS_skip hp n (by omega)
theorem rowsS_updskip {b : Nat} {F : Nat → Sy.Obj} {k : Nat} (x : Sy.Obj) (hp : HpT) : ∀ n, k < b ∨ b + n ≤ k → upd (rowsS b F n ++ hp) k x = rowsS b F n ++ upd hp k x
  | 0, h => rfl
  | n + 1, h => by
    have hne : ¬ b + n = k := by omega
    show upd ((b + n, _) :: (rowsS b F n ++ hp)) k x = _
    rw [upd, if_neg hne, rowsS_updskip x hp n (by omega)]
    rfl
theorem rowsS_ext {b : Nat} {F F' : Nat → Sy.Obj} : ∀ n, (∀ i, i < n → F i = F' i) → rowsS b F n = rowsS b F' n
  | 0, _ => rfl
  | n + 1, h => by rw [rowsS, rowsS, h n (by omega), rowsS_ext n fun i hi => h i (by omega)]
theorem rowsS_upd {b : Nat} {F F' : Nat → Sy.Obj} {r : Nat} (hp : HpT) : ∀ n, r < n → (∀ i, i < n → i ≠ r → F i = F' i) → upd (rowsS b F n ++ hp) (b + r) (F' r) = rowsS b F' n ++ hp
  | 0, h, _ => by omega
  | n + 1, h, hF => by
    show upd ((b + n, _) :: (rowsS b F n ++ hp)) (b + r) _ = _
    by_cases e : r < n
    · have hne : ¬ b + n = b + r := by omega
      rw [upd, if_neg hne, rowsS_upd hp n e fun i hi h => hF i (by omega) h, hF n (by omega) (by omega)]
      rfl
    · have e' : r = n := by omega
      subst e'
      rw [upd, if_pos rfl, rowsS_ext r fun i hi => hF i (by omega) (by omega)]
      rfl
theorem refsS_tn {sz b m : Nat} {r : Nat → Nat} {h1 h2 : HpT} : ∀ n, (∀ i, b ≤ i → i < b + n → r i = i) → F2 (F2 (TnS r h1 h2)) (refsS sz b m n) (refsS sz b m n)
  | 0, _ => .nil
  | n + 1, h => F2.append (refsS_tn n fun i h0 hi => h i h0 (by omega)) (.cons (.cons (TnS.slc (h _ (by omega) (by omega))) .nil) .nil)
theorem rowsS_f2 {b : Nat} {F : Nat → Sy.Obj} {r : Nat → Nat} {h1 h2 : HpT} : ∀ n, (∀ i, b ≤ i → i < b + n → r i = i) → (∀ i, i < n → TnO r h1 h2 (F i) (F i)) → F2 (fun p p' => p.1 = r p'.1 ∧ TnO r h1 h2 p.2 p'.2) (rowsS b F n) (rowsS b F n)
  | 0, _, _ => .nil
  | n + 1, h, hF => .cons ⟨(h _ (by omega) (by omega)).symm, hF n (by omega)⟩ (rowsS_f2 n (fun i h0 hi => h i h0 (by omega)) fun i hi => hF i (by omega))
theorem refsS_fz {sz b m : Nat} {r : Nat → Nat} {h1 h2 : HpT} (R : Nat → List (List D)) : ∀ n, (∀ i, i < n → TnS r h1 h2 (.slc (b + i) sz 0 m m) (.d (.sl (R i)))) → F2 (F2 fun s x => TnS r h1 h2 s (.d x)) (refsS sz b m n) ((List.range n).map fun i => [.sl (R i)])
  | 0, _ => .nil
  | n + 1, h => by
    rw [List.range_succ, List.map_append]
    exact F2.append (refsS_fz R n fun i hi => h i (by omega)) (.cons (.cons (h n (by omega)) .nil) .nil)
theorem upd_head {k : Nat} {o o' : Sy.Obj} {l : HpT} : upd ((k, o) :: l) k o' = (k, o') :: l := by simp [upd]
def vR (l : List Rng) : List (List SV) := l.map fun q => [I q.lo, I q.hi]
theorem vR_len (l : List Rng) : (vR l).length = l.length := by simp [vR]
theorem vR_tn {r : Nat → Nat} {hp hp' : HpT} (l : List Rng) : F2 (F2 (TnS r hp hp')) (vR l) (vR l) := F2.map fun _ _ => .cons (TnS.d _) (.cons (TnS.d _) .nil)
theorem vR_fz {r : Nat → Nat} {hp hp' : HpT} (l : List Rng) : F2 (F2 fun s x => TnS r hp hp' s (.d x)) (vR l) (dR l) := by
  rw [dR]; exact F2.map fun _ _ => .cons (TnS.d _) (.cons (TnS.d _) .nil)
def HW.rngAt (w : HW) (gs : List HC) (i c : Nat) : Rng := if gs.contains ⟨(i : Nat), (c : Nat)⟩ then ⟨w.lo i c, w.hi i c⟩ else ⟨cellAt w.rows i c, cellAt w.rows i c⟩
def HW.rowAt (w : HW) (gs : List HC) (i m : Nat) : List Rng := (List.range m).map (w.rngAt gs i)
def HW.ranges (w : HW) (n m : Nat) : List (List Rng) := (List.range n).map fun i => (List.range m).map fun c => ⟨w.lo i c, w.hi i c⟩
theorem rowAt_succ (w : HW) (gs : List HC) (i m : Nat) : w.rowAt gs i (m + 1) = w.rowAt gs i m ++ [w.rngAt gs i m] := by simp [HW.rowAt, List.range_succ]
theorem rowAt_len (w : HW) (gs : List HC) (i m : Nat) : (w.rowAt gs i m).length = m := by simp [HW.rowAt]
theorem rngAt_nil (w : HW) (i c : Nat) : w.rngAt [] i c = ⟨cellAt w.rows i c, cellAt w.rows i c⟩ := rfl
theorem rngAt_ne {w : HW} {gs : List HC} {r c i k : Nat} (h : ¬ (i = r ∧ k = c)) : w.rngAt (gs ++ [⟨(r : Nat), (c : Nat)⟩]) i k = w.rngAt gs i k := by
  have : (gs ++ [(⟨(r : Nat), (c : Nat)⟩ : HC)]).contains ⟨(i : Nat), (k : Nat)⟩ = gs.contains ⟨(i : Nat), (k : Nat)⟩ := by
    rw [Bool.eq_iff_iff, List.contains_iff_mem, List.contains_iff_mem, List.mem_append, List.mem_singleton]
    constructor
    · rintro (h1 | h1)
      · exact h1
      · injection h1 with h1 h2
        omega
    · exact .inl
  rw [HW.rngAt, HW.rngAt, this]
theorem rngAt_eq {w : HW} {gs : List HC} {r c : Nat} : w.rngAt (gs ++ [⟨(r : Nat), (c : Nat)⟩]) r c = ⟨w.lo r c, w.hi r c⟩ := by
  rw [HW.rngAt, if_pos]
  rw [List.contains_iff_mem]; simp
theorem rowAt_ne {w : HW} {gs : List HC} {r c i m : Nat} (h : i ≠ r) : w.rowAt (gs ++ [⟨(r : Nat), (c : Nat)⟩]) i m = w.rowAt gs i m := by
  unfold HW.rowAt
  exact List.map_congr_left fun k _ => rngAt_ne fun hc => h hc.1
theorem rowAt_eq {w : HW} {gs : List HC} {r c m : Nat} (hc : c < m) : vR (w.rowAt (gs ++ [⟨(r : Nat), (c : Nat)⟩]) r m) = (vR (w.rowAt gs r m)).set c [I (w.lo r c), I (w.hi r c)] := by
  refine List.ext_getElem (by simp [vR, HW.rowAt]) fun k h1 h2 => ?_
  rw [List.getElem_set]
  have hk : k < m := by simpa [vR, HW.rowAt] using h1
  by_cases e : c = k
  · subst e
    rw [if_pos rfl]
    simp [vR, HW.rowAt, rngAt_eq]
  · rw [if_neg e]
    simp only [vR, HW.rowAt, List.getElem_map, List.getElem_range]
    rw [rngAt_ne fun hc => e hc.2.symm]
theorem HW.Ok.ranges_eq {w : HW} {n m : Nat} (hw : w.Ok n m) : (List.range n).map (fun i => w.rowAt w.cells i m) = w.ranges n m := by
  unfold HW.ranges HW.rowAt
  refine List.map_congr_left fun i hi => List.map_congr_left fun c hc => ?_
  have hi' := List.mem_range.1 hi
  have hc' := List.mem_range.1 hc
  by_cases h : w.h i c = true
  · rw [HW.rngAt, if_pos]
    rw [List.contains_iff_mem]
    unfold HW.cells
    rw [List.mem_filter, hw.dims.1, hw.dims.2]
    exact ⟨mem_gridC.2 ⟨by simp, by simp; omega, by simp, by simp; omega⟩, by simpa using h⟩
  · have h' : w.h i c = false := by simpa using h
    have e : ∀ up, w.reach up i c = w.rows := fun up => by unfold HW.reach; rw [HW.reachF_not h']
    have e1 : w.lo i c = cellAt w.rows i c := by unfold HW.lo; rw [e]
    have e2 : w.hi i c = cellAt w.rows i c := by unfold HW.hi; rw [e]
    rw [e1, e2, HW.rngAt, if_neg]
    rw [List.contains_iff_mem]
    unfold HW.cells
    rw [List.mem_filter]
    rintro ⟨-, h2⟩
    simp at h2
    rw [h2] at h'
    cases h'
abbrev baseR (w : HW) (id k : Nat) : HpT := [(1, .arr 1 [[.slc id 1 0 k k]]), (0, .arr 1 [[.dp w.d]])]
def FR (w : HW) (gs : List HC) (m i : Nat) : Sy.Obj := .arr 2 (vR (w.rowAt gs i m))
theorem FR_tn {w : HW} {gs : List HC} {m i : Nat} {r : Nat → Nat} {h1 h2 : HpT} : TnO r h1 h2 (FR w gs m i) (FR w gs m i) := TnO.arr (vR_tn _)
def MatR (w : HW) (gs : List HC) (m id k : Nat) : HpT := (id, .arr 1 (refsS 2 3 m k)) :: (rowsS 3 (FR w gs m) k ++ baseR w id k)
theorem vR_snoc (l : List Rng) (a b : Int) : vR (l ++ [⟨a, b⟩]) = vR l ++ [[I a, I b]] := by simp [vR]
theorem vR_get {l : List Rng} {k : Nat} (h : k < l.length) : (vR l).getD k [] = [I (l.getD k default).lo, I (l.getD k default).hi] := by simp [vR, List.getD_eq_getElem?_getD, h]
theorem MatR_2 {w : HW} {gs : List HC} {m k : Nat} : (MatR w gs m 2 k).lookup 2 = some (.arr 1 (refsS 2 3 m k)) := rfl
theorem MatR_1 {w : HW} {gs : List HC} {m k : Nat} : (MatR w gs m 2 k).lookup 1 = some (.arr 1 [[.slc 2 1 0 k k]]) := by
  show (rowsS 3 (FR w gs m) k ++ baseR w 2 k).lookup 1 = _
  rw [rowsS_skip _ k (.inl (by decide))]; rfl
theorem MatR_0 {w : HW} {gs : List HC} {m k : Nat} : (MatR w gs m 2 k).lookup 0 = some (.arr 1 [[.dp w.d]]) := by
  show (rowsS 3 (FR w gs m) k ++ baseR w 2 k).lookup 0 = _
  rw [rowsS_skip _ k (.inl (by decide))]; rfl
theorem MatR_r {w : HW} {gs : List HC} {m k r : Nat} (hr : r < k) : (MatR w gs m 2 k).lookup (3 + r) = some (FR w gs m r) := by
  have : (3 + r == 2) = false := beq_eq_false_iff_ne.2 (by omega)
  rw [MatR, List.lookup_cons, this]
  exact rowsS_look _ k hr
theorem MatR_upd {w : HW} {gs : List HC} {m k r c : Nat} (hr : r < k) (hc : c < m) : upd (MatR w gs m 2 k) (3 + r) (.arr 2 ((vR (w.rowAt gs r m)).set c [I (w.lo r c), I (w.hi r c)])) = MatR w (gs ++ [⟨(r : Nat), (c : Nat)⟩]) m 2 k := by
  have hne : ¬ 2 = 3 + r := by omega
  rw [MatR, upd, if_neg hne, ← rowAt_eq hc]
  have := rowsS_upd (b := 3) (F := FR w gs m) (F' := FR w (gs ++ [⟨(r : Nat), (c : Nat)⟩]) m) (r := r) (baseR w 2 k) k hr (fun i _ hi => by unfold FR; rw [rowAt_ne hi])
  rw [show (.arr 2 (vR (w.rowAt (gs ++ [⟨(r : Nat), (c : Nat)⟩]) r m)) : Sy.Obj) = FR w (gs ++ [⟨(r : Nat), (c : Nat)⟩]) m r from rfl, this]
  rfl
theorem MatR_f2 {w : HW} {gs : List HC} {m k : Nat} {r : Nat → Nat} {h1 h2 : HpT} (h : ∀ i, i < 3 + k → r i = i) : F2 (fun p p' => p.1 = r p'.1 ∧ TnO r h1 h2 p.2 p'.2) (MatR w gs m 2 k) (MatR w gs m 2 k) :=
  .cons ⟨(h 2 (by omega)).symm, TnO.arr (refsS_tn k fun i h0 hi => h i (by omega))⟩ (F2.append (rowsS_f2 k (fun i h0 hi => h i (by omega)) fun _ _ => FR_tn)
    (.cons ⟨(h 1 (by omega)).symm, TnO.arr (.cons (.cons (TnS.slc (h 2 (by omega))) .nil) .nil)⟩ (.cons ⟨(h 0 (by omega)).symm, TnO.arr (.cons (.cons (TnS.dp _) .nil) .nil)⟩ .nil)))
theorem cell_in {w : HW} {n m : Nat} (hw : w.Ok n m) {q : HC} (h : q ∈ w.cells) : ∃ r c : Nat, q = ⟨(r : Nat), (c : Nat)⟩ ∧ r < n ∧ c < m := by
  unfold HW.cells at h
  rw [List.mem_filter, hw.dims.1, hw.dims.2] at h
  have := mem_gridC.1 h.1
  refine ⟨q.row.toNat, q.col.toNat, ?_, by omega, by omega⟩
  cases q
  simp only at this
  congr 1 <;> simp only <;> omega
theorem lookup_2nd {k a : Nat} {o o' : Sy.Obj} {l : HpT} (h : (k == a) = false) : List.lookup k ((a, o') :: (k, o) :: l) = some o := by rw [List.lookup_cons, h, List.lookup_cons_self]
theorem upd_2nd {k a : Nat} {o o' o'' : Sy.Obj} {l : HpT} (h : ¬ a = k) : upd ((a, o') :: (k, o) :: l) k o'' = (a, o') :: (k, o'') :: l := by simp [upd, h]
theorem wbx_fz {t : HT} {l : List HC} {hp hp' : HpT} {r : Nat → Nat} {id : Nat} (h : hp.lookup id = some (wbx t (t.w l).hid)) (hn : ∀ p ∈ hp', p.1 ≠ id) : TnS r hp hp' (.ptr id 0 0) (.dp (t.w l).d) :=
  TnS.frzp h hn (by decide) (by simp) (by
    show F2 _ (SL t.rows :: I t.cap :: (t.w l).hid.map B) (_ :: _ :: (t.w l).hid.map cB)
    exact .cons (TnS.d _) (.cons (TnS.d _) (F2.map fun _ _ => TnS.d _)))
abbrev tysH14_25 := And.intro ty.sz0 <| And.intro ty.agg0 <| And.intro ty.elem0 <| And.intro ty.sz3 <| And.intro ty.agg3 <| And.intro ty.elem3 <| And.intro ty.zero3 <| And.intro ty.und3 <| And.intro ty.sz4 <| And.intro ty.agg4 <| And.intro ty.elem4 <| And.intro ty.zero4 <| And.intro ty.und4 <| And.intro ty.sz22 <| And.intro ty.agg22 <| And.intro ty.elem22 <| And.intro ty.by22 <| And.intro ty.ez22 <| And.intro ty.zero22 <| And.intro ty.und22 <| And.intro ty.sz29 <| And.intro ty.agg29 <| And.intro ty.elem29 <| And.intro ty.zero29 <| And.intro ty.und29 <| And.intro ty.sz32 <| And.intro ty.agg32 <| And.intro ty.fld32_0 <| And.intro ty.fld32_1 <| And.intro ty.elem32 <| And.intro ty.zero32 <| And.intro ty.pl32 <| And.intro ty.sz34 <| And.intro ty.agg34 <| And.intro ty.elem34 <| And.intro ty.by34 <| And.intro ty.ez34 <| And.intro ty.zero34 <| And.intro ty.und34 <| And.intro ty.sz44 <| And.intro ty.agg44 <| And.intro ty.elem44 <| And.intro ty.by44 <| And.intro ty.ez44 <| And.intro ty.zero44 <| And.intro ty.und44 <| And.intro ty.sz55 <| And.intro ty.agg55 <| And.intro ty.elem55 <| And.intro ty.by55 <| And.intro ty.ez55 <| And.intro ty.zero55 <| And.intro ty.und55 <| And.intro ty.sz58 <| And.intro ty.agg58 <| And.intro ty.elem58 <| And.intro ty.by58 <| And.intro ty.ez58 <| And.intro ty.zero58 <| And.intro ty.und58 <| And.intro ty.sz60 <| And.intro ty.agg60 <| And.intro ty.fld60_0 <| And.intro ty.fld60_1 <| And.intro ty.elem60 <| And.intro ty.zero60 <| And.intro ty.pl60 <| And.intro ty.sz79 <| And.intro ty.agg79 <| And.intro ty.fld79_0 <| And.intro ty.fld79_1 <| And.intro ty.elem79 <| And.intro ty.zero79 <| And.intro ty.pl79 <| And.intro ty.sz83 <| And.intro ty.agg83 <| And.intro ty.elem83 <| And.intro ty.zero83 <| And.intro ty.sz84 <| And.intro ty.agg84 <| And.intro ty.elem84 <| And.intro ty.sz99 <| And.intro ty.agg99 <| And.intro ty.elem99 <| ty.zero99
theorem RangesE_c (t : HT) (l : List HC) (hs : small8 t.rows) (hl : l.length ≤ 1000) (hpub : t.pub l ≠ 0) : CallP Tryz.prog G0 25 [t.s, SC l] (.tup [SRL [], I (t.pub l)]) := by
  refine CallP.body 64 [.tmp 4, .tmp 5] Tryz.func25 (by kernel_rfl) rfl rfl rfl zP zP ?_
  refine Tr.reg [1, 2, 4, 5] (by
      simp only [↓sxd, sxu, ↓zE, ↓exq, ↓zM, Nat.reduceBEq, Nat.reduceAdd, Nat.reduceLT, Nat.reduceEqDiff]
      (all_goals try exact zF)) ?_
  refine Tr.reg [2, 4, 5, 6, 7] (by
      simp only [↓sxd, sxu, ↓zE, ↓exq, ↓zD, Nat.reduceBEq, Nat.reduceAdd, Nat.reduceLT, tysH14_25]
      (repeat ((with_reducible refine And.intro ?_ ?_); (focus (exact zS))))
      refine work_h t l hs hl _ _ (TnFix.cons (show 0 < 1 by decide) (fun _ _ _ _ => TnO.arr zT) (TnFix.nil _)) _ (fun h => absurd h hpub) (fun _ => ?_)
      try simp only [↓sxd, sxu, ↓zE, ↓exq, ↓zH, ↓zN, Nat.reduceBEq, Nat.reduceAdd, Nat.reduceLT, Nat.reduceEqDiff, tysH14_25]
      (all_goals try exact zF)) ?_
  refine Tr.seq ?_
  refine Tr.reg [2, 4, 5, 6, 7, 22] (by
      simp only [↓sxd, sxu, ↓zE, ↓exq, Nat.reduceBEq, Nat.reduceLT]
      (all_goals try exact zF)) ?_
  refine Tr.cond rfl (fun h22 => ?_) (fun h22 => ?_)
  · refine Tr.reg [4, 5] (by
        simp only [↓sxd, sxu, ↓zE, ↓exq, Nat.reduceBEq, Nat.reduceLT]
        (all_goals try exact zF)) ?_
    refine Tr.imp (Imp.fin (tm' := [(4, SRL []), (5, I (t.pub l))]) (.cons rfl (TnS.dxd _) (.cons rfl (TnS.d _) trivial))) ?_
    refine Tr.ret ?_
    (refine ⟨.inr rfl, ?_⟩; first | rfl | exact ⟨rfl, rfl, trivial⟩ | exact ⟨rfl, rfl, rfl, trivial⟩ | (simp only [Res, ResL, ResOK, ↓sxd, sxu, ↓zE, ↓zC, zJ, ↓exP, ↓exq, ↓zB, ↓zK, ↓zL, ↓zD, ↓zH, ↓zN, ↓zM, ↓zO, ↓zG, ↓zQ, ↓zA, Nat.reduceBEq, Nat.reduceAdd, Nat.reduceLT, Nat.reduceMul, Nat.reduceSub, Nat.reduceLeDiff, Nat.reduceEqDiff, Int.reduceLE, Int.reduceLT, Int.reduceToNat, reduceIte, sxe, tysH14_25]; (repeat' (first | rfl | exact trivial | exact fun h => h | exact fun h => (by rw [h]; rfl) | apply And.intro | omega | exact Nat.le_of_ble_eq_true rfl))))
  · exact absurd (by simpa using h22) hpub
theorem RangesO_c (t : HT) (l : List HC) (hs : small8 t.rows) (hl : l.length ≤ 1000) (hpub : t.pub l = 0) : CallP Tryz.prog G0 25 [t.s, SC l] (.tup [SRL ((t.w l).ranges t.n t.m), I 0]) := by
  have hw := HT.w_ok hpub
  change (t.w l).Ok t.n t.m at hw
  have hwr : t.rows = (t.w l).rows := rfl
  obtain ⟨n, hn⟩ : ∃ n, n = t.n := ⟨_, rfl⟩
  obtain ⟨m, hm⟩ : ∃ m, m = t.m := ⟨_, rfl⟩
  rw [← hn, ← hm] at hw ⊢
  obtain ⟨w, hwe⟩ : ∃ w, w = t.w l := ⟨_, rfl⟩
  have hn3 := hw.n3
  have hm4 := hw.m4
  rw [← hwe] at hw hwr ⊢
  have hdn := hw.dims.1
  rw [← hwr] at hdn
  refine CallP.body 64 [.tmp 4, .tmp 5] Tryz.func25 (by kernel_rfl) rfl rfl rfl zP zP ?_
  refine Tr.reg [1, 2, 4, 5] (by
      simp only [↓sxd, sxu, ↓zE, ↓exq, ↓zM, Nat.reduceBEq, Nat.reduceAdd, Nat.reduceLT, Nat.reduceEqDiff]
      (all_goals try exact zF)) ?_
  refine Tr.reg [2, 4, 5, 6, 7] (by
      simp only [↓sxd, sxu, ↓zE, ↓exq, ↓zD, Nat.reduceBEq, Nat.reduceAdd, Nat.reduceLT, tysH14_25]
      (repeat ((with_reducible refine And.intro ?_ ?_); (focus (exact zS))))
      refine work_h t l hs hl _ _ (TnFix.cons (show 0 < 1 by decide) (fun _ _ _ _ => TnO.arr zT) (TnFix.nil _)) _ (fun _ => ?_) (fun h => absurd hpub h)
      try simp only [↓sxd, sxu, ↓zE, ↓exq, ↓zH, ↓zN, Nat.reduceBEq, Nat.reduceAdd, Nat.reduceLT, Nat.reduceEqDiff, tysH14_25]
      (all_goals try exact zF)) ?_
  refine Tr.seq ?_
  refine Tr.reg [2, 4, 5, 6, 7, 22] (by
      simp only [↓sxd, sxu, ↓zE, ↓exq, Nat.reduceBEq, Nat.reduceLT]
      (all_goals try exact zF)) ?_
  refine Tr.cond rfl (fun h22 => ?_) (fun h22 => ?_)
  · cases h22
  · refine Tr.skip ?_
    refine Tr.reg [2, 4, 5, 6, 8] (by
        simp only [↓sxd, sxu, ↓zE, ↓exq, ↓zN, Nat.reduceBEq, Nat.reduceAdd, Nat.reduceLT, Nat.reduceEqDiff, tysH14_25]
        (all_goals try exact zF)) ?_
    refine Tr.seq ?_
    refine Tr.reg [4, 5, 6, 8, 25, 26, 27] (by
        simp only [↓sxd, sxu, ↓zE, ↓exq, ↓zB, ↓zL, ↓zD, ↓zA, Nat.reduceBEq, Nat.reduceAdd, Nat.reduceLT, Nat.reduceEqDiff, sxe, tysH14_25]
        (all_goals try exact zF)) ?_
    refine Tr.imp (st' := ⟨[(4, .dx []), (5, I 0), (6, .ptr 0 0 0), (8, .ptr 1 0 0), (25, SL t.rows), (26, I t.rows.length), (27, I 0)], MatR w [] m 2 0, 3 + 0, 64, [], 0⟩) (Imp.trans (b := ⟨[(4, .dx []), (5, I 0), (6, .ptr 2 0 0), (8, .ptr 3 0 0), (25, SL t.rows), (26, I t.rows.length), (27, I 0)], [(4, .arr 1 []), (3, .arr 1 [[.slc 4 1 0 0 0]]), (2, .arr 1 [[.ptr 1 0 0]]), (1, wbx t (t.w l).hid), (0, tbx t)], 5, 64, [], 0⟩) (Imp.goV 1 rfl rfl rfl rfl (by repeat' (first | exact trivial | exact F2.nil | refine F2.cons ?_ ?_ | refine TmV.cons rfl VnS.nil ?_ | refine TmV.cons rfl VnS.same ?_ | refine ⟨rfl, ?_⟩ | exact VnO.same _ | refine VnO.arr ?_ | exact VnS.nil | exact VnS.same | exact F2.refl fun _ _ => VnS.same)) (by repeat' (first | exact trivial | exact F2.nil | refine F2.cons ?_ ?_ | refine TmV.cons rfl VnS.nil ?_ | refine TmV.cons rfl VnS.same ?_ | refine ⟨rfl, ?_⟩ | exact VnO.same _ | refine VnO.arr ?_ | exact VnS.nil | exact VnS.same | exact F2.refl fun _ _ => VnS.same))) (Imp.go (fun i => i + 2) [(4, _), (3, _), (2, _)] rfl rfl (.cons_cons _ (.cons_cons _ (.cons_cons _ (.cons _ (.cons _ .slnil))))) (fun _ h => absurd h (Nat.not_lt_zero _)) (fun id h => Nat.add_le_add_right h 2) zT (.cons ⟨rfl, TnO.arr .nil⟩ (.cons ⟨rfl, TnO.arr (.cons (.cons (TnS.slc rfl) .nil) .nil)⟩ (.cons ⟨rfl, TnO.arr (.cons (.cons (by rw [hwe]; exact wbx_fz rfl (by simp)) .nil) .nil)⟩ .nil))) (fun h => h))) (Tr.block (Tr.loopI (fun mm ss => ∃ (k : Nat), (k ≤ n) ∧ n - k = mm ∧ ss = ⟨[(4, .dx []), (5, I 0), (6, .ptr 0 0 0), (8, .ptr 1 0 0), (25, SL t.rows), (26, I t.rows.length), (27, I k)], MatR w [] m 2 k, 3 + k, 64, [], 0⟩) _ ⟨0, ?_, rfl, rfl⟩ ?_))
    · exact Nat.zero_le _
    rintro mm ss ⟨k, hI, rfl, rfl⟩
    refine Tr.reg [4, 5, 6, 8, 25, 26, 27, 28] (by
        simp only [↓sxd, sxu, ↓zE, ↓exq, Nat.reduceBEq, Nat.reduceLT, sxe]
        (all_goals try exact zF)) ?_
    refine Tr.seq ?_
    refine Tr.cond rfl (fun h28 => ?_) (fun h28 => ?_)
    · have hk : k < t.rows.length := by simpa using h28
      have hkn : k < n := by omega
      have hrl := hw.dim.2 k hkn
      rw [← hwr] at hrl
      refine Tr.skip ?_
      refine Tr.seq ?_
      refine Tr.block ?_
      refine Tr.reg [4, 5, 6, 8, 10, 25, 26, 27] (by
          simp only [↓sxd, sxu, ↓zE, ↓exq, ↓zD, Nat.reduceBEq, Nat.reduceLT, sxe, tysH14_25, hk]
          (all_goals try exact zF)) ?_
      refine Tr.reg [4, 5, 6, 8, 10, 11, 25, 26, 27] (by
          simp only [↓sxd, sxu, ↓zE, ↓exq, Nat.reduceBEq, Nat.reduceLT]
          (all_goals try exact zF)) ?_
      refine Tr.seq ?_
      refine Tr.reg [4, 5, 6, 8, 11, 25, 26, 27, 31, 32, 33] (by
          simp only [↓sxd, sxu, ↓zE, ↓exq, ↓zB, ↓zL, Nat.reduceBEq, Nat.reduceLT, sxe, tysH14_25]
          (all_goals try exact zF)) ?_
      refine Tr.imp (st' := ⟨[(4, .dx []), (5, I 0), (6, .ptr 0 0 0), (8, .ptr 1 0 0), (11, .slc (3 + k) 2 0 0 0), (25, SL t.rows), (26, I t.rows.length), (27, I k), (31, SI (t.rows.getD k [])), (32, I (t.rows.getD k []).length), (33, I 0)], (3 + k, .arr 2 (vR (w.rowAt [] k 0))) :: MatR w [] m 2 k, 3 + k + 1, 64, [], 0⟩) (Imp.goV 2 rfl rfl rfl rfl (by repeat' (first | exact trivial | exact F2.nil | refine F2.cons ?_ ?_ | refine TmV.cons rfl VnS.nil ?_ | refine TmV.cons rfl VnS.same ?_ | refine ⟨rfl, ?_⟩ | exact VnO.same _ | refine VnO.arr ?_ | exact VnS.nil | exact VnS.same | exact F2.refl fun _ _ => VnS.same)) (F2.refl fun _ _ => ⟨rfl, VnO.same _⟩)) (Tr.block (Tr.loopI (fun mm ss => ∃ (c : Nat), (c ≤ m) ∧ m - c = mm ∧ ss = ⟨[(4, .dx []), (5, I 0), (6, .ptr 0 0 0), (8, .ptr 1 0 0), (11, .slc (3 + k) 2 0 c c), (25, SL t.rows), (26, I t.rows.length), (27, I k), (31, SI (t.rows.getD k [])), (32, I (t.rows.getD k []).length), (33, I c)], (3 + k, .arr 2 (vR (w.rowAt [] k c))) :: MatR w [] m 2 k, 3 + k + 1, 64, [], 0⟩) _ ⟨0, ?_, rfl, rfl⟩ ?_))
      · exact Nat.zero_le _
      rintro mm ss ⟨c, hI, rfl, rfl⟩
      refine Tr.reg [4, 5, 6, 8, 11, 25, 26, 27, 31, 32, 33, 34] (by
          simp only [↓sxd, sxu, ↓zE, ↓exq, Nat.reduceBEq, Nat.reduceLT, sxe]
          (all_goals try exact zF)) ?_
      refine Tr.seq ?_
      refine Tr.cond rfl (fun h34 => ?_) (fun h34 => ?_)
      · have hc : c < (t.rows.getD k []).length := by simpa using h34
        have hcm : c < m := by omega
        refine Tr.skip ?_
        refine Tr.seq ?_
        refine Tr.block ?_
        refine Tr.reg [4, 5, 6, 8, 11, 13, 25, 26, 27, 31, 32, 33] (by
            simp only [↓sxd, sxu, ↓zE, ↓exq, ↓zD, Nat.reduceBEq, Nat.reduceLT, sxe, tysH14_25, hc]
            (all_goals try exact zF)) ?_
        have hk2 : (c + 1 ≤ 1073741824) = True := eq_true (by omega)
        refine Tr.reg1 [4, 5, 6, 8, 11, 25, 26, 27, 31, 32, 33] (by
            simp only [↓sxd, sxu, ↓zE, ↓exq, ↓zB, ↓zO, ↓zG, ↓zQ, Nat.reduceBEq, Nat.reduceAdd, Nat.reduceLT, Nat.reduceLeDiff, Nat.reduceEqDiff, tysH14_25, vR_len, rowAt_len, hk2]
            (all_goals try exact zF)) ?_
        have w1 : IntKind.i64.wrap ((c : Int) + 1) = ((c + 1 : Nat) : Int) := by rw [wr (by omega) (by omega)]; rfl
        refine Tr.reg1 [4, 5, 6, 8, 11, 25, 26, 27, 31, 32, 33] (by
            simp only [↓sxd, sxu, ↓zE, ↓exq, Nat.reduceBEq, Nat.reduceLT, w1]
            (all_goals try exact zF)) ?_
        refine ⟨_, _, ?_, ?_, ⟨c + 1, hcm, rfl, rfl⟩⟩
        · omega
        · rw [rowAt_succ, rngAt_nil, vR_snoc, ← hwr]
          exact Imp.go (rg (3 + k) 1) _ rfl rfl (.refl _) (fun _ h => absurd h (Nat.not_lt_zero _)) (fun id h => by rw [rg_ge (by omega)]; show 3 + k + 1 + 1 ≤ id + 1; omega) (.cons rfl (TnS.dx _) (.cons rfl (TnS.d _) (.cons rfl (TnS.ptr (rg_lt (by omega))) (.cons rfl (TnS.ptr (rg_lt (by omega))) (.cons rfl (TnS.slc (rg_ge (Nat.le_refl _))) (.cons rfl (TnS.d _) (.cons rfl (TnS.d _) (.cons rfl (TnS.d _) (.cons rfl (TnS.d _) (.cons rfl (TnS.d _) (.cons rfl (TnS.d _) trivial))))))))))) (.cons ⟨(rg_ge (Nat.le_refl _)).symm, TnO.arr (F2.append (vR_tn _) (.cons (.cons (TnS.d _) (.cons (TnS.d _) .nil)) .nil))⟩ (MatR_f2 fun i hi => rg_lt hi)) (fun h => h)
      · have hc : c = m := by have : ¬ c < (t.rows.getD k []).length := by { simpa using h34 }; omega
        subst hc
        refine Tr.exit ?_
        have a1 : (2 == 3 + k + 1) = false := beq_eq_false_iff_ne.2 (by omega)
        have a2 : (2 == 3 + k) = false := beq_eq_false_iff_ne.2 (by omega)
        have a3 : (3 + k + 1 = 2) = False := eq_false (by omega)
        have a4 : (3 + k = 2) = False := eq_false (by omega)
        have a5 : (k = (refsS 2 3 c k).length) = True := by rw [refsS_len]; simp
        have a6 : ((refsS 2 3 c k).length ≤ 1073741823) = True := by rw [refsS_len]; simp; omega
        have b0 : (1 == 3 + k) = false := beq_eq_false_iff_ne.2 (by omega)
        have b1 : (1 == 3 + k + 1) = false := beq_eq_false_iff_ne.2 (by omega)
        have b2 : (1 == 3 + k + 1 + 1) = false := beq_eq_false_iff_ne.2 (by omega)
        have c0 : (3 + k = 1) = False := eq_false (by omega)
        have c1 : (3 + k + 1 = 1) = False := eq_false (by omega)
        have c2 : (3 + k + 1 + 1 = 1) = False := eq_false (by omega)
        have L1 := MatR_1 (w := w) (gs := []) (m := c) (k := k)
        have L1' : (rowsS 3 (FR w [] c) k ++ baseR w 2 k).lookup 1 = some (.arr 1 [[.slc 2 1 0 k k]]) := by rw [rowsS_skip _ k (.inl (by decide))]; rfl
        have U1 : ∀ o, upd (rowsS 3 (FR w [] c) k ++ baseR w 2 k) 1 o = rowsS 3 (FR w [] c) k ++ [(1, o), (0, .arr 1 [[.dp w.d]])] := fun o => by rw [rowsS_updskip _ _ k (.inl (by decide))]; rfl
        refine Tr.regT1 5 [4, 5, 6, 8, 25, 26, 27] rfl (RegT.cut 2 3 [4, 5, 6, 8, 25, 26, 27, 44, 45] (by decide) (by
          simp only [List.drop_zero, List.take_succ_cons, List.take_zero]
          simp only [↓sxd, sxu, ↓zE, ↓exq, ↓zD, Nat.reduceBEq, Nat.reduceLT, tysH14_25, b0, L1]
          (repeat' (first | rfl | exact trivial | exact fun h => h | exact fun h => (by rw [h]; rfl) | apply And.intro | omega | exact Nat.le_of_ble_eq_true rfl))) (RegT.own (k := 2) (n := 0) (sz := 1) (es := [[.slc (3 + k) 2 0 c c]]) rfl rfl rfl rfl (show 46 < 64 by decide) (by kernel_rfl) (by decide) (by kernel_rfl) rfl (by rfl) rfl rfl (by decide) (RegT.cut (k := 3) 2 0 [4, 5, 6, 8, 25, 26, 27] (by decide) (by
          simp only [List.drop_succ_cons, List.drop_zero, List.take_succ_cons, List.take_zero]
          simp only [↓sxd, sxu, ↓zE, ↓exq, ↓zB, ↓zQ, Nat.reduceBEq, Nat.reduceLT, Nat.reduceLeDiff, Nat.reduceEqDiff, tysH14_25, MatR, a1, a2, a3, a4, a5, a6, b0, b1, b2, c0, c1, c2, L1', U1]
          (repeat' (first | rfl | exact trivial | exact fun h => h | exact fun h => (by rw [h]; rfl) | apply And.intro | omega | exact Nat.le_of_ble_eq_true rfl))) (RegT.nil rfl)))) ?_
        have w1 : IntKind.i64.wrap ((k : Int) + 1) = ((k + 1 : Nat) : Int) := by rw [wr (by omega) (by omega)]; rfl
        refine Tr.reg1 [4, 5, 6, 8, 25, 26, 27] (by
            simp only [↓sxd, sxu, ↓zE, ↓exq, Nat.reduceBEq, Nat.reduceLT, w1]
            (all_goals try exact zF)) ?_
        have hro : ∀ i, i < 3 + k + 1 → i ≠ 2 → (if i = 2 then 3 + k + 1 + 1 else if i < 3 + k + 1 then i else i + 2) = i := fun i h1 h2 => by rw [if_neg h2, if_pos h1]
        refine ⟨_, _, ?_, Imp.go (tm' := [(4, .dx []), (5, I 0), (6, .ptr 0 0 0), (8, .ptr 1 0 0), (25, SL t.rows), (26, I t.rows.length), (27, I ((k + 1 : Nat) : Int))]) (hp'' := MatR w [] c 2 (k + 1)) (nx' := 3 + (k + 1)) (fun i => if i = 2 then 3 + k + 1 + 1 else if i < 3 + k + 1 then i else i + 2) ((3 + k + 1 + 1, .arr 1 (refsS 2 3 c k ++ [[.slc (3 + k) 2 0 c c]])) :: (3 + k, .arr 2 (vR (w.rowAt [] k c))) :: (rowsS 3 (FR w [] c) k ++ [(1, .arr 1 [[.slc (3 + k + 1 + 1) 1 0 (k + 1) (k + 1)]]), (0, .arr 1 [[.dp w.d]])])) rfl rfl (.cons_cons _ (.cons _ (.refl _))) (fun _ h => absurd h (Nat.not_lt_zero _)) (fun id h => by
            have e : (if id = 2 then 3 + k + 1 + 1 else if id < 3 + k + 1 then id else id + 2) = id + 2 := by rw [if_neg (by omega), if_neg (by omega)]
            simp only [e]
            show 3 + k + 1 + 1 + 1 ≤ id + 2
            omega) ?_ ?_ (fun h => h), ⟨k + 1, hkn, rfl, rfl⟩⟩
        · omega
        · exact .cons rfl (TnS.dx _) (.cons rfl (TnS.d _) (.cons rfl (TnS.ptr (hro _ (by omega) (by omega))) (.cons rfl (TnS.ptr (hro _ (by omega) (by omega))) (.cons rfl (TnS.d _) (.cons rfl (TnS.d _) (.cons rfl (TnS.d _) trivial))))))
        · exact .cons ⟨(if_pos rfl).symm, TnO.arr (F2.append (refsS_tn k fun i h0 hi => hro i (by omega) (by omega)) (.cons (.cons (TnS.slc (hro _ (by omega) (by omega))) .nil) .nil))⟩ (.cons ⟨(hro _ (by omega) (by omega)).symm, FR_tn⟩ (F2.append (rowsS_f2 k (fun i h0 hi => hro i (by omega) (by omega)) fun _ _ => FR_tn) (.cons ⟨(hro _ (by omega) (by omega)).symm, TnO.arr (.cons (.cons (TnS.slc (if_pos rfl)) .nil) .nil)⟩ (.cons ⟨(hro _ (by omega) (by omega)).symm, TnO.arr (.cons (.cons (TnS.dp _) .nil) .nil)⟩ .nil))))
    · have hk : k = n := by simp at h28; omega
      subst hk
      refine Tr.exit ?_
      refine Tr.seq ?_
      refine Tr.reg [4, 5, 6, 8, 50] (by
          simp only [↓sxd, sxu, ↓zE, ↓exq, ↓zD, Nat.reduceBEq, Nat.reduceLT, tysH14_25, MatR_0]
          (repeat ((with_reducible refine And.intro ?_ ?_); (focus (exact zS))))
          refine CallH.mono (cells_h _ _ w.d) ?_
          rintro r' hp' nx' ⟨rfl, rfl, rfl⟩
          try simp only [↓sxd, sxu, Nat.reduceBEq]
          (all_goals try exact zF)) ?_
      refine Tr.block ?_
      refine Tr.rangeF2 rfl (fun fn ca cb has hbd => ?_)
      try dsimp only
      refine CallH.mono (cells1_h hw (fun _ => True) trivial (fun gs => (3 + k + 1, .loop fn _ _ _ ca cb .ready none 0) :: (3 + k, .arr 1 [[.dp w.d]]) :: MatR w gs m 2 k) (fun gs => 3 + k + 1 + 1 + gs.length) (3 + k) (3 + k + 1) (fun gs => lookup_2nd (beq_eq_false_iff_ne.2 (by omega))) ?_) ?_
      · intro gs q ts hgs _
        obtain ⟨r, c, rfl, hr, hc⟩ : ∃ r c : Nat, q = ⟨(r : Nat), (c : Nat)⟩ ∧ r < k ∧ c < m := cell_in hw (by rw [← hgs]; simp)
        obtain ⟨z, hz⟩ : ∃ z, z = 3 + k + 1 + 1 + gs.length := ⟨_, rfl⟩
        try dsimp only
        rw [← hz]
        refine RoundH.of_body2 has hbd List.lookup_cons_self rfl (fun t ht => by simp at ht; subst ht; decide) (fun ro => ?_)
        refine Tr.reg1 [6, 8, 14] (by
            simp only [↓sxd, sxu, ↓zE, ↓exq, ↓zN, Nat.reduceBEq, Nat.reduceAdd, Nat.reduceLT, Nat.reduceEqDiff, tysH14_25, bindT]
            (all_goals try exact zF)) ?_
        refine ⟨rfl, none, _, lookup_2nd (beq_eq_false_iff_ne.2 (by omega)), ?_⟩
        try dsimp only
        rw [upd_2nd (by omega)]
        refine Tr.block ?_
        refine Tr.post ?_
        have f0 : (0 == z) = false := beq_eq_false_iff_ne.2 (by omega)
        have f1 : (0 == 3 + k + 1) = false := beq_eq_false_iff_ne.2 (by omega)
        have f2 : (0 == 3 + k) = false := beq_eq_false_iff_ne.2 (by omega)
        have g0 : (1 == z) = false := beq_eq_false_iff_ne.2 (by omega)
        have g1 : (1 == 3 + k + 1) = false := beq_eq_false_iff_ne.2 (by omega)
        have g2 : (1 == 3 + k) = false := beq_eq_false_iff_ne.2 (by omega)
        have d0 : (2 == z) = false := beq_eq_false_iff_ne.2 (by omega)
        have d1 : (2 == 3 + k + 1) = false := beq_eq_false_iff_ne.2 (by omega)
        have d2 : (2 == 3 + k) = false := beq_eq_false_iff_ne.2 (by omega)
        have e0 : (3 + r == z) = false := beq_eq_false_iff_ne.2 (by omega)
        have e1 : (3 + r == 3 + k + 1) = false := beq_eq_false_iff_ne.2 (by omega)
        have e2 : (3 + r == 3 + k) = false := beq_eq_false_iff_ne.2 (by omega)
        have w1 : (z = 3 + r) = False := eq_false (by omega)
        have w2 : (3 + k + 1 = 3 + r) = False := eq_false (by omega)
        have w3 : (3 + k = 3 + r) = False := eq_false (by omega)
        have hrg := refsS_get 2 3 m (r := r) k hr
        have hvg := vR_get (show c < (w.rowAt gs r m).length by rw [rowAt_len]; exact hc)
        refine Tr.regD1 [0, 1, 2, 3, 4, 5, 6, 7, 8, 9, 10, 11] [11] [] [] mix (by kernel_rfl) (by
            simp only [↓sxd, sxu, ↓zC, zJ, ↓exq, ↓zD, ↓zA, Nat.reduceBEq, Nat.reduceAdd, Nat.reduceLT, Nat.reduceEqDiff, sxe, tysH14_25, f0, f1, f2, g0, g1, g2, d0, d1, d2, MatR_0, MatR_1, MatR_2, refsS_len, hr, hrg]
            (repeat ((with_reducible refine And.intro ?_ ?_); (focus (exact zS))))
            refine CallD.use (bounds_c hw hr hc) ?_
            try simp only [↓sxd, sxu, ↓zC, zJ, ↓exq, Nat.reduceBEq, Nat.reduceAdd, Nat.reduceLT, sxe, tysH14_25, e0, e1, e2, MatR_r hr, FR, vR_len, rowAt_len, hc, hvg, MatR_upd hr hc, w1, w2, w3]
            (all_goals try exact zF)) ?_
        refine ⟨_, Imp.weak (tm' := []) (fun _ _ h => by cases h) (.cons _ (.refl _)) (Nat.le_refl _), _, _, _, _, _, _, _, _, _, List.lookup_cons_self, ?_⟩
        refine ⟨rfl, trivial, by rw [upd_head], ?_⟩
        rw [List.length_append, List.length_singleton, hz]
        rfl
      rintro r' hp' nx' ⟨-, rfl, rfl⟩
      refine ⟨_, .ready, none, List.lookup_cons_self, by decide, ?_⟩
      try dsimp only
      rw [upd_head]
      have hfz := refsS_fz (sz := 2) (b := 3) (m := m) (r := fun i => i) (h1 := (3 + k + 1, .loop fn [(4, .dx []), (5, I 0), (6, .ptr 0 0 0), (8, .ptr 1 0 0), (50, .clo (.func 85) [] [.ptr (3 + k) 0 0])] 64 #[51] ca cb .exhausted none 0) :: (3 + k, .arr 1 [[.dp w.d]]) :: MatR w w.cells m 2 k) (h2 := [(1, .arr 1 [[.slc 2 1 0 k k]])]) (fun i => dR (w.rowAt w.cells i m)) k (fun i hi => TnS.frz0 (es := vR (w.rowAt w.cells i m)) (by rw [List.lookup_cons, show (3 + i == 3 + k + 1) = false from beq_eq_false_iff_ne.2 (by omega), List.lookup_cons, show (3 + i == 3 + k) = false from beq_eq_false_iff_ne.2 (by omega)]; exact MatR_r hi) (fun p hp => by rw [List.mem_singleton] at hp; subst hp; show 1 ≠ 3 + i; omega) (by decide) (by rw [vR_len, rowAt_len]) (vR_fz _))
      refine Tr.imp (st' := ⟨[(5, I 0), (8, .ptr 1 0 0)], [(1, .arr 1 [[SRL (w.ranges k m)]])], _, 64, [0], 0⟩) (Imp.go (fun i => i) [(1, .arr 1 [[.slc 2 1 0 k k]])] rfl rfl (.cons _ (.cons _ (.cons _ (List.Sublist.trans (.cons_cons _ (.cons _ .slnil)) (List.sublist_append_right _ _))))) (fun _ _ => rfl) (fun _ h => h) (.cons rfl (TnS.d _) (.cons rfl (TnS.ptr rfl) trivial)) (.cons ⟨rfl, TnO.arr (.cons (.cons (TnS.frz0 (es := refsS 2 3 m k) (by rw [List.lookup_cons, show (2 == 3 + k + 1) = false from beq_eq_false_iff_ne.2 (by omega), List.lookup_cons, show (2 == 3 + k) = false from beq_eq_false_iff_ne.2 (by omega)]; exact MatR_2) (fun p hp => by rw [List.mem_singleton] at hp; subst hp; show 1 ≠ 2; omega) (by decide) (refsS_len _ _ _ _) (by rw [← hw.ranges_eq, dRL, List.map_map]; exact hfz)) .nil) .nil)⟩ .nil) (fun h => by cases h)) ?_
      refine Tr.reg [4, 5] (by
          simp only [↓sxd, sxu, ↓zE, ↓exq, ↓zD, Nat.reduceBEq, Nat.reduceLT, tysH14_25]
          (all_goals try exact zF)) ?_
      refine Tr.ret ?_
      (refine ⟨.inr rfl, ?_⟩; first | rfl | exact ⟨rfl, rfl, trivial⟩ | exact ⟨rfl, rfl, rfl, trivial⟩ | (simp only [Res, ResL, ResOK, ↓sxd, sxu, ↓zE, ↓zC, zJ, ↓exP, ↓exq, ↓zB, ↓zK, ↓zL, ↓zD, ↓zH, ↓zN, ↓zM, ↓zO, ↓zG, ↓zQ, ↓zA, Nat.reduceBEq, Nat.reduceAdd, Nat.reduceLT, Nat.reduceMul, Nat.reduceSub, Nat.reduceLeDiff, Nat.reduceEqDiff, Int.reduceLE, Int.reduceLT, Int.reduceToNat, reduceIte, sxe, tysH14_25]; (repeat' (first | rfl | exact trivial | exact fun h => h | exact fun h => (by rw [h]; rfl) | apply And.intro | omega | exact Nat.le_of_ble_eq_true rfl))))
end Go.Proofs.YtijechcadlklhaaGreat
