/- Lemmas, part XPBA. Conditions: none. -/
import Derived.Test.YtcnkbdfkjhlbiaaDoorXPW
import Derived.Test.YtcnkbdfkjhlbiaaDoorXPZ
set_option linter.unusedVariables false
namespace Go.Proofs.YtcnkbdfkjhlbiaaDoor
open Go.Sy
set_option maxRecDepth 8000
theorem Rgs.many_len {v : List Nat} (h : Rgs v) : many v ≤ v.length := by
  induction h with
  | nil => exact Nat.le_refl _
  | @snoc v x h hx ih => rw [many_snoc, List.length_append, List.length_singleton]; omega
theorem Rgs.small {v : List Nat} (h : Rgs v) (hl : v.length ≤ 10) : ∀ x ∈ v, x < 1000 := fun x hx => by
  have h1 := (h.vals x).1 hx
  have h2 := h.many_len
  omega
def cap : Nat → Nat → Nat
  | 0, _ => 1
  | f + 1, k => (k + 1) * cap f (k + 1)
theorem cap_le {f k : Nat} (h : k + f ≤ 10) : cap f k ≤ 3628800 := by
  have : (List.range 11).all (fun f => (List.range 11).all fun k => !(decide (k + f ≤ 10)) || decide (cap f k ≤ 3628800)) = true := by decide
  have h1 := List.all_eq_true.1 (List.all_eq_true.1 this f (List.mem_range.2 (by omega))) k (List.mem_range.2 (by omega))
  simpa [h] using h1
def Census.allTo (c : Census) (f : Nat) (v : List Nat) (n : Nat) : List (List Nat) := (List.range n).flatMap fun x => if c.goesOn v x then c.allFrom f (v ++ [x]) else []
theorem allTo_succ (c : Census) (f : Nat) (v : List Nat) (n : Nat) : c.allTo f v (n + 1) = c.allTo f v n ++ (if c.goesOn v n then c.allFrom f (v ++ [n]) else []) := by
  simp [Census.allTo, List.range_succ]
theorem allFrom_len (c : Census) : ∀ (f : Nat) (v : List Nat), Rgs v → (c.allFrom f v).length ≤ cap f v.length ∧ (∀ n, n ≤ many v + 1 → (c.allTo f v n).length ≤ n * cap f (v.length + 1))
  | 0, v, hv => by
    refine ⟨by unfold Census.allFrom cap; split <;> simp, ?_⟩
    intro n
    induction n with
    | zero => intro _; simp [Census.allTo]
    | succ n ih =>
      intro hn
      have := ih (by omega)
      rw [allTo_succ, List.length_append, Nat.succ_mul]
      have h2 : (if c.goesOn v n then c.allFrom 0 (v ++ [n]) else []).length ≤ cap 0 (v.length + 1) := by
        split
        · unfold Census.allFrom cap; split <;> simp
        · simp
      omega
  | f + 1, v, hv => by
    have key : ∀ g : Nat, (∀ u, Rgs u → (c.allFrom g u).length ≤ cap g u.length) → ∀ n, n ≤ many v + 1 → (c.allTo g v n).length ≤ n * cap g (v.length + 1) := by
      intro g hg n
      induction n with
      | zero => intro _; simp [Census.allTo]
      | succ n ih =>
        intro hn
        have h1 := ih (by omega)
        rw [allTo_succ, List.length_append, Nat.succ_mul]
        have h2 : (if c.goesOn v n then c.allFrom g (v ++ [n]) else []).length ≤ cap g (v.length + 1) := by
          split
          · have := hg (v ++ [n]) (.snoc hv (by omega))
            rwa [List.length_append, List.length_singleton] at this
          · simp
        omega
    have h1 : ∀ u, Rgs u → (c.allFrom f u).length ≤ cap f u.length := fun u hu => (allFrom_len c f u hu).1
    have h2 : ∀ u, Rgs u → (c.allFrom (f + 1) u).length ≤ cap (f + 1) u.length := fun u hu => by
      have := (allFrom_len c f u hu).2 (many u + 1) (Nat.le_refl _)
      have hm := hu.many_len
      show (c.allTo f u (many u + 1)).length ≤ (u.length + 1) * cap f (u.length + 1)
      exact Nat.le_trans this (Nat.mul_le_mul_right _ (by omega))
    exact ⟨h2 v hv, key (f + 1) h2⟩
theorem allTo_bd {c : Census} {f : Nat} {v : List Nat} (hv : Rgs v) (h : v.length + f + 1 ≤ 10) {n : Nat} (hn : n ≤ many v) : (c.allTo f v n).length + (c.allFrom f (v ++ [n])).length ≤ 1073741824 := by
  have h1 := (allFrom_len c f v hv).2 n (by omega)
  have h2 := (allFrom_len c f (v ++ [n]) (.snoc hv hn)).1
  have h3 := hv.many_len
  have h4 : cap f (v.length + 1) ≤ 3628800 := cap_le (by omega)
  have h5 : n * cap f (v.length + 1) ≤ 10 * 3628800 := Nat.mul_le_mul (by omega) h4
  rw [List.length_append, List.length_singleton] at h2
  omega
def Census.cellG (c : Census) (v : List Nat) (x i : Nat) : Bool := (v.getD i 0 != x) || (c.entry i).fits (c.entry v.length)
theorem goesOn_eq (c : Census) (v : List Nat) (x : Nat) : c.goesOn v x = (List.range v.length).all (c.cellG v x) := rfl
theorem all_succ {f : Nat → Bool} {n : Nat} : (List.range (n + 1)).all f = ((List.range n).all f && f n) := by
  rw [List.range_succ, List.all_append]; simp
abbrev uu (l : List (List Nat)) : List (List SV) := l.map fun u => [SI (nats u)]
abbrev vv (v : List Nat) : List (List SV) := v.map fun (n : Nat) => [I n]
theorem src_vv (v : List Nat) : ((dI (nats v)).map fun e => e.map SV.d) = vv v := by simp [dI, nats, vv]
theorem src_uu (l : List (List Nat)) : ((dL (l.map nats)).map fun e => e.map SV.d) = uu l := by simp [dL, uu]
theorem vv_all (v : List Nat) : (∀ e ∈ vv v, e.length = 1 ∧ e.all SV.one = true) = True := by simp [SV.one]
theorem uu_all (l : List (List Nat)) : (∀ e ∈ uu l, e.length = 1 ∧ e.all SV.one = true) = True := by simp [SV.one]
theorem vv_fz {r : Nat → Nat} {hp hp' : HpT} (v : List Nat) : F2 (F2 fun s x => TnS r hp hp' s (.d x)) (vv v) (dI (nats v)) := by
  rw [nats, dI, List.map_map]; exact F2.map fun n _ => .cons (TnS.d _) .nil
theorem uu_fz {r : Nat → Nat} {hp hp' : HpT} (l : List (List Nat)) : F2 (F2 fun s x => TnS r hp hp' s (.d x)) (uu l) (dL (l.map nats)) := by
  rw [dL, List.map_map]; exact F2.map fun n _ => .cons (TnS.d _) .nil
theorem vv_snoc (v : List Nat) (n : Nat) : vv (v ++ [n]) = vv v ++ [[I n]] := by simp [vv]
theorem uu_tn {r : Nat → Nat} {hp hp' : HpT} (l : List (List Nat)) : F2 (F2 (TnS r hp hp')) (uu l) (uu l) := F2.map fun n _ => .cons (TnS.d _) .nil
theorem uu_tn2 {r : Nat → Nat} {hp hp' : HpT} (a b : List (List Nat)) : F2 (F2 (TnS r hp hp')) (uu a ++ uu b) (uu (a ++ b)) := by
  rw [show uu (a ++ b) = uu a ++ uu b by simp [uu]]
  exact F2.append (uu_tn a) (uu_tn b)
def AllP (c : Census) (f : Nat) : Prop := ∀ v, Rgs v → v.length + f = c.entries.length → CallP Tryd.prog G0 32 [c.s, SI (nats v)] (SL ((c.allFrom f v).map nats))
abbrev z5 := And.intro ty.sz0 <| And.intro ty.agg0 <| And.intro ty.elem0 <| And.intro ty.sz3 <| And.intro ty.agg3 <| And.intro ty.elem3 <| And.intro ty.zero3 <| And.intro ty.und3 <| And.intro ty.sz4 <| And.intro ty.agg4 <| And.intro ty.elem4 <| And.intro ty.zero4 <| And.intro ty.und4 <| And.intro ty.sz22 <| And.intro ty.agg22 <| And.intro ty.elem22 <| And.intro ty.by22 <| And.intro ty.ez22 <| And.intro ty.zero22 <| And.intro ty.und22 <| And.intro ty.sz27 <| And.intro ty.agg27 <| And.intro ty.fld27_0 <| And.intro ty.fld27_1 <| And.intro ty.fld27_2 <| And.intro ty.fld27_3 <| And.intro ty.fld27_4 <| And.intro ty.elem27 <| And.intro ty.zero27 <| And.intro ty.pl27 <| And.intro ty.sz39 <| And.intro ty.agg39 <| And.intro ty.elem39 <| And.intro ty.by39 <| And.intro ty.ez39 <| And.intro ty.zero39 <| And.intro ty.und39 <| And.intro ty.sz43 <| And.intro ty.agg43 <| And.intro ty.elem43 <| And.intro ty.by43 <| And.intro ty.ez43 <| And.intro ty.zero43 <| And.intro ty.und43 <| And.intro ty.sz71 <| And.intro ty.agg71 <| And.intro ty.fld71_0 <| And.intro ty.fld71_1 <| And.intro ty.fld71_2 <| And.intro ty.fld71_3 <| And.intro ty.elem71 <| And.intro ty.zero71 <| ty.pl71
set_option maxHeartbeats 4000000 in
theorem all_step (c : Census) (h : Fine c) (f : Nat) (ih : ∀ f', f' + 1 = f → AllP c f') : AllP c f := by
  intro v hv hvf
  have h10 := h.n10
  have hml := hv.many_len
  have hsm := hv.small (by omega)
  refine CallP.body 79 [.tmp 4] Tryd.func32 (by kernel_rfl) rfl rfl rfl zP zP ?_
  refine Tr.reg [1, 2] (by
      simp only [↓sxd, sxu, ↓zE, ↓exq, ↓zI, Nat.reduceBEq, Nat.reduceAdd, Nat.reduceLT, Nat.reduceEqDiff]
      (all_goals try exact zF)) ?_
  refine Tr.seq ?_
  refine Tr.reg [1, 2, 15] (by
      simp only [↓sxd, sxu, ↓zE, ↓exq, ↓zB, ↓zJ, ↓zD, ↓zA, Nat.reduceBEq, Nat.reduceAdd, Nat.reduceLT, Nat.reduceEqDiff, sxe, z5, nats_len]
      (all_goals try exact zF)) ?_
  refine Tr.cond rfl (fun h15 => ?_) (fun h15 => ?_)
  · have hf : f = 0 := by
      have : (v.length : Int) = (c.entries.length : Int) := by simpa using h15
      omega
    subst hf
    refine Tr.seq ?_
    refine Tr.regD [0, 1, 2, 3, 4, 5, 6, 7, 8, 9, 10] [] [] [1, 26] mix (by kernel_rfl) (by
        simp only [↓sxd, sxu, ↓zC, zK, ↓exq, ↓zD, Nat.reduceBEq, Nat.reduceAdd, Nat.reduceLT, z5]
        (repeat ((with_reducible refine And.intro ?_ ?_); (focus (exact zS))))
        refine CallD.use (Allowed_c c h v (by omega)) ?_
        try simp only [↓sxd, sxu, ↓zC, zK, ↓exq, ↓zL, Nat.reduceBEq, Nat.reduceLT]
        iterate 2
          (repeat ((with_reducible refine And.intro ?_ ?_); (focus (exact zS))))
          refine GdD.mk _ (fun hg => by simp only [sxu, ↓exP, ↓exq, ↓zD, Nat.reduceBEq, Nat.reduceAdd, Nat.reduceLT, z5, hg]; (all_goals try exact zF)) ?_
          simp only [↓sxd, sxu, ↓zC, zK, Nat.reduceBEq, Nat.reduceLT]
        (repeat ((with_reducible refine And.intro ?_ ?_); (focus (exact zS))))
        refine GdD.mk _ (fun hg => by simp only [sxu, ↓exP, hg]; first | exact Many_c v (by omega) hsm | exact ⟨Many_c v (by omega) hsm, rfl, rfl⟩ | exact ⟨Many_c v (by omega) hsm, trivial⟩ | exact ⟨Many_c v (by omega) hsm, trivial, trivial⟩) ?_
        simp only [↓sxd, sxu, ↓zC, zK, Nat.reduceBEq, Nat.reduceLT]
        (repeat ((with_reducible refine And.intro ?_ ?_); (focus (exact zS))))
        refine GdD.mk _ (fun hg => by simp only [sxu, ↓exP, Nat.reduceBEq, hg]; first | exact Sums_c c h.lims (many v) (by omega) (by omega) | exact ⟨Sums_c c h.lims (many v) (by omega) (by omega), rfl, rfl⟩ | exact ⟨Sums_c c h.lims (many v) (by omega) (by omega), trivial⟩ | exact ⟨Sums_c c h.lims (many v) (by omega) (by omega), trivial, trivial⟩) ?_
        simp only [↓sxd, sxu, ↓zC, zK, Nat.reduceBEq, Nat.reduceLT]
        (repeat ((with_reducible refine And.intro ?_ ?_); (focus (exact zS))))
        refine GdD.mk _ (fun hg => by simp only [sxu, ↓exP, ↓exq, ↓zL, hg]; (all_goals try exact zF)) ?_
        simp only [↓sxd, sxu, ↓zC, ↓exq, ↓zH, Nat.reduceBEq, Nat.reduceLT]
        (all_goals try exact zF)) ?_
    refine Tr.cond rfl (fun h26 => ?_) (fun h26 => ?_)
    · have hz : c.allFrom 0 v = [] := by
        unfold Census.allFrom
        rw [if_neg]
        have : _ := h26
        revert this
        cases c.allowB v <;> cases c.sumsB (many v) <;> simp
      rw [hz]
      refine Tr.reg [4] (by
          simp only [↓sxd, sxu, ↓zE, ↓exq, Nat.reduceLT]
          (all_goals try exact zF)) ?_
      refine Tr.imp (Imp.fin (tm' := [(4, SL [])]) ?_) ?_
      · exact .cons rfl (TnS.dxd _) trivial
      refine Tr.ret ?_
      (refine ⟨.inr rfl, ?_⟩; first | rfl | exact ⟨rfl, rfl, trivial⟩ | exact ⟨rfl, rfl, rfl, trivial⟩ | (simp only [Res, ResL, ResOK, ↓sxd, sxu, ↓zE, ↓zC, zK, ↓exP, ↓exq, ↓zB, ↓zH, ↓zL, ↓zJ, ↓zD, ↓zI, ↓zG, ↓zQ, ↓zA, Nat.reduceBEq, Nat.reduceAdd, Nat.reduceLT, Nat.reduceMul, Nat.reduceSub, Nat.reduceLeDiff, Nat.reduceEqDiff, Int.reduceLE, Int.reduceLT, Int.reduceToNat, reduceIte, sxe, z5]; (repeat' (first | rfl | exact trivial | exact fun h => h | exact fun h => (by rw [h]; rfl) | apply And.intro | omega | exact Nat.le_of_ble_eq_true rfl))))
    · have hz : c.allFrom 0 v = [v] := by
        unfold Census.allFrom
        rw [if_pos]
        have : _ := h26
        revert this
        cases c.allowB v <;> cases c.sumsB (many v) <;> simp
      rw [hz]
      refine Tr.skip ?_
      refine Tr.reg [4] (by
          simp only [↓sxd, sxu, ↓zE, ↓exq, ↓zB, ↓zG, ↓zQ, Nat.reduceBEq, Nat.reduceAdd, Nat.reduceLT, Nat.reduceLeDiff, Nat.reduceEqDiff, z5, src_vv, vv_all]
          (all_goals try exact zF)) ?_
      refine Tr.imp (Imp.fin (tm' := [(4, SL ([v].map nats))]) ?_) ?_
      · exact .cons rfl (TnS.frz0 rfl (by simp) (by simp) (by simp) (.cons (.cons (TnS.frz0 (es := vv v) rfl (by simp) (by simp) (by simp) (vv_fz v)) .nil) .nil)) trivial
      refine Tr.ret ?_
      (refine ⟨.inr rfl, ?_⟩; first | rfl | exact ⟨rfl, rfl, trivial⟩ | exact ⟨rfl, rfl, rfl, trivial⟩ | (simp only [Res, ResL, ResOK, ↓sxd, sxu, ↓zE, ↓zC, zK, ↓exP, ↓exq, ↓zB, ↓zH, ↓zL, ↓zJ, ↓zD, ↓zI, ↓zG, ↓zQ, ↓zA, Nat.reduceBEq, Nat.reduceAdd, Nat.reduceLT, Nat.reduceMul, Nat.reduceSub, Nat.reduceLeDiff, Nat.reduceEqDiff, Int.reduceLE, Int.reduceLT, Int.reduceToNat, reduceIte, sxe, z5]; (repeat' (first | rfl | exact trivial | exact fun h => h | exact fun h => (by rw [h]; rfl) | apply And.intro | omega | exact Nat.le_of_ble_eq_true rfl))))
  · have hf : f ≠ 0 := by
      have : (v.length : Int) ≠ (c.entries.length : Int) := by simpa using h15
      omega
    obtain ⟨f', rfl⟩ := Nat.exists_eq_succ_of_ne_zero hf
    have ih := ih f' rfl
    have hvl : v.length < c.entries.length := by omega
    refine Tr.skip ?_
    refine Tr.reg [1, 2, 5] (by
        simp only [↓sxd, sxu, ↓zE, ↓exq, Nat.reduceBEq, Nat.reduceLT]
        (all_goals try exact zF)) ?_
    refine Tr.seq ?_
    refine Tr.reg [1, 2, 5, 6] (by
        simp only [↓sxd, sxu, ↓zE, ↓exq, Nat.reduceBEq, Nat.reduceLT]
        (all_goals try exact zF)) ?_
    refine Tr.imp (st' := ⟨[(1, SI (nats v)), (2, .ptr 0 0 0), (5, .slc 1 1 0 (c.allTo f' v 0).length (c.allTo f' v 0).length), (6, I 0)], [(1, .arr 1 (uu (c.allTo f' v 0))), (0, .arr 7 [[SE c.entries, SP c.same, SP c.apart, I c.omitted.lo, I c.omitted.hi, I c.number.lo, I c.number.hi]])], 2, 79, [], 0⟩) (Imp.goV 1 rfl rfl rfl rfl (by repeat' (first | exact trivial | exact F2.nil | refine F2.cons ?_ ?_ | refine TmV.cons rfl VnS.nil ?_ | refine TmV.cons rfl VnS.same ?_ | refine ⟨rfl, ?_⟩ | exact VnO.same _ | refine VnO.arr ?_ | exact VnS.nil | exact VnS.same | exact F2.refl fun _ _ => VnS.same)) (by repeat' (first | exact trivial | exact F2.nil | refine F2.cons ?_ ?_ | refine TmV.cons rfl VnS.nil ?_ | refine TmV.cons rfl VnS.same ?_ | refine ⟨rfl, ?_⟩ | exact VnO.same _ | refine VnO.arr ?_ | exact VnS.nil | exact VnS.same | exact F2.refl fun _ _ => VnS.same))) (Tr.block (Tr.loopI (fun mm ss => ∃ (n : Nat), (n ≤ many v + 1) ∧ many v + 1 - n = mm ∧ ss = ⟨[(1, SI (nats v)), (2, .ptr 0 0 0), (5, .slc 1 1 0 (c.allTo f' v n).length (c.allTo f' v n).length), (6, I n)], [(1, .arr 1 (uu (c.allTo f' v n))), (0, .arr 7 [[SE c.entries, SP c.same, SP c.apart, I c.omitted.lo, I c.omitted.hi, I c.number.lo, I c.number.hi]])], 2, 79, [], 0⟩) _ ⟨0, ?_, rfl, rfl⟩ ?_))
    · (repeat' (first | rfl | exact trivial | exact fun h => h | exact fun h => (by rw [h]; rfl) | apply And.intro | omega | exact Nat.le_of_ble_eq_true rfl))
    rintro mm ss ⟨n, hI, rfl, rfl⟩
    refine Tr.seq ?_
    refine Tr.reg [1, 2, 5, 6, 34] (by
        simp only [↓sxd, sxu, ↓zE, ↓exq, Nat.reduceBEq, Nat.reduceLT]
        (repeat ((with_reducible refine And.intro ?_ ?_); (focus (exact zS))))
        refine CallO.use (Many_c v (by omega) hsm) ?_
        try simp only [↓sxd, sxu, ↓zE, ↓exq, Nat.reduceBEq, Nat.reduceLT, sxe]
        (all_goals try exact zF)) ?_
    refine Tr.cond rfl (fun h34 => ?_) (fun h34 => ?_)
    · have hn : n ≤ many v := by simpa using h34
      have hrg : Rgs (v ++ [n]) := .snoc hv hn
      have hbd := allTo_bd (c := c) hv (show v.length + f' + 1 ≤ 10 by omega) hn
      refine Tr.skip ?_
      refine Tr.seq ?_
      refine Tr.block ?_
      have hv2 : (v.length + 1 ≤ 1073741824) = True := by simp; omega
      refine Tr.reg [1, 2, 5, 6, 7] (by
          simp only [↓sxd, sxu, ↓zE, ↓exq, ↓zB, ↓zG, ↓zQ, Nat.reduceBEq, Nat.reduceAdd, Nat.reduceLT, Nat.reduceLeDiff, Nat.reduceEqDiff, z5, src_vv, vv_all, hv2]
          (all_goals try exact zF)) ?_
      refine Tr.reg [1, 2, 5, 6, 7, 8] (by
          simp only [↓sxd, sxu, ↓zE, ↓exq, Nat.reduceBEq, Nat.reduceLT]
          (all_goals try exact zF)) ?_
      refine Tr.seq ?_
      refine Tr.reg [1, 2, 5, 6, 7, 8, 9] (by
          simp only [↓sxd, sxu, ↓zE, ↓exq, Nat.reduceBEq, Nat.reduceLT]
          (all_goals try exact zF)) ?_
      refine Tr.imp (st' := ⟨[(1, SI (nats v)), (2, .ptr 0 0 0), (5, .slc 1 1 0 (c.allTo f' v n).length (c.allTo f' v n).length), (6, I n), (7, .slc 3 1 0 (v.length + 1) (v.length + 1)), (8, B ((List.range 0).all (c.cellG v n))), (9, I 0)], [(3, .arr 1 (vv v ++ [[I n]])), (1, .arr 1 (uu (c.allTo f' v n))), (0, .arr 7 [[SE c.entries, SP c.same, SP c.apart, I c.omitted.lo, I c.omitted.hi, I c.number.lo, I c.number.hi]])], 4, 79, [], 0⟩) (Imp.keepAll) (Tr.block (Tr.loopI (fun mm ss => ∃ (i : Nat), (i ≤ v.length) ∧ v.length - i = mm ∧ ss = ⟨[(1, SI (nats v)), (2, .ptr 0 0 0), (5, .slc 1 1 0 (c.allTo f' v n).length (c.allTo f' v n).length), (6, I n), (7, .slc 3 1 0 (v.length + 1) (v.length + 1)), (8, B ((List.range i).all (c.cellG v n))), (9, I i)], [(3, .arr 1 (vv v ++ [[I n]])), (1, .arr 1 (uu (c.allTo f' v n))), (0, .arr 7 [[SE c.entries, SP c.same, SP c.apart, I c.omitted.lo, I c.omitted.hi, I c.number.lo, I c.number.hi]])], 4, 79, [], 0⟩) _ ⟨0, ?_, rfl, rfl⟩ ?_))
      · (repeat' (first | rfl | exact trivial | exact fun h => h | exact fun h => (by rw [h]; rfl) | apply And.intro | omega | exact Nat.le_of_ble_eq_true rfl))
      rintro mm ss ⟨i, hI, rfl, rfl⟩
      refine Tr.seq ?_
      refine Tr.reg [1, 2, 5, 6, 7, 8, 9, 46] (by
          simp only [↓sxd, sxu, ↓zE, ↓exq, ↓zB, ↓zJ, Nat.reduceBEq, Nat.reduceLT, sxe, z5]
          (all_goals try exact zF)) ?_
      refine Tr.cond rfl (fun h46 => ?_) (fun h46 => ?_)
      · have hi : i < v.length := by simp [nats_len] at h46; omega
        have hie : i < c.entries.length := by omega
        obtain ⟨g0, g1, g2⟩ := h.ages hie
        refine Tr.skip ?_
        refine Tr.seq ?_
        refine Tr.block ?_
        refine Tr.regD1 [0, 1, 2, 3, 4, 5, 6, 7, 8, 9, 10, 11, 12, 13, 14, 15, 16, 17, 18, 19, 20, 21, 22, 23] [] [] [1, 2, 5, 6, 7, 8, 9] mix (by kernel_rfl) (by
            simp only [↓sxd, sxu, ↓zC, zK, ↓exq, Nat.reduceBEq, Nat.reduceLT, nats_len, hi]
            iterate 18
              (repeat ((with_reducible refine And.intro ?_ ?_); (focus (exact zS))))
              refine GdD.mk _ (fun hg => by simp only [↓sxd, sxu, ↓exP, ↓exq, ↓zB, ↓zJ, ↓zD, ↓zA, Nat.reduceBEq, Nat.reduceAdd, Nat.reduceLT, Nat.reduceEqDiff, sxe, z5, nats_len, nats_get, hi, hie, hvl, nat_bne, hg]; (all_goals try exact zF)) ?_
              simp only [↓sxd, sxu, ↓zC, zK, Nat.reduceBEq, Nat.reduceLT]
            (repeat ((with_reducible refine And.intro ?_ ?_); (focus (exact zS))))
            refine GdD.mk _ (fun hg => by simp only [sxu, ↓exP, Nat.reduceBEq, hg]; first | exact rFits_c (c.entries.getD i default) (c.entries.getD v.length default) g0 g1 g2 | exact ⟨rFits_c (c.entries.getD i default) (c.entries.getD v.length default) g0 g1 g2, rfl, rfl⟩ | exact ⟨rFits_c (c.entries.getD i default) (c.entries.getD v.length default) g0 g1 g2, trivial⟩ | exact ⟨rFits_c (c.entries.getD i default) (c.entries.getD v.length default) g0 g1 g2, trivial, trivial⟩) ?_
            simp only [↓sxd, sxu, ↓zC, zK, Nat.reduceBEq, Nat.reduceLT]
            (repeat ((with_reducible refine And.intro ?_ ?_); (focus (exact zS))))
            first | refine GdD.or (fun hg => by simp only [sxu, Nat.reduceBEq, pickArgs, hg]; (all_goals try exact zF)) ?_ | refine GdD.mk _ (fun hg => by simp only [↓sxd, sxu, ↓zE, ↓zC, zK, ↓exP, ↓exq, ↓zB, ↓zH, ↓zL, ↓zJ, ↓zD, ↓zI, ↓zG, ↓zQ, ↓zA, Nat.reduceBEq, Nat.reduceAdd, Nat.reduceLT, Nat.reduceMul, Nat.reduceSub, Nat.reduceLeDiff, Nat.reduceEqDiff, Int.reduceLE, Int.reduceLT, Int.reduceToNat, reduceIte, sxe, z5, nats_len, nats_get, hi, hie, hvl, nat_bne, hg, if_true]; (all_goals try exact zF)) ?_
            simp only [↓sxd, sxu, ↓zC, zK, ↓exq, ↓zH, Nat.reduceBEq, Nat.reduceLT]
            (all_goals try exact zF)) ?_
        have w1 : IntKind.i64.wrap ((i : Int) + 1) = ((i + 1 : Nat) : Int) := by rw [wr (by omega) (by omega)]; rfl
        refine Tr.reg1 [1, 2, 5, 6, 7, 8, 9] (by
            simp only [↓sxd, sxu, ↓zE, ↓exq, Nat.reduceBEq, Nat.reduceLT, w1]
            (all_goals try exact zF)) ?_
        refine ⟨_, _, ?_, ?_, ⟨i + 1, hi, rfl, rfl⟩⟩
        · omega
        · rw [all_succ]; exact Imp.keepAll
      · have hi : i = v.length := by simp [nats_len] at h46; omega
        subst hi
        rw [← goesOn_eq]
        refine Tr.exit ?_
        refine Tr.reg [1, 2, 5, 6, 7, 72] (by
            simp only [↓sxd, sxu, ↓zE, ↓exq, Nat.reduceBEq, Nat.reduceLT]
            (all_goals try exact zF)) ?_
        refine Tr.cond rfl (fun h72 => ?_) (fun h72 => ?_)
        · have hg : c.goesOn v n = true := h72
          have hbd2 : ((c.allTo f' v n).length + (c.allFrom f' (v ++ [n])).length ≤ 1073741824) = True := by simp; omega
          refine Tr.reg1 [1, 2, 5, 6] (by
              simp only [↓sxd, sxu, ↓zE, ↓exq, ↓zD, Nat.reduceBEq, Nat.reduceAdd, Nat.reduceLT, z5]
              (repeat ((with_reducible refine And.intro ?_ ?_); (focus (exact zS))))
              refine CallO.useZ [(1, _), (0, _)] (ih (v ++ [n]) hrg (by simp; omega)) (.cons _ (.refl _)) (.cons zT (.cons (TnS.frz0 (es := vv v ++ [[I n]]) rfl (by simp) (by simp) (by simp) (by rw [← vv_snoc]; exact vv_fz _)) .nil)) ?_
              try simp only [↓sxd, sxu, ↓zE, ↓exq, ↓zB, ↓zQ, Nat.reduceBEq, Nat.reduceAdd, Nat.reduceLT, Nat.reduceLeDiff, Nat.reduceEqDiff, z5, src_uu, uu_all, hbd2]
              (all_goals try exact zF)) ?_
          have w1 : IntKind.i64.wrap ((n : Int) + 1) = ((n + 1 : Nat) : Int) := by rw [wr (by omega) (by omega)]; rfl
          refine Tr.reg1 [1, 2, 5, 6] (by
              simp only [↓sxd, sxu, ↓zE, ↓exq, Nat.reduceBEq, Nat.reduceLT, w1]
              (all_goals try exact zF)) ?_
          refine ⟨_, _, ?_, ?_, ⟨n + 1, by omega, rfl, rfl⟩⟩
          · omega
          · rw [allTo_succ, hg]
            simp only [if_true, List.length_append]
            first |(exact Imp.go (fun i => if i = 1 then 4 else if i < 1 then i else i + 3) [(4, _), (0, _)] rfl rfl (.refl _) (fun _ h => absurd h (Nat.not_lt_zero _)) (fun id h => by simp only [show ¬ id = 1 by omega, show ¬ id < 1 by omega, if_false]; omega) zT (.cons ⟨rfl, TnO.arr (uu_tn2 _ _)⟩ (.cons ⟨rfl, TnO.arr zT⟩ .nil)) (fun h => h)) |(exact Imp.go (fun i => if i < 2 then i else i + 2) [(1, _), (0, _)] rfl rfl (.cons _ (.refl _)) (fun _ h => absurd h (Nat.not_lt_zero _)) (fun id h => by simp only [show ¬ id < 2 by omega, if_false]; omega) zT (.cons ⟨rfl, TnO.arr (uu_tn _)⟩ (.cons ⟨rfl, TnO.arr zT⟩ .nil)) (fun h => h))
        · have hg : c.goesOn v n = false := h72
          refine Tr.skip ?_
          have w1 : IntKind.i64.wrap ((n : Int) + 1) = ((n + 1 : Nat) : Int) := by rw [wr (by omega) (by omega)]; rfl
          refine Tr.reg1 [1, 2, 5, 6] (by
              simp only [↓sxd, sxu, ↓zE, ↓exq, Nat.reduceBEq, Nat.reduceLT, w1]
              (all_goals try exact zF)) ?_
          refine ⟨_, _, ?_, ?_, ⟨n + 1, by omega, rfl, rfl⟩⟩
          · omega
          · rw [allTo_succ, hg]
            simp only [Bool.false_eq_true, if_false, List.append_nil]
            first |(exact Imp.go (fun i => if i = 1 then 4 else if i < 1 then i else i + 3) [(4, _), (0, _)] rfl rfl (.refl _) (fun _ h => absurd h (Nat.not_lt_zero _)) (fun id h => by simp only [show ¬ id = 1 by omega, show ¬ id < 1 by omega, if_false]; omega) zT (.cons ⟨rfl, TnO.arr (uu_tn2 _ _)⟩ (.cons ⟨rfl, TnO.arr zT⟩ .nil)) (fun h => h)) |(exact Imp.go (fun i => if i < 2 then i else i + 2) [(1, _), (0, _)] rfl rfl (.cons _ (.refl _)) (fun _ h => absurd h (Nat.not_lt_zero _)) (fun id h => by simp only [show ¬ id < 2 by omega, if_false]; omega) zT (.cons ⟨rfl, TnO.arr (uu_tn _)⟩ (.cons ⟨rfl, TnO.arr zT⟩ .nil)) (fun h => h))
    · have hn : n = many v + 1 := by simp at h34; omega
      refine Tr.exit ?_
      refine Tr.reg [4] (by
          simp only [↓sxd, sxu, ↓zE, ↓exq, Nat.reduceBEq, Nat.reduceLT]
          (all_goals try exact zF)) ?_
      subst hn
      refine Tr.imp (Imp.fin (tm' := [(4, SL ((c.allFrom (f' + 1) v).map nats))]) ?_) ?_
      · exact .cons rfl (TnS.frz0 (es := uu (c.allTo f' v (many v + 1))) rfl (by simp) (by simp) (by simp) (uu_fz _)) trivial
      refine Tr.ret ?_
      (refine ⟨.inr rfl, ?_⟩; first | rfl | exact ⟨rfl, rfl, trivial⟩ | exact ⟨rfl, rfl, rfl, trivial⟩ | (simp only [Res, ResL, ResOK, ↓sxd, sxu, ↓zE, ↓zC, zK, ↓exP, ↓exq, ↓zB, ↓zH, ↓zL, ↓zJ, ↓zD, ↓zI, ↓zG, ↓zQ, ↓zA, Nat.reduceBEq, Nat.reduceAdd, Nat.reduceLT, Nat.reduceMul, Nat.reduceSub, Nat.reduceLeDiff, Nat.reduceEqDiff, Int.reduceLE, Int.reduceLT, Int.reduceToNat, reduceIte, sxe, z5]; (repeat' (first | rfl | exact trivial | exact fun h => h | exact fun h => (by rw [h]; rfl) | apply And.intro | omega | exact Nat.le_of_ble_eq_true rfl))))
theorem all_h {c : Census} (h : Fine c) : ∀ f, AllP c f
  | 0 => all_step c h 0 (fun f' h => by omega)
  | f + 1 => all_step c h (f + 1) (fun f' hf => by
    obtain rfl : f' = f := by omega
    exact all_h h f')
theorem all_c {c : Census} (h : Fine c) : CallP Tryd.prog G0 32 [c.s, SI []] (SL (c.all.map nats)) := all_h h c.entries.length [] .nil (by simp)
def Census.validL (c : Census) (right : Bool) : List (List Nat) := if c.due right = 0 then c.all else []
theorem due_zero {c : Census} {r : Bool} (h : c.due r = 0) : Fine c ∧ r = true ∧ c.all ≠ [] := by
  unfold Census.due at h
  by_cases hk : c.check = 0
  · rw [if_neg (fun hc => hc hk)] at h
    cases r
    · cases h
    · refine ⟨fine_iff.1 hk, rfl, fun ha => ?_⟩
      rw [ha] at h; cases h
  · rw [if_pos hk] at h; exact absurd h hk
abbrev yK := And.intro ty.sz0 <| And.intro ty.agg0 <| And.intro ty.elem0 <| And.intro ty.sz3 <| And.intro ty.agg3 <| And.intro ty.elem3 <| And.intro ty.zero3 <| And.intro ty.und3 <| And.intro ty.sz4 <| And.intro ty.agg4 <| And.intro ty.elem4 <| And.intro ty.zero4 <| And.intro ty.und4 <| And.intro ty.sz27 <| And.intro ty.agg27 <| And.intro ty.fld27_0 <| And.intro ty.fld27_1 <| And.intro ty.fld27_2 <| And.intro ty.fld27_3 <| And.intro ty.fld27_4 <| And.intro ty.elem27 <| And.intro ty.zero27 <| And.intro ty.pl27 <| And.intro ty.sz31 <| And.intro ty.agg31 <| And.intro ty.elem31 <| And.intro ty.zero31 <| And.intro ty.und31 <| And.intro ty.sz39 <| And.intro ty.agg39 <| And.intro ty.elem39 <| And.intro ty.by39 <| And.intro ty.ez39 <| And.intro ty.zero39 <| ty.und39
theorem valid_c (c : Census) (h1 : c.entries.length < 4611686018427387904) (h2 : c.same.length < 4611686018427387904) (h3 : c.apart.length < 4611686018427387904) (right : Bool) : CallP Tryd.prog G0 23 [c.s, B right] (.tup [SL ((c.validL right).map nats), I (c.due right)]) := by
  refine CallP.body 21 [.tmp 4, .tmp 5] Tryd.func23 (by kernel_rfl) rfl rfl rfl zP zP ?_
  refine Tr.reg [1, 2] (by
      simp only [↓sxd, sxu, ↓zE, ↓exq, ↓zI, Nat.reduceBEq, Nat.reduceAdd, Nat.reduceLT, Nat.reduceEqDiff]
      (all_goals try exact zF)) ?_
  refine Tr.seq ?_
  refine Tr.reg [1, 2, 6] (by
      simp only [↓sxd, sxu, ↓zE, ↓exq, ↓zD, Nat.reduceBEq, Nat.reduceAdd, Nat.reduceLT, yK]
      (repeat ((with_reducible refine And.intro ?_ ?_); (focus (exact zS))))
      refine CallO.use (fault_c c h1 h2 h3) ?_
      try simp only [↓sxd, sxu, ↓zE, ↓exq, Nat.reduceBEq, Nat.reduceLT]
      (all_goals try exact zF)) ?_
  refine Tr.reg [1, 2, 6, 11] (by
      simp only [↓sxd, sxu, ↓zE, ↓exq, Nat.reduceBEq, Nat.reduceLT]
      (all_goals try exact zF)) ?_
  refine Tr.cond rfl (fun h11 => ?_) (fun h11 => ?_)
  · have hk : c.check ≠ 0 := by simpa using h11
    have hd : c.due right = c.check := if_pos hk
    rw [show c.validL right = [] from if_neg (by rw [hd]; exact hk), hd]
    refine Tr.reg [4, 5] (by
        simp only [↓sxd, sxu, ↓zE, ↓exq, Nat.reduceBEq, Nat.reduceLT]
        (all_goals try exact zF)) ?_
    refine Tr.imp (Imp.fin (tm' := [(4, SL []), (5, I c.check)]) ?_) ?_
    · exact .cons rfl (TnS.dxd _) (.cons rfl (TnS.d _) trivial)
    refine Tr.ret ?_
    (refine ⟨.inr rfl, ?_⟩; first | rfl | exact ⟨rfl, rfl, trivial⟩ | exact ⟨rfl, rfl, rfl, trivial⟩ | (simp only [Res, ResL, ResOK, ↓sxd, sxu, ↓zE, ↓zC, zK, ↓exP, ↓exq, ↓zB, ↓zL, ↓zJ, ↓zD, ↓zI, Nat.reduceBEq, Nat.reduceAdd, Nat.reduceLT, Nat.reduceMul, Nat.reduceSub, Nat.reduceLeDiff, Nat.reduceEqDiff, Int.reduceLE, Int.reduceLT, Int.reduceToNat, reduceIte, sxe, yK]; (repeat' (first | rfl | exact trivial | exact fun h => h | exact fun h => (by rw [h]; rfl) | apply And.intro | omega | exact Nat.le_of_ble_eq_true rfl))))
  · have hk : c.check = 0 := by simpa using h11
    have hf := fine_iff.1 hk
    refine Tr.skip ?_
    refine Tr.seq ?_
    refine Tr.reg [2, 14] (by
        simp only [↓sxd, sxu, ↓zE, ↓exq, ↓zL, Nat.reduceBEq, Nat.reduceLT]
        (all_goals try exact zF)) ?_
    refine Tr.cond rfl (fun h14 => ?_) (fun h14 => ?_)
    · have hr : right = false := by simpa using h14
      subst hr
      have hd : c.due false = 2 := by unfold Census.due; rw [if_neg (fun hc => hc hk)]; rfl
      rw [show c.validL false = [] from if_neg (by rw [hd]; decide), hd]
      refine Tr.reg [4, 5] (by
          simp only [↓sxd, sxu, ↓zE, ↓exq, Nat.reduceBEq, Nat.reduceLT]
          (all_goals try exact zF)) ?_
      refine Tr.imp (Imp.fin (tm' := [(4, SL []), (5, I 2)]) ?_) ?_
      · exact .cons rfl (TnS.dxd _) (.cons rfl (TnS.d _) trivial)
      refine Tr.ret ?_
      (refine ⟨.inr rfl, ?_⟩; first | rfl | exact ⟨rfl, rfl, trivial⟩ | exact ⟨rfl, rfl, rfl, trivial⟩ | (simp only [Res, ResL, ResOK, ↓sxd, sxu, ↓zE, ↓zC, zK, ↓exP, ↓exq, ↓zB, ↓zL, ↓zJ, ↓zD, ↓zI, Nat.reduceBEq, Nat.reduceAdd, Nat.reduceLT, Nat.reduceMul, Nat.reduceSub, Nat.reduceLeDiff, Nat.reduceEqDiff, Int.reduceLE, Int.reduceLT, Int.reduceToNat, reduceIte, sxe, yK]; (repeat' (first | rfl | exact trivial | exact fun h => h | exact fun h => (by rw [h]; rfl) | apply And.intro | omega | exact Nat.le_of_ble_eq_true rfl))))
    · have hr : right = true := by simpa using h14
      subst hr
      have hd : c.due true = if c.all.length = 0 then 9 else 0 := by unfold Census.due; rw [if_neg (fun hc => hc hk)]; rfl
      refine Tr.skip ?_
      refine Tr.reg [7] (by
          simp only [↓sxd, sxu, ↓zE, ↓exq, ↓zD, Nat.reduceAdd, Nat.reduceLT, yK]
          (repeat ((with_reducible refine And.intro ?_ ?_); (focus (exact zS))))
          refine CallO.useZ _ (all_c hf) (List.Sublist.refl _) (.cons zT (.cons (TnS.dxd _) .nil)) ?_
          try simp only [↓sxd, sxu, ↓zE, ↓exq, Nat.reduceLT]
          (all_goals try exact zF)) ?_
      refine Tr.seq ?_
      refine Tr.reg [7, 19] (by
          simp only [↓sxd, sxu, ↓zE, ↓exq, ↓zB, ↓zJ, Nat.reduceBEq, Nat.reduceLT, sxe, yK]
          (all_goals try exact zF)) ?_
      refine Tr.cond rfl (fun h19 => ?_) (fun h19 => ?_)
      · have hz : c.all.length = 0 := by simpa using h19
        rw [if_pos hz] at hd
        rw [show c.validL true = [] from if_neg (by rw [hd]; decide), hd]
        refine Tr.reg [4, 5] (by
            simp only [↓sxd, sxu, ↓zE, ↓exq, Nat.reduceBEq, Nat.reduceLT]
            (all_goals try exact zF)) ?_
        refine Tr.imp (Imp.fin (tm' := [(4, SL []), (5, I 9)]) ?_) ?_
        · exact .cons rfl (TnS.dxd _) (.cons rfl (TnS.d _) trivial)
        refine Tr.ret ?_
        (refine ⟨.inr rfl, ?_⟩; first | rfl | exact ⟨rfl, rfl, trivial⟩ | exact ⟨rfl, rfl, rfl, trivial⟩ | (simp only [Res, ResL, ResOK, ↓sxd, sxu, ↓zE, ↓zC, zK, ↓exP, ↓exq, ↓zB, ↓zL, ↓zJ, ↓zD, ↓zI, Nat.reduceBEq, Nat.reduceAdd, Nat.reduceLT, Nat.reduceMul, Nat.reduceSub, Nat.reduceLeDiff, Nat.reduceEqDiff, Int.reduceLE, Int.reduceLT, Int.reduceToNat, reduceIte, sxe, yK]; (repeat' (first | rfl | exact trivial | exact fun h => h | exact fun h => (by rw [h]; rfl) | apply And.intro | omega | exact Nat.le_of_ble_eq_true rfl))))
      · have hz : ¬ c.all.length = 0 := by simpa using h19
        rw [if_neg hz] at hd
        rw [show c.validL true = c.all from if_pos hd, hd]
        refine Tr.skip ?_
        refine Tr.reg [4, 5] (by
            simp only [↓sxd, sxu, ↓zE, ↓exq, Nat.reduceBEq, Nat.reduceLT]
            (all_goals try exact zF)) ?_
        refine Tr.ret ?_
        (refine ⟨.inr rfl, ?_⟩; first | rfl | exact ⟨rfl, rfl, trivial⟩ | exact ⟨rfl, rfl, rfl, trivial⟩ | (simp only [Res, ResL, ResOK, ↓sxd, sxu, ↓zE, ↓zC, zK, ↓exP, ↓exq, ↓zB, ↓zL, ↓zJ, ↓zD, ↓zI, Nat.reduceBEq, Nat.reduceAdd, Nat.reduceLT, Nat.reduceMul, Nat.reduceSub, Nat.reduceLeDiff, Nat.reduceEqDiff, Int.reduceLE, Int.reduceLT, Int.reduceToNat, reduceIte, sxe, yK]; (repeat' (first | rfl | exact trivial | exact fun h => h | exact fun h => (by rw [h]; rfl) | apply And.intro | omega | exact Nat.le_of_ble_eq_true rfl))))
end Go.Proofs.YtcnkbdfkjhlbiaaDoor
namespace Go.Sy
def addA (i : Nat) (dst : Option Tmp) (acc : List (Nat × Tmp)) : List (Nat × Tmp) := match dst with | some d => (i, d) :: acc | none => acc
section
variable {P : Program} {G : Nat → Option (List D)} {ro : Option Nat} {ops : Array Oper} {ul louds : List Nat}
def exV (P : Program) (G : Nat → Option (List D)) (ul louds : List Nat) : List Oper → Nat → List (Nat × Tmp) → St → List Nat → (St → Prop) → Prop
  | [], _, _, st, _, K => K st
  | o :: os, i, acc, st, lds, K => dstOk o.dst st.nt ∧ match o.guard with
    | none => match o.op with
      | .call ⟨.value f, args, _⟩ => match ev G st.tm f with
        | .clo (.func fid) first cap => louds.contains i = false ∧ ∃ r, CallP P G fid (first ++ args.toList.map (ev G st.tm) ++ cap) r ∧ exV P G ul louds os (i + 1) (addA i o.dst acc) ⟨putT o.dst r st.tm, st.hp, st.nx, st.nt, st.df, st.nb⟩ lds K
        | _ => False
      | .next .. => False
      | _ => exq P G o (ev G st.tm) st.hp st.nx fun r hp' nx' => ldOk (louds.contains i) st.hp hp' st.nx nx' lds ∧
          exV P G ul louds os (i + 1) (addA i o.dst acc) ⟨putT o.dst r st.tm, hp', nx', st.nt, st.df, st.nb⟩ (if ul.contains i then addRd (zK o (ev G st.tm)) lds else lds) K
    | some (j, want) => louds.contains i = false ∧ match acc.lookup j with
      | some g => match gcond ((st.tm.lookup g).getD .unk) want with
        | some b => ∃ r0, (b = true → exP P G o (fun x => gstrip (ev G st.tm x)) st.hp st.nx r0 st.hp st.nx) ∧
            exV P G ul louds os (i + 1) (addA i o.dst acc) ⟨putT o.dst (.whn b r0) st.tm, st.hp, st.nx, st.nt, st.df, st.nb⟩ (if ul.contains i then addRd (zK o (fun x => gstrip (ev G st.tm x))) lds else lds) K
        | none => False
      | none => False
def CallV (P : Program) (G : Nat → Option (List D)) (ul louds : List Nat) (i : Nat) (acc : List (Nat × Tmp)) (dst : Option Tmp) (f : FuncId) (args : List SV) (os : List Oper) (st : St) (lds : List Nat) (K : St → Prop) : Prop :=
  ∃ r, CallP P G f args r ∧ exV P G ul louds os (i + 1) (addA i dst acc) ⟨putT dst r st.tm, st.hp, st.nx, st.nt, st.df, st.nb⟩ lds K
def GdV (P : Program) (G : Nat → Option (List D)) (ul louds : List Nat) (i : Nat) (acc : List (Nat × Tmp)) (o : Oper) (os : List Oper) (st : St) (b : Bool) (lds : List Nat) (K : St → Prop) : Prop :=
  ∃ r0, (b = true → exP P G o (fun x => gstrip (ev G st.tm x)) st.hp st.nx r0 st.hp st.nx) ∧ exV P G ul louds os (i + 1) (addA i o.dst acc) ⟨putT o.dst (.whn b r0) st.tm, st.hp, st.nx, st.nt, st.df, st.nb⟩ lds K
def yG (P : Program) (G : Nat → Option (List D)) (ul louds : List Nat) (i : Nat) (acc : List (Nat × Tmp)) (o : Oper) (os : List Oper) (st : St) (lds : List Nat) (K : St → Prop) : Prop :=
  match o.guard with
  | none => match o.op with
    | .call ⟨.value f, args, _⟩ => match ev G st.tm f with
      | .clo (.func fid) first cap => louds.contains i = false ∧ CallV P G ul louds i acc o.dst fid (first ++ args.toList.map (ev G st.tm) ++ cap) os st lds K
      | _ => False
    | .next .. => False
    | _ => exq P G o (ev G st.tm) st.hp st.nx fun r hp' nx' => ldOk (louds.contains i) st.hp hp' st.nx nx' lds ∧
        exV P G ul louds os (i + 1) (addA i o.dst acc) ⟨putT o.dst r st.tm, hp', nx', st.nt, st.df, st.nb⟩ (if ul.contains i then addRd (zK o (ev G st.tm)) lds else lds) K
  | some (j, want) => louds.contains i = false ∧ match acc.lookup j with
    | some g => match gcond ((st.tm.lookup g).getD .unk) want with
      | some b => GdV P G ul louds i acc o os st b (if ul.contains i then addRd (zK o (fun x => gstrip (ev G st.tm x))) lds else lds) K
      | none => False
    | none => False
theorem yE {i : Nat} {acc : List (Nat × Tmp)} {st : St} {lds : List Nat} {K : St → Prop} : exV P G ul louds [] i acc st lds K = K st := by unfold exV; rfl
theorem yB {o : Oper} {os : List Oper} {i : Nat} {acc : List (Nat × Tmp)} {st : St} {lds : List Nat} {K : St → Prop} :
    exV P G ul louds (o :: os) i acc st lds K = (dstOk o.dst st.nt ∧ yG P G ul louds i acc o os st lds K) := by
  rw [exV.eq_def]
  simp only [yG, CallV, GdV]
theorem GdV.mk {i : Nat} {acc : List (Nat × Tmp)} {o : Oper} {os : List Oper} {st : St} {b : Bool} {lds : List Nat} {K : St → Prop} (r : SV) (h : b = true → exP P G o (fun x => gstrip (ev G st.tm x)) st.hp st.nx r st.hp st.nx)
    (k : exV P G ul louds os (i + 1) (addA i o.dst acc) ⟨putT o.dst (.whn b r) st.tm, st.hp, st.nx, st.nt, st.df, st.nb⟩ lds K) : GdV P G ul louds i acc o os st b lds K := ⟨r, h, k⟩
def mkV (louds : List Nat) : List Oper → Nat → List (Nat × Oper × Bool)
  | [], _ => []
  | o :: os, i => (i, o, louds.contains i) :: mkV louds os (i + 1)
theorem mkV_get : ∀ (os : List Oper) (i : Nat) (x : Nat × Oper × Bool), x ∈ mkV louds os i → i ≤ x.1 ∧ os[x.1 - i]? = some x.2.1
  | [], _, _, h => by cases h
  | o :: os, i, x, h => by
    rcases List.mem_cons.1 h with rfl | h
    · exact ⟨Nat.le_refl _, by simp⟩
    · obtain ⟨h1, h2⟩ := mkV_get os (i + 1) x h
      refine ⟨by omega, ?_⟩
      rw [show x.1 - i = (x.1 - (i + 1)) + 1 by omega, List.getElem?_cons_succ]
      exact h2
theorem vY {K : St → Prop} : ∀ (os : List Oper) (i : Nat) (acc : List (Nat × Tmp)) (st : St) (lds : List Nat), (∀ k, os[k]? = ops.toList[i + k]?) → (∀ j g, acc.lookup j = some g → (ops.toList[j]?).bind (·.dst) = some g) → exV P G ul louds os i acc st lds K →
    ∃ evs stf, RunL st evs stf ∧ evs.map (fun e => (e.i, e.o, e.ld)) = mkV louds os i ∧ (∀ e ∈ evs, EvAt P G ops e.ld e.o e.st e.r e.hp e.nx) ∧
      (∀ e ∈ evs, e.ld = true → ∀ id ∈ lds, e.hp.lookup id = e.st.hp.lookup id) ∧
      evs.Pairwise (fun x y => y.ld = true → ul.contains x.i = true → ∀ id, rdEv G x.o x.st = some id → y.hp.lookup id = y.st.hp.lookup id) ∧ K stf
  | [], i, acc, st, lds, _, _, h => ⟨[], st, rfl, rfl, fun _ h => by simp at h, fun _ h => by simp at h, .nil, by rw [yE] at h; exact h⟩
  | o :: os, i, acc, st, lds, ho, ha, h => by
    have hi : ops.toList[i]? = some o := by have := ho 0; simpa using this.symm
    have ho' : ∀ k, os[k]? = ops.toList[i + 1 + k]? := fun k => by have := ho (k + 1); simp only [List.getElem?_cons_succ] at this; rw [this]; congr 1; omega
    have ha' : ∀ j g, (addA i o.dst acc).lookup j = some g → (ops.toList[j]?).bind (·.dst) = some g := fun j g hg => by
      unfold addA at hg
      split at hg
      · rename_i d hd
        rw [List.lookup_cons] at hg
        by_cases hj : j = i
        · subst hj
          simp only [beq_self_eq_true] at hg
          rw [hi]; simpa [hd] using hg
        · rw [show (j == i) = false by simpa using hj] at hg
          exact ha j g hg
      · exact ha j g hg
    show ∃ evs stf, RunL st evs stf ∧ evs.map (fun e => (e.i, e.o, e.ld)) = (i, o, louds.contains i) :: mkV louds os (i + 1) ∧ _
    unfold exV at h
    obtain ⟨hd, h⟩ := h
    generalize hld : louds.contains i = ld at h ⊢
    have key : ∀ (r : SV) (hp' : HpT) (nx' : Nat) (lds' : List Nat), EvAt P G ops ld o st r hp' nx' → (ld = false → hp' = st.hp ∧ nx' = st.nx) → (ld = true → ∀ id ∈ lds, hp'.lookup id = st.hp.lookup id) →
        (∀ id ∈ lds, id ∈ lds') → (ul.contains i = true → ∀ id, rdEv G o st = some id → id ∈ lds') → exV P G ul louds os (i + 1) (addA i o.dst acc) ⟨putT o.dst r st.tm, hp', nx', st.nt, st.df, st.nb⟩ lds' K →
        ∃ evs stf, RunL st evs stf ∧ evs.map (fun e => (e.i, e.o, e.ld)) = (i, o, ld) :: mkV louds os (i + 1) ∧ (∀ e ∈ evs, EvAt P G ops e.ld e.o e.st e.r e.hp e.nx) ∧
          (∀ e ∈ evs, e.ld = true → ∀ id ∈ lds, e.hp.lookup id = e.st.hp.lookup id) ∧
          evs.Pairwise (fun x y => y.ld = true → ul.contains x.i = true → ∀ id, rdEv G x.o x.st = some id → y.hp.lookup id = y.st.hp.lookup id) ∧ K stf := by
      intro r hp' nx' lds' he hq hs hsub hrd hex
      obtain ⟨evs, stf, h1, h2, h3, h4, h5, h6⟩ := vY os (i + 1) _ _ lds' ho' ha' hex
      refine ⟨⟨i, o, ld, st, r, hp', nx'⟩ :: evs, stf, ⟨rfl, hq, h1⟩, by simp [h2], ?_, ?_, List.pairwise_cons.2 ⟨?_, h5⟩, h6⟩
      · intro e hem
        rcases List.mem_cons.1 hem with rfl | hem
        · exact he
        · exact h3 e hem
      · intro e hem hl id hid
        rcases List.mem_cons.1 hem with rfl | hem
        · exact hs hl id hid
        · exact h4 e hem hl id (hsub id hid)
      · intro y hy hyl hul id hid
        exact h4 y hy hyl id (hrd hul id hid)
    cases hg : o.guard with
    | none =>
      rw [hg] at h
      simp only at h
      cases hv : callV o with
      | true =>
        unfold callV at hv
        split at hv
        · rename_i f args ats ho
          rw [ho] at h
          simp only at h
          split at h
          · rename_i fid first cap hf
            obtain ⟨rfl, r, hc, hex⟩ := h
            refine key r st.hp st.nx lds ⟨hd, ?_⟩ (fun _ => ⟨rfl, rfl⟩) (fun h => by cases h) (fun _ h => h) (fun _ id hid => ?_) hex
            · rw [hg]
              simp only [exP, ho, hf]
              exact ⟨hc, trivial, trivial⟩
            · simp only [rdEv, hg, zK, ho] at hid
              cases hid
          · exact h.elim
        · rename_i ho
          rw [ho] at h
          exact h.elim
        · cases hv
      | false =>
        have h' : exq P G o (ev G st.tm) st.hp st.nx fun r hp' nx' => ldOk ld st.hp hp' st.nx nx' lds ∧
            exV P G ul louds os (i + 1) (addA i o.dst acc) ⟨putT o.dst r st.tm, hp', nx', st.nt, st.df, st.nb⟩ (if ul.contains i then addRd (zK o (ev G st.tm)) lds else lds) K := by
          clear key
          obtain ⟨dst, op, type, pos, after, guard⟩ := o
          simp only at h ⊢
          cases op <;> try exact h
          · rename_i x b
            simp [callV] at hv
          · rename_i c
            obtain ⟨callee, args, ats⟩ := c
            cases callee <;> first | exact h | simp [callV] at hv
        obtain ⟨r, hp', nx', ⟨hl, hex⟩, hdet⟩ := exq_det hv h'
        refine key r hp' nx' _ ⟨hd, ?_⟩ (fun hf => ?_) (fun ht => ?_) (fun id hid => ?_) (fun hu id hid => ?_) hex
        · rw [hg]
          simp only
          cases ld
          · simp only
            rw [x5 hv]
            exact hdet
          · exact hdet
        · subst hf; exact hl
        · subst ht; exact stabOk_mem hl
        · split
          · unfold addRd
            split
            · exact List.mem_cons_of_mem _ hid
            · exact hid
          · exact hid
        · rw [if_pos hu]
          simp only [rdEv, hg] at hid
          rw [hid]
          exact List.mem_cons_self
    | some jw =>
      obtain ⟨j, want⟩ := jw
      rw [hg] at h
      simp only at h
      obtain ⟨rfl, h⟩ := h
      split at h
      · rename_i g hgd
        split at h
        · rename_i b hb
          obtain ⟨r0, hx, hex⟩ := h
          refine key (.whn b r0) st.hp st.nx _ ⟨hd, ?_⟩ (fun _ => ⟨rfl, rfl⟩) (fun h => by cases h) (fun id hid => ?_) (fun hu id hid => ?_) hex
          · rw [hg]
            simp only
            refine ⟨g, b, r0, by simpa using ha _ _ hgd, hb, ?_, ?_, ?_, hx⟩ <;> first | rfl | trivial
          · split
            · unfold addRd
              split
              · exact List.mem_cons_of_mem _ hid
              · exact hid
            · exact hid
          · rw [if_pos hu]
            simp only [rdEv, hg] at hid
            rw [hid]
            exact List.mem_cons_self
        · exact h.elim
      · exact h.elim
theorem Tr.drawV {id : Nat} {st : St} {Q : Exit → St → Prop} (hmix : P.follows .mixedOrders = true) (hc : dChk (Region.before ops).toList ops ul (mkV louds ops.toList 0) = true)
    (h : exV P G ul louds ops.toList 0 [] st [] (Q .normal)) : Tr P G ro (.region id ops true) st Q := by
  intro O M pb pl a w hR
  have hg : ∀ x ∈ mkV louds ops.toList 0, ops[x.1]? = some x.2.1 := fun x hx => by
    have := mkV_get ops.toList 0 x hx
    simpa using this
  obtain ⟨evs, stf, h1, h2, h3, h4, h5, h6⟩ := vY (ops := ops) ops.toList 0 [] st [] (fun k => by rw [Nat.zero_add]) (fun j g hg => by cases hg) h
  generalize mkV louds ops.toList 0 = L at hc hg h2
  obtain ⟨d1, d2, d3, d4⟩ := DOk_of hc hg h2
  refine wpIn_region_any hmix ?_
  have hst : Step (ownOf pl st.hp) (ownOf pl st.hp) w { w with drawn := w.drawn + 1 } := ⟨Nat.le_refl _, fun _ _ _ => rfl, rfl, rfl, fun _ h => .inl h⟩
  have hadd : Add w { w with drawn := w.drawn + 1 } := ⟨Nat.le_refl _, fun _ _ => rfl, rfl, rfl⟩
  refine draw_sim (own0 := ownOf pl st.hp) (w0 := w) d1 h1 (fun e he => ⟨h3 e he, d2 e he⟩) ?_ ?_ (fun pl' a' w' hR' hs' => ⟨pl', stf, h6, hR', hs'⟩) ops.size (Array.replicate ops.size false) pl st a _ ?_ ?_
  · refine (d4.and h5).imp fun {x y} ⟨h1, h2⟩ hl => ?_
    by_cases hr : isRd x.o = true
    · rcases h1 hl hr with h | h
      · exact .inl h
      · exact .inr fun id hid => h2 hl h id hid
    · exact .inr fun id hid => absurd (rdEv_isRd (by rw [hid]; rfl)) hr
  · exact d3.imp fun h hl hr => h hl (rdEv_isRd hr)
  · have hlen : L.length = ops.size := by
      simp only [dChk, Bool.and_eq_true] at hc
      simpa using hc.1.1.1.1
    have : ∀ e : Ev, (!(Array.replicate ops.size false).getD e.i false) = true := fun e => by
      by_cases hlt : e.i < ops.size <;> simp [hlt]
    rw [List.filter_eq_self.2 fun e _ => this e, ← hlen, ← h2, List.length_map]
  · have h0 : ∀ i, (Array.replicate ops.size false).getD i false = false := fun i => by
      by_cases hlt : i < ops.size <;> simp [hlt]
    refine ⟨by simp, fun i o hi => ?_, ⟨hR.hs.add hadd, hR.tm.ext hadd.ext (fun _ _ h => h), hR.nt, hR.dfStep hst, hR.bd⟩, hst, fun t => ?_, ?_, rfl, rfl, rfl⟩
    · rw [h0] at hi; cases hi
    · rw [foldT_none evs _ fun e _ _ => h0 e.i]
    · rw [foldH_none evs _ fun e _ _ => h0 e.i]
theorem Tr.regV {id : Nat} {y : Code} {st : St} {Q : Exit → St → Prop} (louds ul ks : List Nat) {st' : St} (hmix : P.follows .mixedOrders = true) (hc : dChk (Region.before ops).toList ops ul (mkV louds ops.toList 0) = true)
    (h : exV P G ul louds ops.toList 0 [] st [] fun s => s.keep ks = st') (hy : Tr P G ro y st' Q) : Tr P G ro (.seq (.region id ops true) y) st Q := by
  refine Tr.seq ((Tr.drawV (Q := fun x s => match x with | .normal => s.keep ks = st' | _ => False) hmix hc h).mono ?_)
  intro x s hx
  cases x with
  | normal => exact Tr.imp (hx ▸ Imp.keep ks) hy
  | _ => exact hx.elim
end
end Go.Sy
