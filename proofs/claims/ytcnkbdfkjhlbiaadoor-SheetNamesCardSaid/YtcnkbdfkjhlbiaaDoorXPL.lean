/- Lemmas, part XPL. Conditions: none. -/
import Derived.Test.YtcnkbdfkjhlbiaaDoorXPJ
import Derived.Test.YtcnkbdfkjhlbiaaDoorXPK
set_option linter.unusedVariables false
namespace Go.Proofs.YtcnkbdfkjhlbiaaDoor
open Go.Sy
set_option maxRecDepth 4000
def lmin (l : List Int) : Int := (l.drop 1).foldl min (l.getD 0 0)
def lmax (l : List Int) : Int := (l.drop 1).foldl max (l.getD 0 0)
theorem take_drop1 {l : List Int} {i : Nat} (h1 : 1 ≤ i) (h : i < l.length) : (l.take (i + 1)).drop 1 = (l.take i).drop 1 ++ [l.getD i 0] := by
  rw [List.take_succ_eq_append_getElem h, List.drop_append_of_le_length (by simp; omega), List.getD_eq_getElem?_getD, List.getElem?_eq_getElem h]
  rfl
abbrev x2 := And.intro ty.sz0 <| And.intro ty.agg0 <| And.intro ty.elem0 <| And.intro ty.sz3 <| And.intro ty.agg3 <| And.intro ty.elem3 <| And.intro ty.zero3 <| And.intro ty.und3 <| And.intro ty.sz4 <| And.intro ty.agg4 <| And.intro ty.elem4 <| And.intro ty.zero4 <| And.intro ty.und4 <| And.intro ty.sz9 <| And.intro ty.agg9 <| And.intro ty.elem9 <| And.intro ty.zero9 <| And.intro ty.und9 <| And.intro ty.sz20 <| And.intro ty.agg20 <| And.intro ty.elem20 <| And.intro ty.sz43 <| And.intro ty.agg43 <| And.intro ty.elem43 <| And.intro ty.by43 <| And.intro ty.ez43 <| And.intro ty.zero43 <| ty.und43
theorem Min_c (l : List Int) (hl : l.length < 4611686018427387904) (h0 : l ≠ []) : CallP Tryd.prog G0 130 [SI l] (I (lmin l)) := by
  have hpos : 0 < l.length := List.length_pos_iff.2 h0
  refine CallP.body 25 [.tmp 2] Tryd.func130 (by kernel_rfl) rfl rfl rfl zP zP ?_
  refine Tr.reg [0] (by
      simp only [↓sxd, sxu, ↓zE, ↓exq, Nat.reduceBEq, Nat.reduceLT]
      (all_goals try exact zF)) ?_
  refine Tr.seq ?_
  refine Tr.reg [0, 7] (by
      simp only [↓sxd, sxu, ↓zE, ↓exq, ↓zB, ↓zJ, Nat.reduceBEq, Nat.reduceLT, sxe, x2]
      (all_goals try exact zF)) ?_
  refine Tr.cond rfl (fun h7 => ?_) (fun h7 => ?_)
  · exfalso; simp at h7; omega
  · refine Tr.skip ?_
    refine Tr.reg [0, 3] (by
        simp only [↓sxd, sxu, ↓zE, ↓exq, ↓zD, Nat.reduceBEq, Nat.reduceLT, Int.reduceLE, sxe, x2, dI_get hpos, show ((0 : Int) < (l.length : Int)) from by omega]
        (all_goals try exact zF)) ?_
    refine Tr.seq ?_
    refine Tr.reg [0, 3, 4] (by
        simp only [↓sxd, sxu, ↓zE, ↓exq, Nat.reduceBEq, Nat.reduceLT]
        (all_goals try exact zF)) ?_
    refine Tr.imp (st' := ⟨[(0, SI l), (3, I (((l.take 1).drop 1).foldl min (l.getD 0 0))), (4, I 1)], [], 0, 25, [], 0⟩) (by rw [show (l.take 1).drop 1 = [] by simp]; exact Imp.keepAll) (Tr.block (Tr.loopI (fun mm ss => ∃ (i : Nat), (1 ≤ i ∧ i ≤ l.length) ∧ l.length - i = mm ∧ ss = ⟨[(0, SI l), (3, I (((l.take i).drop 1).foldl min (l.getD 0 0))), (4, I i)], [], 0, 25, [], 0⟩) _ ⟨1, ?_, rfl, rfl⟩ ?_))
    · exact ⟨Nat.le_refl _, hpos⟩
    rintro mm ss ⟨i, hI, rfl, rfl⟩
    obtain ⟨hi1, hi⟩ := hI
    refine Tr.seq ?_
    refine Tr.reg [0, 3, 4, 15] (by
        simp only [↓sxd, sxu, ↓zE, ↓exq, ↓zB, ↓zJ, Nat.reduceBEq, Nat.reduceLT, sxe, x2]
        (all_goals try exact zF)) ?_
    refine Tr.cond rfl (fun h15 => ?_) (fun h15 => ?_)
    · have hlt : i < l.length := by simpa using h15
      refine Tr.skip ?_
      refine Tr.seq ?_
      refine Tr.block ?_
      refine Tr.reg1 [0, 3, 4] (by
          simp only [↓sxd, sxu, ↓zE, ↓exq, ↓zB, ↓zD, Nat.reduceBEq, Nat.reduceLT, sxe, x2, hlt]
          (all_goals try exact zF)) ?_
      have w1 : IntKind.i64.wrap ((i : Int) + 1) = ((i + 1 : Nat) : Int) := by rw [wr (by omega) (by omega)]; rfl
      refine Tr.reg1 [0, 3, 4] (by
          simp only [↓sxd, sxu, ↓zE, ↓exq, Nat.reduceBEq, Nat.reduceLT, w1]
          (all_goals try exact zF)) ?_
      refine ⟨_, _, ?_, ?_, ⟨i + 1, ⟨by omega, hlt⟩, rfl, rfl⟩⟩
      · omega
      · rw [take_drop1 hi1 hlt, List.foldl_append]; exact Imp.keepAll
    · have hge : i = l.length := by simp at h15; omega
      refine Tr.exit ?_
      refine Tr.reg [2] (by
          simp only [↓sxd, sxu, ↓zE, ↓exq, Nat.reduceBEq, Nat.reduceLT]
          (all_goals try exact zF)) ?_
      refine Tr.ret ?_
      exact ⟨.inr rfl, congrArg (fun n => some (I n)) (by subst hge; rw [List.take_length]; rfl)⟩
abbrev x3 := And.intro ty.sz0 <| And.intro ty.agg0 <| And.intro ty.elem0 <| And.intro ty.sz3 <| And.intro ty.agg3 <| And.intro ty.elem3 <| And.intro ty.zero3 <| And.intro ty.und3 <| And.intro ty.sz4 <| And.intro ty.agg4 <| And.intro ty.elem4 <| And.intro ty.zero4 <| And.intro ty.und4 <| And.intro ty.sz9 <| And.intro ty.agg9 <| And.intro ty.elem9 <| And.intro ty.zero9 <| And.intro ty.und9 <| And.intro ty.sz20 <| And.intro ty.agg20 <| And.intro ty.elem20 <| And.intro ty.sz43 <| And.intro ty.agg43 <| And.intro ty.elem43 <| And.intro ty.by43 <| And.intro ty.ez43 <| And.intro ty.zero43 <| ty.und43
theorem Max_c (l : List Int) (hl : l.length < 4611686018427387904) (h0 : l ≠ []) : CallP Tryd.prog G0 131 [SI l] (I (lmax l)) := by
  have hpos : 0 < l.length := List.length_pos_iff.2 h0
  refine CallP.body 25 [.tmp 2] Tryd.func131 (by kernel_rfl) rfl rfl rfl zP zP ?_
  refine Tr.reg [0] (by
      simp only [↓sxd, sxu, ↓zE, ↓exq, Nat.reduceBEq, Nat.reduceLT]
      (all_goals try exact zF)) ?_
  refine Tr.seq ?_
  refine Tr.reg [0, 7] (by
      simp only [↓sxd, sxu, ↓zE, ↓exq, ↓zB, ↓zJ, Nat.reduceBEq, Nat.reduceLT, sxe, x3]
      (all_goals try exact zF)) ?_
  refine Tr.cond rfl (fun h7 => ?_) (fun h7 => ?_)
  · exfalso; simp at h7; omega
  · refine Tr.skip ?_
    refine Tr.reg [0, 3] (by
        simp only [↓sxd, sxu, ↓zE, ↓exq, ↓zD, Nat.reduceBEq, Nat.reduceLT, Int.reduceLE, sxe, x3, dI_get hpos, show ((0 : Int) < (l.length : Int)) from by omega]
        (all_goals try exact zF)) ?_
    refine Tr.seq ?_
    refine Tr.reg [0, 3, 4] (by
        simp only [↓sxd, sxu, ↓zE, ↓exq, Nat.reduceBEq, Nat.reduceLT]
        (all_goals try exact zF)) ?_
    refine Tr.imp (st' := ⟨[(0, SI l), (3, I (((l.take 1).drop 1).foldl max (l.getD 0 0))), (4, I 1)], [], 0, 25, [], 0⟩) (by rw [show (l.take 1).drop 1 = [] by simp]; exact Imp.keepAll) (Tr.block (Tr.loopI (fun mm ss => ∃ (i : Nat), (1 ≤ i ∧ i ≤ l.length) ∧ l.length - i = mm ∧ ss = ⟨[(0, SI l), (3, I (((l.take i).drop 1).foldl max (l.getD 0 0))), (4, I i)], [], 0, 25, [], 0⟩) _ ⟨1, ?_, rfl, rfl⟩ ?_))
    · exact ⟨Nat.le_refl _, hpos⟩
    rintro mm ss ⟨i, hI, rfl, rfl⟩
    obtain ⟨hi1, hi⟩ := hI
    refine Tr.seq ?_
    refine Tr.reg [0, 3, 4, 15] (by
        simp only [↓sxd, sxu, ↓zE, ↓exq, ↓zB, ↓zJ, Nat.reduceBEq, Nat.reduceLT, sxe, x3]
        (all_goals try exact zF)) ?_
    refine Tr.cond rfl (fun h15 => ?_) (fun h15 => ?_)
    · have hlt : i < l.length := by simpa using h15
      refine Tr.skip ?_
      refine Tr.seq ?_
      refine Tr.block ?_
      refine Tr.reg1 [0, 3, 4] (by
          simp only [↓sxd, sxu, ↓zE, ↓exq, ↓zB, ↓zD, Nat.reduceBEq, Nat.reduceLT, sxe, x3, hlt]
          (all_goals try exact zF)) ?_
      have w1 : IntKind.i64.wrap ((i : Int) + 1) = ((i + 1 : Nat) : Int) := by rw [wr (by omega) (by omega)]; rfl
      refine Tr.reg1 [0, 3, 4] (by
          simp only [↓sxd, sxu, ↓zE, ↓exq, Nat.reduceBEq, Nat.reduceLT, w1]
          (all_goals try exact zF)) ?_
      refine ⟨_, _, ?_, ?_, ⟨i + 1, ⟨by omega, hlt⟩, rfl, rfl⟩⟩
      · omega
      · rw [take_drop1 hi1 hlt, List.foldl_append]; exact Imp.keepAll
    · have hge : i = l.length := by simp at h15; omega
      refine Tr.exit ?_
      refine Tr.reg [2] (by
          simp only [↓sxd, sxu, ↓zE, ↓exq, Nat.reduceBEq, Nat.reduceLT]
          (all_goals try exact zF)) ?_
      refine Tr.ret ?_
      exact ⟨.inr rfl, congrArg (fun n => some (I n)) (by subst hge; rw [List.take_length]; rfl)⟩
abbrev w7 := And.intro ty.sz3 <| And.intro ty.agg3 <| And.intro ty.elem3 <| And.intro ty.zero3 <| And.intro ty.und3 <| And.intro ty.sz43 <| And.intro ty.agg43 <| And.intro ty.elem43 <| And.intro ty.by43 <| And.intro ty.ez43 <| And.intro ty.zero43 <| ty.und43
theorem minimum_c (l : List Int) (hl : l.length < 4611686018427387904) (h0 : l ≠ []) : CallP Tryd.prog G0 119 [SI l] (I (lmin l)) := by
  refine CallP.body 5 [.tmp 2] Tryd.func119 (by kernel_rfl) rfl rfl rfl zP zP ?_
  refine Tr.reg [0] (by
      simp only [↓sxd, sxu, ↓zE, ↓exq, Nat.reduceBEq, Nat.reduceLT]
      (all_goals try exact zF)) ?_
  refine Tr.reg [2] (by
      simp only [↓sxd, sxu, ↓zE, ↓exq, Nat.reduceLT]
      (repeat ((with_reducible refine And.intro ?_ ?_); (focus (exact zS))))
      refine CallO.use (Min_c l hl h0) ?_
      try simp only [↓sxd, sxu, ↓zE, ↓exq, Nat.reduceLT]
      (all_goals try exact zF)) ?_
  refine Tr.ret ?_
  (refine ⟨.inr rfl, ?_⟩; first | rfl | exact ⟨rfl, rfl, trivial⟩ | exact ⟨rfl, rfl, rfl, trivial⟩ | (simp only [Res, ResL, ResOK, ↓sxd, sxu, ↓zE, ↓zC, zK, ↓exP, ↓exq, ↓zB, ↓zL, Nat.reduceBEq, Nat.reduceAdd, Nat.reduceLT, Nat.reduceMul, Nat.reduceSub, Nat.reduceLeDiff, Nat.reduceEqDiff, Int.reduceLE, Int.reduceLT, Int.reduceToNat, reduceIte, sxe, w7]; (repeat' (first | rfl | exact trivial | exact fun h => h | exact fun h => (by rw [h]; rfl) | apply And.intro | omega | exact Nat.le_of_ble_eq_true rfl))))
abbrev w8 := And.intro ty.sz3 <| And.intro ty.agg3 <| And.intro ty.elem3 <| And.intro ty.zero3 <| And.intro ty.und3 <| And.intro ty.sz43 <| And.intro ty.agg43 <| And.intro ty.elem43 <| And.intro ty.by43 <| And.intro ty.ez43 <| And.intro ty.zero43 <| ty.und43
theorem maximum_c (l : List Int) (hl : l.length < 4611686018427387904) (h0 : l ≠ []) : CallP Tryd.prog G0 120 [SI l] (I (lmax l)) := by
  refine CallP.body 5 [.tmp 2] Tryd.func120 (by kernel_rfl) rfl rfl rfl zP zP ?_
  refine Tr.reg [0] (by
      simp only [↓sxd, sxu, ↓zE, ↓exq, Nat.reduceBEq, Nat.reduceLT]
      (all_goals try exact zF)) ?_
  refine Tr.reg [2] (by
      simp only [↓sxd, sxu, ↓zE, ↓exq, Nat.reduceLT]
      (repeat ((with_reducible refine And.intro ?_ ?_); (focus (exact zS))))
      refine CallO.use (Max_c l hl h0) ?_
      try simp only [↓sxd, sxu, ↓zE, ↓exq, Nat.reduceLT]
      (all_goals try exact zF)) ?_
  refine Tr.ret ?_
  (refine ⟨.inr rfl, ?_⟩; first | rfl | exact ⟨rfl, rfl, trivial⟩ | exact ⟨rfl, rfl, rfl, trivial⟩ | (simp only [Res, ResL, ResOK, ↓sxd, sxu, ↓zE, ↓zC, zK, ↓exP, ↓exq, ↓zB, ↓zL, Nat.reduceBEq, Nat.reduceAdd, Nat.reduceLT, Nat.reduceMul, Nat.reduceSub, Nat.reduceLeDiff, Nat.reduceEqDiff, Int.reduceLE, Int.reduceLT, Int.reduceToNat, reduceIte, sxe, w8]; (repeat' (first | rfl | exact trivial | exact fun h => h | exact fun h => (by rw [h]; rfl) | apply And.intro | omega | exact Nat.le_of_ble_eq_true rfl))))
theorem min2_c (a b : Int) : CallP Tryd.prog G0 119 [.dx [[cI a], [cI b]]] (I (min a b)) :=
  CallP.arg (minimum_c [a, b] (by simp) (by simp)) (.cons (fun pl ok w v h => dxd _ pl ok w v h) .nil)
theorem max2_c (a b : Int) : CallP Tryd.prog G0 120 [.dx [[cI a], [cI b]]] (I (max a b)) :=
  CallP.arg (maximum_c [a, b] (by simp) (by simp)) (.cons (fun pl ok w v h => dxd _ pl ok w v h) .nil)
abbrev vW := And.intro ty.sz0 <| And.intro ty.agg0 <| And.intro ty.elem0 <| And.intro ty.sz3 <| And.intro ty.agg3 <| And.intro ty.elem3 <| And.intro ty.zero3 <| And.intro ty.und3 <| And.intro ty.sz30 <| And.intro ty.agg30 <| And.intro ty.fld30_0 <| And.intro ty.fld30_1 <| And.intro ty.elem30 <| And.intro ty.zero30 <| And.intro ty.pl30 <| And.intro ty.sz43 <| And.intro ty.agg43 <| And.intro ty.elem43 <| And.intro ty.by43 <| And.intro ty.ez43 <| And.intro ty.zero43 <| ty.und43
theorem above_c (r : Rng) (n : Int) : CallP Tryd.prog G0 99 [r.s, I n] (I (max r.lo n)) := by
  refine CallP.body 10 [.tmp 4] Tryd.func99 (by kernel_rfl) rfl rfl rfl zP zP ?_
  refine Tr.reg [1, 2] (by
      simp only [↓sxd, sxu, ↓zE, ↓exq, ↓zI, Nat.reduceBEq, Nat.reduceAdd, Nat.reduceLT, Nat.reduceEqDiff]
      (all_goals try exact zF)) ?_
  refine Tr.reg [4] (by
      simp only [↓sxd, sxu, ↓zE, ↓exq, ↓zD, ↓zG, ↓zA, Nat.reduceBEq, Nat.reduceAdd, Nat.reduceLT, Nat.reduceLeDiff, Nat.reduceEqDiff, vW]
      (repeat ((with_reducible refine And.intro ?_ ?_); (focus (exact zS))))
      refine CallO.use (max2_c _ _) ?_
      try simp only [↓sxd, sxu, ↓zE, ↓exq, Nat.reduceLT]
      (all_goals try exact zF)) ?_
  refine Tr.ret ?_
  (refine ⟨.inr rfl, ?_⟩; first | rfl | exact ⟨rfl, rfl, trivial⟩ | exact ⟨rfl, rfl, rfl, trivial⟩ | (simp only [Res, ResL, ResOK, ↓sxd, sxu, ↓zE, ↓zC, zK, ↓exP, ↓exq, ↓zB, ↓zL, ↓zD, ↓zI, ↓zG, ↓zA, Nat.reduceBEq, Nat.reduceAdd, Nat.reduceLT, Nat.reduceMul, Nat.reduceSub, Nat.reduceLeDiff, Nat.reduceEqDiff, Int.reduceLE, Int.reduceLT, Int.reduceToNat, reduceIte, sxe, vW]; (repeat' (first | rfl | exact trivial | exact fun h => h | exact fun h => (by rw [h]; rfl) | apply And.intro | omega | exact Nat.le_of_ble_eq_true rfl))))
abbrev w9 := And.intro ty.sz0 <| And.intro ty.agg0 <| And.intro ty.elem0 <| And.intro ty.sz3 <| And.intro ty.agg3 <| And.intro ty.elem3 <| And.intro ty.zero3 <| And.intro ty.und3 <| And.intro ty.sz30 <| And.intro ty.agg30 <| And.intro ty.fld30_0 <| And.intro ty.fld30_1 <| And.intro ty.elem30 <| And.intro ty.zero30 <| And.intro ty.pl30 <| And.intro ty.sz43 <| And.intro ty.agg43 <| And.intro ty.elem43 <| And.intro ty.by43 <| And.intro ty.ez43 <| And.intro ty.zero43 <| ty.und43
theorem below_c (r : Rng) (n : Int) : CallP Tryd.prog G0 100 [r.s, I n] (I (min r.hi n)) := by
  refine CallP.body 10 [.tmp 4] Tryd.func100 (by kernel_rfl) rfl rfl rfl zP zP ?_
  refine Tr.reg [1, 2] (by
      simp only [↓sxd, sxu, ↓zE, ↓exq, ↓zI, Nat.reduceBEq, Nat.reduceAdd, Nat.reduceLT, Nat.reduceEqDiff]
      (all_goals try exact zF)) ?_
  refine Tr.reg [4] (by
      simp only [↓sxd, sxu, ↓zE, ↓exq, ↓zD, ↓zG, ↓zA, Nat.reduceBEq, Nat.reduceAdd, Nat.reduceLT, Nat.reduceLeDiff, Nat.reduceEqDiff, w9]
      (repeat ((with_reducible refine And.intro ?_ ?_); (focus (exact zS))))
      refine CallO.use (min2_c _ _) ?_
      try simp only [↓sxd, sxu, ↓zE, ↓exq, Nat.reduceLT]
      (all_goals try exact zF)) ?_
  refine Tr.ret ?_
  (refine ⟨.inr rfl, ?_⟩; first | rfl | exact ⟨rfl, rfl, trivial⟩ | exact ⟨rfl, rfl, rfl, trivial⟩ | (simp only [Res, ResL, ResOK, ↓sxd, sxu, ↓zE, ↓zC, zK, ↓exP, ↓exq, ↓zB, ↓zL, ↓zD, ↓zI, ↓zG, ↓zA, Nat.reduceBEq, Nat.reduceAdd, Nat.reduceLT, Nat.reduceMul, Nat.reduceSub, Nat.reduceLeDiff, Nat.reduceEqDiff, Int.reduceLE, Int.reduceLT, Int.reduceToNat, reduceIte, sxe, w9]; (repeat' (first | rfl | exact trivial | exact fun h => h | exact fun h => (by rw [h]; rfl) | apply And.intro | omega | exact Nat.le_of_ble_eq_true rfl))))
def Rng.cut (r : Rng) (lo hi : Int) : Rng := ⟨max r.lo lo, min r.hi hi⟩
abbrev wR := And.intro ty.sz0 <| And.intro ty.agg0 <| And.intro ty.elem0 <| And.intro ty.sz3 <| And.intro ty.agg3 <| And.intro ty.elem3 <| And.intro ty.zero3 <| And.intro ty.und3 <| And.intro ty.sz30 <| And.intro ty.agg30 <| And.intro ty.fld30_0 <| And.intro ty.fld30_1 <| And.intro ty.elem30 <| And.intro ty.zero30 <| And.intro ty.pl30 <| And.intro ty.sz159 <| And.intro ty.agg159 <| And.intro ty.elem159 <| And.intro ty.zero159 <| And.intro ty.sz161 <| And.intro ty.agg161 <| And.intro ty.fld161_0 <| And.intro ty.elem161 <| And.intro ty.zero161 <| ty.pl161
theorem cut_c (r : Rng) (lo hi : Int) : CallP Tryd.prog G0 64 [r.s, I lo, I hi] (r.cut lo hi).s := by
  refine CallP.body 22 [.cell 6 30] Tryd.func64 (by kernel_rfl) rfl rfl rfl zP zP ?_
  refine Tr.reg [1, 2, 3, 6] (by
      simp only [↓sxd, sxu, ↓zE, ↓exq, ↓zM, ↓zI, Nat.reduceBEq, Nat.reduceAdd, Nat.reduceLT, Nat.reduceEqDiff, wR]
      (all_goals try exact zF)) ?_
  refine Tr.reg [1, 2, 3, 6, 7, 8] (by
      simp only [↓sxd, sxu, ↓zE, ↓exq, ↓zM, ↓zO, Nat.reduceBEq, Nat.reduceAdd, Nat.reduceLT, Nat.reduceEqDiff, wR]
      (all_goals try exact zF)) ?_
  refine Tr.regD [0, 1, 2, 3, 4, 5, 6, 7, 8, 9, 10, 11] [11] [] [6] mix (by kernel_rfl) (by
      simp only [↓sxd, sxu, ↓zC, zK, ↓exq, ↓zD, ↓zA, Nat.reduceBEq, Nat.reduceAdd, Nat.reduceLT, Nat.reduceEqDiff, wR]
      (repeat ((with_reducible refine And.intro ?_ ?_); (focus (exact zS))))
      refine CallD.use (above_c r lo) ?_
      try simp only [↓sxd, sxu, ↓zC, zK, ↓exq, ↓zD, ↓zA, Nat.reduceBEq, Nat.reduceAdd, Nat.reduceLT, Nat.reduceEqDiff, wR]
      (repeat ((with_reducible refine And.intro ?_ ?_); (focus (exact zS))))
      refine CallD.use (below_c r hi) ?_
      try simp only [↓sxd, sxu, ↓zC, zK, ↓exq, ↓zO, Nat.reduceBEq, Nat.reduceAdd, Nat.reduceLT, Nat.reduceLeDiff, Nat.reduceEqDiff, wR]
      (all_goals try exact zF)) ?_
  refine Tr.ret ?_
  (refine ⟨.inr rfl, ?_⟩; first | rfl | exact ⟨rfl, rfl, trivial⟩ | exact ⟨rfl, rfl, rfl, trivial⟩ | (simp only [Res, ResOK, sxu, ↓zD, Nat.reduceBEq, Nat.reduceAdd, Nat.reduceLT, wR]; (repeat' (first | rfl | exact trivial | exact fun h => h | exact fun h => (by rw [h]; rfl) | apply And.intro | omega | exact Nat.le_of_ble_eq_true rfl))))
def Entry.fits (e o : Entry) : Bool := (e.sched != o.sched) && (e.sex == o.sex) && (e.key == o.key) && decide (max e.ages.lo o.ages.lo ≤ min e.ages.hi o.ages.hi)
abbrev z8 := And.intro ty.sz0 <| And.intro ty.agg0 <| And.intro ty.elem0 <| And.intro ty.sz3 <| And.intro ty.agg3 <| And.intro ty.elem3 <| And.intro ty.zero3 <| And.intro ty.und3 <| And.intro ty.sz4 <| And.intro ty.agg4 <| And.intro ty.elem4 <| And.intro ty.zero4 <| And.intro ty.und4 <| And.intro ty.sz30 <| And.intro ty.agg30 <| And.intro ty.fld30_0 <| And.intro ty.fld30_1 <| And.intro ty.elem30 <| And.intro ty.zero30 <| And.intro ty.pl30 <| And.intro ty.sz43 <| And.intro ty.agg43 <| And.intro ty.elem43 <| And.intro ty.by43 <| And.intro ty.ez43 <| And.intro ty.zero43 <| And.intro ty.und43 <| And.intro ty.sz106 <| And.intro ty.agg106 <| And.intro ty.fld106_0 <| And.intro ty.fld106_1 <| And.intro ty.fld106_2 <| And.intro ty.fld106_3 <| And.intro ty.elem106 <| And.intro ty.zero106 <| ty.pl106
theorem Efits_c (e o : Entry) : CallP Tryd.prog G0 112 [e.s, o.s] (B (e.fits o)) := by
  refine CallP.body 43 [.tmp 4] Tryd.func112 (by kernel_rfl) rfl rfl rfl zP zP ?_
  refine Tr.reg [2, 3] (by
      simp only [↓sxd, sxu, ↓zE, ↓exq, ↓zI, Nat.reduceBEq, Nat.reduceAdd, Nat.reduceLT, Nat.reduceEqDiff]
      (all_goals try exact zF)) ?_
  refine Tr.regD [0, 1, 2, 3, 4, 5, 6, 7, 8, 9, 10, 11, 12, 13, 14, 15, 16, 17, 18, 19, 20, 21, 22, 23, 24, 25, 26, 27, 28, 29, 30, 31, 32, 33, 34, 35, 36, 37, 38] [] [] [4] mix (by kernel_rfl) (by
      simp only [↓sxd, sxu, ↓zC, zK, ↓exq, ↓zD, ↓zA, Nat.reduceBEq, Nat.reduceAdd, Nat.reduceLT, Nat.reduceEqDiff, z8]
      (repeat ((with_reducible refine And.intro ?_ ?_); (focus (exact zS))))
      refine GdD.mk _ (fun hg => by simp only [sxu, ↓exP, ↓exq, ↓zA, Nat.reduceBEq, Nat.reduceEqDiff, z8, hg]; (all_goals try exact zF)) ?_
      simp only [↓sxd, sxu, ↓zC, zK, Nat.reduceBEq, Nat.reduceLT]
      (repeat ((with_reducible refine And.intro ?_ ?_); (focus (exact zS))))
      refine GdD.mk _ (fun hg => by simp only [sxu, ↓exP, ↓exq, ↓zD, Nat.reduceBEq, Nat.reduceAdd, Nat.reduceLT, z8, hg]; (all_goals try exact zF)) ?_
      simp only [↓sxd, sxu, ↓zC, zK, Nat.reduceBEq, Nat.reduceLT]
      (repeat ((with_reducible refine And.intro ?_ ?_); (focus (exact zS))))
      refine GdD.mk _ (fun hg => by simp only [sxu, ↓exP, ↓exq, ↓zA, Nat.reduceBEq, Nat.reduceEqDiff, z8, hg]; (all_goals try exact zF)) ?_
      simp only [↓sxd, sxu, ↓zC, zK, Nat.reduceBEq, Nat.reduceLT]
      (repeat ((with_reducible refine And.intro ?_ ?_); (focus (exact zS))))
      refine GdD.mk _ (fun hg => by simp only [sxu, ↓exP, ↓exq, ↓zD, Nat.reduceAdd, Nat.reduceLT, z8, hg]; (all_goals try exact zF)) ?_
      simp only [↓sxd, sxu, ↓zC, zK, Nat.reduceBEq, Nat.reduceLT]
      (repeat ((with_reducible refine And.intro ?_ ?_); (focus (exact zS))))
      refine GdD.mk _ (fun hg => by simp only [↓sxd, sxu, ↓exP, ↓exq, Nat.reduceBEq, hg]; (all_goals try exact zF)) ?_
      simp only [↓sxd, sxu, ↓zC, zK, ↓exq, ↓zH, Nat.reduceBEq, Nat.reduceLT]
      (repeat ((with_reducible refine And.intro ?_ ?_); (focus (exact zS))))
      refine GdD.mk _ (fun hg => by simp only [sxu, ↓exP, ↓exq, ↓zA, Nat.reduceBEq, Nat.reduceEqDiff, z8, hg]; (all_goals try exact zF)) ?_
      simp only [↓sxd, sxu, ↓zC, zK, Nat.reduceBEq, Nat.reduceLT]
      (repeat ((with_reducible refine And.intro ?_ ?_); (focus (exact zS))))
      refine GdD.mk _ (fun hg => by simp only [sxu, ↓exP, ↓exq, ↓zD, Nat.reduceBEq, Nat.reduceAdd, Nat.reduceLT, z8, hg]; (all_goals try exact zF)) ?_
      simp only [↓sxd, sxu, ↓zC, zK, Nat.reduceBEq, Nat.reduceLT]
      (repeat ((with_reducible refine And.intro ?_ ?_); (focus (exact zS))))
      refine GdD.mk _ (fun hg => by simp only [sxu, ↓exP, ↓exq, ↓zA, Nat.reduceBEq, Nat.reduceEqDiff, z8, hg]; (all_goals try exact zF)) ?_
      simp only [↓sxd, sxu, ↓zC, zK, Nat.reduceBEq, Nat.reduceLT]
      (repeat ((with_reducible refine And.intro ?_ ?_); (focus (exact zS))))
      refine GdD.mk _ (fun hg => by simp only [sxu, ↓exP, ↓exq, ↓zD, Nat.reduceAdd, Nat.reduceLT, z8, hg]; (all_goals try exact zF)) ?_
      simp only [↓sxd, sxu, ↓zC, zK, Nat.reduceBEq, Nat.reduceLT]
      (repeat ((with_reducible refine And.intro ?_ ?_); (focus (exact zS))))
      refine GdD.mk _ (fun hg => by simp only [↓sxd, sxu, ↓exP, ↓exq, Nat.reduceBEq, hg]; (all_goals try exact zF)) ?_
      simp only [↓sxd, sxu, ↓zC, zK, ↓exq, ↓zH, Nat.reduceBEq, Nat.reduceLT]
      (repeat ((with_reducible refine And.intro ?_ ?_); (focus (exact zS))))
      refine GdD.mk _ (fun hg => by simp only [sxu, ↓exP, ↓exq, ↓zA, Nat.reduceBEq, Nat.reduceEqDiff, z8, hg]; (all_goals try exact zF)) ?_
      simp only [↓sxd, sxu, ↓zC, zK, Nat.reduceBEq, Nat.reduceLT]
      (repeat ((with_reducible refine And.intro ?_ ?_); (focus (exact zS))))
      refine GdD.mk _ (fun hg => by simp only [sxu, ↓exP, ↓exq, ↓zA, Nat.reduceEqDiff, z8, hg]; (all_goals try exact zF)) ?_
      simp only [↓sxd, sxu, ↓zC, zK, Nat.reduceBEq, Nat.reduceLT]
      (repeat ((with_reducible refine And.intro ?_ ?_); (focus (exact zS))))
      refine GdD.mk _ (fun hg => by simp only [sxu, ↓exP, ↓exq, ↓zD, Nat.reduceBEq, Nat.reduceAdd, Nat.reduceLT, z8, hg]; (all_goals try exact zF)) ?_
      simp only [↓sxd, sxu, ↓zC, zK, Nat.reduceBEq, Nat.reduceLT]
      (repeat ((with_reducible refine And.intro ?_ ?_); (focus (exact zS))))
      refine GdD.mk _ (fun hg => by simp only [sxu, ↓exP, ↓exq, ↓zA, Nat.reduceBEq, Nat.reduceEqDiff, z8, hg]; (all_goals try exact zF)) ?_
      simp only [↓sxd, sxu, ↓zC, zK, Nat.reduceBEq, Nat.reduceLT]
      (repeat ((with_reducible refine And.intro ?_ ?_); (focus (exact zS))))
      refine GdD.mk _ (fun hg => by simp only [sxu, ↓exP, ↓exq, ↓zA, Nat.reduceEqDiff, z8, hg]; (all_goals try exact zF)) ?_
      simp only [↓sxd, sxu, ↓zC, zK, Nat.reduceBEq, Nat.reduceLT]
      (repeat ((with_reducible refine And.intro ?_ ?_); (focus (exact zS))))
      refine GdD.mk _ (fun hg => by simp only [sxu, ↓exP, ↓exq, ↓zD, Nat.reduceAdd, Nat.reduceLT, z8, hg]; (all_goals try exact zF)) ?_
      simp only [↓sxd, sxu, ↓zC, zK, Nat.reduceBEq, Nat.reduceLT]
      (repeat ((with_reducible refine And.intro ?_ ?_); (focus (exact zS))))
      refine GdD.mk _ (fun hg => by simp only [sxu, ↓exP, ↓exq, ↓zG, Nat.reduceBEq, Nat.reduceLeDiff, Nat.reduceEqDiff, z8, hg]; (all_goals try exact zF)) ?_
      simp only [↓sxd, sxu, ↓zC, zK, Nat.reduceBEq, Nat.reduceLT]
      (repeat ((with_reducible refine And.intro ?_ ?_); (focus (exact zS))))
      refine GdD.mk _ (fun hg => by simp only [sxu, ↓exP, hg]; first | exact max2_c _ _ | exact ⟨max2_c _ _, rfl, rfl⟩ | exact ⟨max2_c _ _, trivial⟩ | exact ⟨max2_c _ _, trivial, trivial⟩) ?_
      simp only [↓sxd, sxu, ↓zC, zK, Nat.reduceBEq, Nat.reduceLT]
      (repeat ((with_reducible refine And.intro ?_ ?_); (focus (exact zS))))
      refine GdD.mk _ (fun hg => by simp only [sxu, ↓exP, ↓exq, ↓zA, Nat.reduceBEq, Nat.reduceEqDiff, z8, hg]; (all_goals try exact zF)) ?_
      simp only [↓sxd, sxu, ↓zC, zK, Nat.reduceBEq, Nat.reduceLT]
      (repeat ((with_reducible refine And.intro ?_ ?_); (focus (exact zS))))
      refine GdD.mk _ (fun hg => by simp only [sxu, ↓exP, ↓exq, ↓zA, Nat.reduceAdd, Nat.reduceEqDiff, z8, hg]; (all_goals try exact zF)) ?_
      simp only [↓sxd, sxu, ↓zC, zK, Nat.reduceBEq, Nat.reduceLT]
      (repeat ((with_reducible refine And.intro ?_ ?_); (focus (exact zS))))
      refine GdD.mk _ (fun hg => by simp only [sxu, ↓exP, ↓exq, ↓zD, Nat.reduceBEq, Nat.reduceAdd, Nat.reduceLT, z8, hg]; (all_goals try exact zF)) ?_
      simp only [↓sxd, sxu, ↓zC, zK, Nat.reduceBEq, Nat.reduceLT]
      (repeat ((with_reducible refine And.intro ?_ ?_); (focus (exact zS))))
      refine GdD.mk _ (fun hg => by simp only [sxu, ↓exP, ↓exq, ↓zA, Nat.reduceBEq, Nat.reduceEqDiff, z8, hg]; (all_goals try exact zF)) ?_
      simp only [↓sxd, sxu, ↓zC, zK, Nat.reduceBEq, Nat.reduceLT]
      (repeat ((with_reducible refine And.intro ?_ ?_); (focus (exact zS))))
      refine GdD.mk _ (fun hg => by simp only [sxu, ↓exP, ↓exq, ↓zA, Nat.reduceAdd, Nat.reduceEqDiff, z8, hg]; (all_goals try exact zF)) ?_
      simp only [↓sxd, sxu, ↓zC, zK, Nat.reduceBEq, Nat.reduceLT]
      (repeat ((with_reducible refine And.intro ?_ ?_); (focus (exact zS))))
      refine GdD.mk _ (fun hg => by simp only [sxu, ↓exP, ↓exq, ↓zD, Nat.reduceAdd, Nat.reduceLT, z8, hg]; (all_goals try exact zF)) ?_
      simp only [↓sxd, sxu, ↓zC, zK, Nat.reduceBEq, Nat.reduceLT]
      (repeat ((with_reducible refine And.intro ?_ ?_); (focus (exact zS))))
      refine GdD.mk _ (fun hg => by simp only [sxu, ↓exP, ↓exq, ↓zG, Nat.reduceBEq, Nat.reduceLeDiff, Nat.reduceEqDiff, z8, hg]; (all_goals try exact zF)) ?_
      simp only [↓sxd, sxu, ↓zC, zK, Nat.reduceBEq, Nat.reduceLT]
      (repeat ((with_reducible refine And.intro ?_ ?_); (focus (exact zS))))
      refine GdD.mk _ (fun hg => by simp only [sxu, ↓exP, hg]; first | exact min2_c _ _ | exact ⟨min2_c _ _, rfl, rfl⟩ | exact ⟨min2_c _ _, trivial⟩ | exact ⟨min2_c _ _, trivial, trivial⟩) ?_
      simp only [↓sxd, sxu, ↓zC, zK, Nat.reduceBEq, Nat.reduceLT]
      (repeat ((with_reducible refine And.intro ?_ ?_); (focus (exact zS))))
      refine GdD.mk _ (fun hg => by simp only [↓sxd, sxu, ↓exP, ↓exq, Nat.reduceBEq, hg]; (all_goals try exact zF)) ?_
      simp only [↓sxd, sxu, ↓zC, zK, ↓exq, ↓zH, Nat.reduceBEq, Nat.reduceLT]
      (all_goals try exact zF)) ?_
  refine Tr.ret ?_
  (refine ⟨.inr rfl, ?_⟩; first | rfl | exact ⟨rfl, rfl, trivial⟩ | exact ⟨rfl, rfl, rfl, trivial⟩ | (simp only [Res, ResL, ResOK, ↓sxd, sxu, ↓zE, ↓zC, zK, ↓exP, ↓exq, ↓zB, ↓zH, ↓zL, ↓zD, ↓zI, ↓zG, ↓zA, Nat.reduceBEq, Nat.reduceAdd, Nat.reduceLT, Nat.reduceMul, Nat.reduceSub, Nat.reduceLeDiff, Nat.reduceEqDiff, Int.reduceLE, Int.reduceLT, Int.reduceToNat, reduceIte, sxe, z8]; (repeat' (first | rfl | exact trivial | exact fun h => h | exact fun h => (by rw [h]; rfl) | apply And.intro | omega | exact Nat.le_of_ble_eq_true rfl))))
def Census.check (c : Census) : Int :=
  if decide ((c.entries.length : Int) > 10) || decide ((c.same.length : Int) > 6) || decide ((c.apart.length : Int) > 6) then 3
  else if !(c.entries.all Entry.valid) || !(c.same.all c.pair) || !(c.apart.all c.pair) || !(c.omitted.valid 100) || !(c.number.valid 200) then 1 else 0
abbrev yD := And.intro ty.sz0 <| And.intro ty.agg0 <| And.intro ty.elem0 <| And.intro ty.sz3 <| And.intro ty.agg3 <| And.intro ty.elem3 <| And.intro ty.zero3 <| And.intro ty.und3 <| And.intro ty.sz4 <| And.intro ty.agg4 <| And.intro ty.elem4 <| And.intro ty.zero4 <| And.intro ty.und4 <| And.intro ty.sz30 <| And.intro ty.agg30 <| And.intro ty.fld30_0 <| And.intro ty.fld30_1 <| And.intro ty.elem30 <| And.intro ty.zero30 <| And.intro ty.pl30 <| And.intro ty.sz31 <| And.intro ty.agg31 <| And.intro ty.elem31 <| And.intro ty.zero31 <| And.intro ty.und31 <| And.intro ty.sz34 <| And.intro ty.agg34 <| And.intro ty.elem34 <| And.intro ty.by34 <| And.intro ty.ez34 <| And.intro ty.zero34 <| And.intro ty.und34 <| And.intro ty.sz35 <| And.intro ty.agg35 <| And.intro ty.elem35 <| And.intro ty.by35 <| And.intro ty.ez35 <| And.intro ty.zero35 <| And.intro ty.und35 <| And.intro ty.sz37 <| And.intro ty.agg37 <| And.intro ty.fld37_0 <| And.intro ty.fld37_1 <| And.intro ty.fld37_2 <| And.intro ty.fld37_3 <| And.intro ty.fld37_4 <| And.intro ty.elem37 <| And.intro ty.zero37 <| And.intro ty.pl37 <| And.intro ty.sz138 <| And.intro ty.agg138 <| And.intro ty.elem138 <| ty.zero138
theorem checkCensus_c (c : Census) (h1 : c.entries.length < 4611686018427387904) (h2 : c.same.length < 4611686018427387904) (h3 : c.apart.length < 4611686018427387904) : CallP Tryd.prog G0 48 [c.s] (I c.check) := by
  refine CallP.body 54 [.tmp 2] Tryd.func48 (by kernel_rfl) rfl rfl rfl zP zP ?_
  refine Tr.reg [1] (by
      simp only [↓sxd, sxu, ↓zE, ↓exq, ↓zI, Nat.reduceBEq, Nat.reduceAdd, Nat.reduceLT, Nat.reduceEqDiff]
      (all_goals try exact zF)) ?_
  refine Tr.reg [1, 3] (by
      simp only [↓sxd, sxu, ↓zE, ↓exq, ↓zD, Nat.reduceBEq, Nat.reduceAdd, Nat.reduceLT, yD]
      (all_goals try exact zF)) ?_
  refine Tr.seq ?_
  refine Tr.block ?_
  refine Tr.reg [1, 3, 6] (by
      simp only [↓sxd, sxu, ↓zE, ↓exq, ↓zB, ↓zJ, ↓zD, ↓zA, Nat.reduceAdd, Nat.reduceLT, Nat.reduceEqDiff, sxe, yD]
      (repeat ((with_reducible refine And.intro ?_ ?_); (focus (exact zS))))
      refine GdO.mk _ (fun hg => by simp only [sxu, ↓exq, ↓zA, Nat.reduceBEq, Nat.reduceEqDiff, yD]; (all_goals try exact zF)) ?_
      simp only [↓sxd, sxu, ↓zE, Nat.reduceBEq, Nat.reduceLT]
      (repeat ((with_reducible refine And.intro ?_ ?_); (focus (exact zS))))
      refine GdO.mk _ (fun hg => by simp only [sxu, ↓exq, ↓zD, Nat.reduceAdd, Nat.reduceLT, yD, hg]; (all_goals try exact zF)) ?_
      simp only [↓sxd, sxu, ↓zE, Nat.reduceBEq, Nat.reduceLT]
      (repeat ((with_reducible refine And.intro ?_ ?_); (focus (exact zS))))
      refine GdO.mk _ (fun hg => by simp only [sxu, ↓exq, ↓zB, ↓zJ, sxe, yD, hg]; (all_goals try exact zF)) ?_
      simp only [↓sxd, sxu, ↓zE, Nat.reduceBEq, Nat.reduceLT]
      (repeat ((with_reducible refine And.intro ?_ ?_); (focus (exact zS))))
      refine GdO.mk _ (fun hg => by simp only [↓sxd, sxu, ↓exq, hg]; (all_goals try exact zF)) ?_
      simp only [↓sxd, sxu, ↓zE, ↓exq, ↓zH, Nat.reduceBEq, Nat.reduceLT]
      (repeat ((with_reducible refine And.intro ?_ ?_); (focus (exact zS))))
      refine GdO.mk _ (fun hg => by simp only [sxu, ↓exq, ↓zA, Nat.reduceBEq, Nat.reduceEqDiff, yD]; (all_goals try exact zF)) ?_
      simp only [↓sxd, sxu, ↓zE, Nat.reduceBEq, Nat.reduceLT]
      (repeat ((with_reducible refine And.intro ?_ ?_); (focus (exact zS))))
      refine GdO.mk _ (fun hg => by simp only [sxu, ↓exq, ↓zD, Nat.reduceAdd, Nat.reduceLT, yD, hg]; (all_goals try exact zF)) ?_
      simp only [↓sxd, sxu, ↓zE, Nat.reduceBEq, Nat.reduceLT]
      (repeat ((with_reducible refine And.intro ?_ ?_); (focus (exact zS))))
      refine GdO.mk _ (fun hg => by simp only [sxu, ↓exq, ↓zB, ↓zJ, sxe, yD, hg]; (all_goals try exact zF)) ?_
      simp only [↓sxd, sxu, ↓zE, Nat.reduceBEq, Nat.reduceLT]
      (repeat ((with_reducible refine And.intro ?_ ?_); (focus (exact zS))))
      refine GdO.mk _ (fun hg => by simp only [↓sxd, sxu, ↓exq, hg]; (all_goals try exact zF)) ?_
      simp only [↓sxd, sxu, ↓zE, ↓exq, ↓zH, Nat.reduceBEq, Nat.reduceLT]
      (all_goals try exact zF)) ?_
  refine Tr.cond rfl (fun h6 => ?_) (fun h6 => ?_)
  · refine Tr.reg [2] (by
        simp only [↓sxd, sxu, ↓zE, ↓exq, Nat.reduceLT]
        (all_goals try exact zF)) ?_
    refine Tr.ret ?_
    exact ⟨.inr rfl, congrArg (fun n => some (I n)) (by unfold Census.check; rw [if_pos h6])⟩
  · refine Tr.reg [23] (by
        simp only [↓sxd, sxu, ↓zE, ↓exq, ↓zD, ↓zA, Nat.reduceAdd, Nat.reduceLT, Nat.reduceEqDiff, yD]
        (repeat ((with_reducible refine And.intro ?_ ?_); (focus (exact zS))))
        refine CallO.use (allE_c Entry.valid c.entries h1 84 [] [] fa_nil fa_nil (fun x _ => Evalid_c _ x)) ?_
        try simp only [↓sxd, sxu, ↓zE, ↓exq, ↓zL, Nat.reduceLT]
        (repeat ((with_reducible refine And.intro ?_ ?_); (focus (exact zS))))
        refine GdO.mk _ (fun hg => by simp only [sxu, ↓exq, ↓zA, Nat.reduceBEq, Nat.reduceEqDiff, yD]; (all_goals try exact zF)) ?_
        simp only [↓sxd, sxu, ↓zE, Nat.reduceBEq, Nat.reduceLT]
        (repeat ((with_reducible refine And.intro ?_ ?_); (focus (exact zS))))
        refine GdO.mk _ (fun hg => by simp only [sxu, ↓exq, ↓zD, Nat.reduceAdd, Nat.reduceLT, yD, hg]; (all_goals try exact zF)) ?_
        simp only [↓sxd, sxu, ↓zE, Nat.reduceBEq, Nat.reduceLT]
        (repeat ((with_reducible refine And.intro ?_ ?_); (focus (exact zS))))
        refine GdO.mk _ (fun hg => by simp only [sxu, ↓exq, Nat.reduceBEq, hg]; (all_goals try exact zF)) ?_
        simp only [↓sxd, sxu, ↓zE, Nat.reduceBEq, Nat.reduceLT]
        (repeat ((with_reducible refine And.intro ?_ ?_); (focus (exact zS))))
        refine GdO.mk _ (fun hg => by simp only [sxu, ↓exq, ↓zB, Nat.reduceBEq, hg]; (repeat ((with_reducible refine And.intro ?_ ?_); (focus (exact zS)))); exact CallP.use (allP_c c.pair c.same h2 82 [c.s] [] zP fa_nil (fun x _ => pair_c _ c x h1)) ⟨rfl, rfl, rfl⟩) ?_
        simp only [↓sxd, sxu, ↓zE, Nat.reduceBEq, Nat.reduceLT]
        (repeat ((with_reducible refine And.intro ?_ ?_); (focus (exact zS))))
        refine GdO.mk _ (fun hg => by simp only [sxu, ↓exq, ↓zL, hg]; (all_goals try exact zF)) ?_
        simp only [↓sxd, sxu, ↓zE, ↓exq, ↓zH, Nat.reduceBEq, Nat.reduceLT]
        (repeat ((with_reducible refine And.intro ?_ ?_); (focus (exact zS))))
        refine GdO.mk _ (fun hg => by simp only [sxu, ↓exq, ↓zA, Nat.reduceBEq, Nat.reduceEqDiff, yD]; (all_goals try exact zF)) ?_
        simp only [↓sxd, sxu, ↓zE, Nat.reduceBEq, Nat.reduceLT]
        (repeat ((with_reducible refine And.intro ?_ ?_); (focus (exact zS))))
        refine GdO.mk _ (fun hg => by simp only [sxu, ↓exq, ↓zD, Nat.reduceAdd, Nat.reduceLT, yD, hg]; (all_goals try exact zF)) ?_
        simp only [↓sxd, sxu, ↓zE, Nat.reduceBEq, Nat.reduceLT]
        (repeat ((with_reducible refine And.intro ?_ ?_); (focus (exact zS))))
        refine GdO.mk _ (fun hg => by simp only [sxu, ↓exq, Nat.reduceBEq, hg]; (all_goals try exact zF)) ?_
        simp only [↓sxd, sxu, ↓zE, Nat.reduceBEq, Nat.reduceLT]
        (repeat ((with_reducible refine And.intro ?_ ?_); (focus (exact zS))))
        refine GdO.mk _ (fun hg => by simp only [sxu, ↓exq, ↓zB, Nat.reduceBEq, hg]; (repeat ((with_reducible refine And.intro ?_ ?_); (focus (exact zS)))); exact CallP.use (allP_c c.pair c.apart h3 82 [c.s] [] zP fa_nil (fun x _ => pair_c _ c x h1)) ⟨rfl, rfl, rfl⟩) ?_
        simp only [↓sxd, sxu, ↓zE, Nat.reduceBEq, Nat.reduceLT]
        (repeat ((with_reducible refine And.intro ?_ ?_); (focus (exact zS))))
        refine GdO.mk _ (fun hg => by simp only [sxu, ↓exq, ↓zL, hg]; (all_goals try exact zF)) ?_
        simp only [↓sxd, sxu, ↓zE, ↓exq, ↓zH, Nat.reduceBEq, Nat.reduceLT]
        (repeat ((with_reducible refine And.intro ?_ ?_); (focus (exact zS))))
        refine GdO.mk _ (fun hg => by simp only [sxu, ↓exq, ↓zA, Nat.reduceBEq, Nat.reduceEqDiff, yD]; (all_goals try exact zF)) ?_
        simp only [↓sxd, sxu, ↓zE, Nat.reduceBEq, Nat.reduceLT]
        (repeat ((with_reducible refine And.intro ?_ ?_); (focus (exact zS))))
        refine GdO.mk _ (fun hg => by simp only [sxu, ↓exq, ↓zD, Nat.reduceAdd, Nat.reduceLT, Nat.reduceLeDiff, yD, hg]; (all_goals try exact zF)) ?_
        simp only [↓sxd, sxu, ↓zE, Nat.reduceBEq, Nat.reduceLT]
        (repeat ((with_reducible refine And.intro ?_ ?_); (focus (exact zS))))
        refine GdO.mk _ (fun hg => by simp only [sxu, ↓exq, ↓zB, hg]; (repeat ((with_reducible refine And.intro ?_ ?_); (focus (exact zS)))); exact CallP.use (Rvalid_c _ c.omitted _) ⟨rfl, rfl, rfl⟩) ?_
        simp only [↓sxd, sxu, ↓zE, Nat.reduceBEq, Nat.reduceLT]
        (repeat ((with_reducible refine And.intro ?_ ?_); (focus (exact zS))))
        refine GdO.mk _ (fun hg => by simp only [sxu, ↓exq, ↓zL, hg]; (all_goals try exact zF)) ?_
        simp only [↓sxd, sxu, ↓zE, ↓exq, ↓zH, Nat.reduceBEq, Nat.reduceLT]
        (repeat ((with_reducible refine And.intro ?_ ?_); (focus (exact zS))))
        refine GdO.mk _ (fun hg => by simp only [sxu, ↓exq, ↓zA, Nat.reduceBEq, Nat.reduceEqDiff, yD]; (all_goals try exact zF)) ?_
        simp only [↓sxd, sxu, ↓zE, Nat.reduceBEq, Nat.reduceLT]
        (repeat ((with_reducible refine And.intro ?_ ?_); (focus (exact zS))))
        refine GdO.mk _ (fun hg => by simp only [sxu, ↓exq, ↓zD, Nat.reduceAdd, Nat.reduceLT, yD, hg]; (all_goals try exact zF)) ?_
        simp only [↓sxd, sxu, ↓zE, Nat.reduceBEq, Nat.reduceLT]
        (repeat ((with_reducible refine And.intro ?_ ?_); (focus (exact zS))))
        refine GdO.mk _ (fun hg => by simp only [sxu, ↓exq, ↓zB, hg]; (repeat ((with_reducible refine And.intro ?_ ?_); (focus (exact zS)))); exact CallP.use (Rvalid_c _ c.number _) ⟨rfl, rfl, rfl⟩) ?_
        simp only [↓sxd, sxu, ↓zE, Nat.reduceBEq, Nat.reduceLT]
        (repeat ((with_reducible refine And.intro ?_ ?_); (focus (exact zS))))
        refine GdO.mk _ (fun hg => by simp only [sxu, ↓exq, ↓zL, hg]; (all_goals try exact zF)) ?_
        simp only [↓sxd, sxu, ↓zE, ↓exq, ↓zH, Nat.reduceBEq, Nat.reduceLT]
        (all_goals try exact zF)) ?_
    refine Tr.cond rfl (fun h23 => ?_) (fun h23 => ?_)
    · refine Tr.reg [2] (by
          simp only [↓sxd, sxu, ↓zE, ↓exq, Nat.reduceLT]
          (all_goals try exact zF)) ?_
      refine Tr.ret ?_
      exact ⟨.inr rfl, congrArg (fun n => some (I n)) (by unfold Census.check; rw [if_neg (by rw [h6]; decide), if_pos h23])⟩
    · refine Tr.skip ?_
      refine Tr.reg [2] (by
          simp only [↓sxd, sxu, ↓zE, ↓exq, Nat.reduceLT]
          (all_goals try exact zF)) ?_
      refine Tr.ret ?_
      exact ⟨.inr rfl, congrArg (fun n => some (I n)) (by unfold Census.check; rw [if_neg (by rw [h6]; decide), if_neg (by rw [h23]; decide)])⟩
abbrev uD := And.intro ty.sz3 <| And.intro ty.agg3 <| And.intro ty.elem3 <| And.intro ty.zero3 <| And.intro ty.und3 <| And.intro ty.sz4 <| And.intro ty.agg4 <| And.intro ty.elem4 <| And.intro ty.zero4 <| And.intro ty.und4 <| And.intro ty.sz43 <| And.intro ty.agg43 <| And.intro ty.elem43 <| And.intro ty.by43 <| And.intro ty.ez43 <| And.intro ty.zero43 <| ty.und43
theorem checkCoding1_c (l : List Int) : CallP Tryd.prog G0 78 [SI l] (B (decide ((l.length : Int) ≤ 10))) := by
  refine CallP.body 6 [.tmp 2] Tryd.func78 (by kernel_rfl) rfl rfl rfl zP zP ?_
  refine Tr.reg [0] (by
      simp only [↓sxd, sxu, ↓zE, ↓exq, Nat.reduceBEq, Nat.reduceLT]
      (all_goals try exact zF)) ?_
  refine Tr.reg [2] (by
      simp only [↓sxd, sxu, ↓zE, ↓exq, ↓zB, ↓zJ, Nat.reduceLT, sxe, uD]
      (all_goals try exact zF)) ?_
  refine Tr.ret ?_
  (refine ⟨.inr rfl, ?_⟩; first | rfl | exact ⟨rfl, rfl, trivial⟩ | exact ⟨rfl, rfl, rfl, trivial⟩ | (simp only [Res, ResL, ResOK, ↓sxd, sxu, ↓zE, ↓zC, zK, ↓exP, ↓exq, ↓zB, ↓zL, ↓zJ, Nat.reduceBEq, Nat.reduceAdd, Nat.reduceLT, Nat.reduceMul, Nat.reduceSub, Nat.reduceLeDiff, Nat.reduceEqDiff, Int.reduceLE, Int.reduceLT, Int.reduceToNat, reduceIte, sxe, uD]; (repeat' (first | rfl | exact trivial | exact fun h => h | exact fun h => (by rw [h]; rfl) | apply And.intro | omega | exact Nat.le_of_ble_eq_true rfl))))
end Go.Proofs.YtcnkbdfkjhlbiaaDoor
