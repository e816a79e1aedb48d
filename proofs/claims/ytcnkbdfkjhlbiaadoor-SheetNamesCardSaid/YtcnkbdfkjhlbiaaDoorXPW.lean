/- Lemmas, part XPW. Conditions: none. -/
import Derived.Test.YtcnkbdfkjhlbiaaDoorXPV
set_option linter.unusedVariables false
namespace Go.Proofs.YtcnkbdfkjhlbiaaDoor
open Go.Sy
set_option maxRecDepth 8000
theorem list_ext {a b : List Int} (h : a.length = b.length) (h2 : ∀ j, j < a.length → a.getD j 0 = b.getD j 0) : a = b := by
  refine List.ext_getElem h fun i h1 h3 => ?_
  have := h2 i h1
  simpa [List.getD_eq_getElem?_getD, h1, h3] using this
abbrev yV := And.intro ty.sz0 <| And.intro ty.agg0 <| And.intro ty.elem0 <| And.intro ty.sz3 <| And.intro ty.agg3 <| And.intro ty.elem3 <| And.intro ty.zero3 <| And.intro ty.und3 <| And.intro ty.sz4 <| And.intro ty.agg4 <| And.intro ty.elem4 <| And.intro ty.zero4 <| And.intro ty.und4 <| And.intro ty.sz43 <| And.intro ty.agg43 <| And.intro ty.elem43 <| And.intro ty.by43 <| And.intro ty.ez43 <| And.intro ty.zero43 <| ty.und43
theorem ints_c (a b : List Int) (ha : a.length < 4611686018427387904) (hb : b.length < 4611686018427387904) : CallP Tryd.prog G0 34 [SI a, SI b] (B (decide (a = b))) := by
  refine CallP.body 26 [.tmp 4] Tryd.func34 (by kernel_rfl) rfl rfl rfl zP zP ?_
  refine Tr.reg [0, 1] (by
      simp only [↓sxd, sxu, ↓zE, ↓exq, Nat.reduceBEq, Nat.reduceAdd, Nat.reduceLT]
      (all_goals try exact zF)) ?_
  refine Tr.seq ?_
  refine Tr.reg [0, 1, 10] (by
      simp only [↓sxd, sxu, ↓zE, ↓exq, ↓zB, ↓zJ, Nat.reduceBEq, Nat.reduceLT, sxe, yV]
      (all_goals try exact zF)) ?_
  refine Tr.cond rfl (fun h10 => ?_) (fun h10 => ?_)
  · have hne : a ≠ b := fun h => by rw [h] at h10; simp at h10
    rw [decide_eq_false hne]
    refine Tr.reg [4] (by
        simp only [↓sxd, sxu, ↓zE, ↓exq, Nat.reduceLT]
        (all_goals try exact zF)) ?_
    refine Tr.ret ?_
    (refine ⟨.inr rfl, ?_⟩; first | rfl | exact ⟨rfl, rfl, trivial⟩ | exact ⟨rfl, rfl, rfl, trivial⟩ | (simp only [Res, ResL, ResOK, ↓sxd, sxu, ↓zE, ↓zC, zK, ↓exP, ↓exq, ↓zB, ↓zL, ↓zJ, ↓zD, Nat.reduceBEq, Nat.reduceAdd, Nat.reduceLT, Nat.reduceMul, Nat.reduceSub, Nat.reduceLeDiff, Nat.reduceEqDiff, Int.reduceLE, Int.reduceLT, Int.reduceToNat, reduceIte, sxe, yV]; (repeat' (first | rfl | exact trivial | exact fun h => h | exact fun h => (by rw [h]; rfl) | apply And.intro | omega | exact Nat.le_of_ble_eq_true rfl))))
  · have hlen : a.length = b.length := by simp at h10; omega
    refine Tr.skip ?_
    refine Tr.seq ?_
    refine Tr.reg [0, 1, 5] (by
        simp only [↓sxd, sxu, ↓zE, ↓exq, Nat.reduceBEq, Nat.reduceLT]
        (all_goals try exact zF)) ?_
    refine Tr.imp (st' := ⟨[(0, SI a), (1, SI b), (5, I 0)], [], 0, 26, [], 0⟩) (Imp.keepAll) (Tr.block (Tr.loopI (fun mm ss => ∃ (i : Nat), (i ≤ a.length ∧ ∀ j, j < i → a.getD j 0 = b.getD j 0) ∧ a.length - i = mm ∧ ss = ⟨[(0, SI a), (1, SI b), (5, I i)], [], 0, 26, [], 0⟩) _ ⟨0, ?_, rfl, rfl⟩ ?_))
    · exact ⟨Nat.zero_le _, fun j hj => absurd hj (Nat.not_lt_zero _)⟩
    rintro mm ss ⟨i, hI, rfl, rfl⟩
    obtain ⟨hI, heq⟩ := hI
    refine Tr.seq ?_
    refine Tr.reg [0, 1, 5, 14] (by
        simp only [↓sxd, sxu, ↓zE, ↓exq, ↓zB, ↓zJ, Nat.reduceBEq, Nat.reduceLT, sxe, yV]
        (all_goals try exact zF)) ?_
    refine Tr.cond rfl (fun h14 => ?_) (fun h14 => ?_)
    · have hlt : i < a.length := by simpa using h14
      have hlt2 : i < b.length := by omega
      refine Tr.skip ?_
      refine Tr.seq ?_
      refine Tr.block ?_
      refine Tr.regD [0, 1, 2, 3, 4, 5, 6, 7, 8] [] [] [0, 1, 5, 25] mix (by kernel_rfl) (by
          simp only [↓sxd, sxu, ↓zC, zK, ↓exq, ↓zD, Nat.reduceBEq, Nat.reduceLT, sxe, yV, hlt, hlt2]
          (all_goals try exact zF)) ?_
      refine Tr.cond rfl (fun h25 => ?_) (fun h25 => ?_)
      · have hne : a ≠ b := fun h => by rw [h] at h25; simp at h25
        rw [decide_eq_false hne]
        refine Tr.reg [4] (by
            simp only [↓sxd, sxu, ↓zE, ↓exq, Nat.reduceLT]
            (all_goals try exact zF)) ?_
        refine Tr.ret ?_
        (refine ⟨.inr rfl, ?_⟩; first | rfl | exact ⟨rfl, rfl, trivial⟩ | exact ⟨rfl, rfl, rfl, trivial⟩ | (simp only [Res, ResL, ResOK, ↓sxd, sxu, ↓zE, ↓zC, zK, ↓exP, ↓exq, ↓zB, ↓zL, ↓zJ, ↓zD, Nat.reduceBEq, Nat.reduceAdd, Nat.reduceLT, Nat.reduceMul, Nat.reduceSub, Nat.reduceLeDiff, Nat.reduceEqDiff, Int.reduceLE, Int.reduceLT, Int.reduceToNat, reduceIte, sxe, yV]; (repeat' (first | rfl | exact trivial | exact fun h => h | exact fun h => (by rw [h]; rfl) | apply And.intro | omega | exact Nat.le_of_ble_eq_true rfl))))
      · have he : a.getD i 0 = b.getD i 0 := by simpa using h25
        refine Tr.skip ?_
        have w1 : IntKind.i64.wrap ((i : Int) + 1) = ((i + 1 : Nat) : Int) := by rw [wr (by omega) (by omega)]; rfl
        refine Tr.reg1 [0, 1, 5] (by
            simp only [↓sxd, sxu, ↓zE, ↓exq, Nat.reduceBEq, Nat.reduceLT, w1]
            (all_goals try exact zF)) ?_
        exact ⟨_, _, by omega, Imp.keepAll, ⟨i + 1, ⟨hlt, fun j hj => by
          by_cases hji : j = i
          · subst hji; exact he
          · exact heq j (by omega)⟩, rfl, rfl⟩⟩
    · have hge : i = a.length := by simp at h14; omega
      subst hge
      rw [decide_eq_true (list_ext hlen heq)]
      refine Tr.exit ?_
      refine Tr.reg [4] (by
          simp only [↓sxd, sxu, ↓zE, ↓exq, Nat.reduceLT]
          (all_goals try exact zF)) ?_
      refine Tr.ret ?_
      (refine ⟨.inr rfl, ?_⟩; first | rfl | exact ⟨rfl, rfl, trivial⟩ | exact ⟨rfl, rfl, rfl, trivial⟩ | (simp only [Res, ResL, ResOK, ↓sxd, sxu, ↓zE, ↓zC, zK, ↓exP, ↓exq, ↓zB, ↓zL, ↓zJ, ↓zD, Nat.reduceBEq, Nat.reduceAdd, Nat.reduceLT, Nat.reduceMul, Nat.reduceSub, Nat.reduceLeDiff, Nat.reduceEqDiff, Int.reduceLE, Int.reduceLT, Int.reduceToNat, reduceIte, sxe, yV]; (repeat' (first | rfl | exact trivial | exact fun h => h | exact fun h => (by rw [h]; rfl) | apply And.intro | omega | exact Nat.le_of_ble_eq_true rfl))))
theorem pair_cond (c : Census) (p : Pair) : ((!(decide (p.fst ≥ 0) && decide (p.fst ≤ (c.entries.length : Int) - 1)) || !(decide (p.snd ≥ 0) && decide (p.snd ≤ (c.entries.length : Int) - 1))) || (p.fst == p.snd)) = !(c.pair p) := by
  unfold Census.pair within
  simp only [ge_iff_le, Bool.not_and, bne, Bool.not_not]
abbrev yI := And.intro ty.sz0 <| And.intro ty.agg0 <| And.intro ty.elem0 <| And.intro ty.sz3 <| And.intro ty.agg3 <| And.intro ty.elem3 <| And.intro ty.zero3 <| And.intro ty.und3 <| And.intro ty.sz4 <| And.intro ty.agg4 <| And.intro ty.elem4 <| And.intro ty.zero4 <| And.intro ty.und4 <| And.intro ty.sz22 <| And.intro ty.agg22 <| And.intro ty.elem22 <| And.intro ty.by22 <| And.intro ty.ez22 <| And.intro ty.zero22 <| And.intro ty.und22 <| And.intro ty.sz23 <| And.intro ty.agg23 <| And.intro ty.elem23 <| And.intro ty.by23 <| And.intro ty.ez23 <| And.intro ty.zero23 <| And.intro ty.und23 <| And.intro ty.sz27 <| And.intro ty.agg27 <| And.intro ty.fld27_0 <| And.intro ty.fld27_1 <| And.intro ty.fld27_2 <| And.intro ty.fld27_3 <| And.intro ty.fld27_4 <| And.intro ty.elem27 <| And.intro ty.zero27 <| And.intro ty.pl27 <| And.intro ty.sz73 <| And.intro ty.agg73 <| And.intro ty.fld73_0 <| And.intro ty.fld73_1 <| And.intro ty.elem73 <| And.intro ty.zero73 <| ty.pl73
theorem rpairs_c (c : Census) (l : List Pair) (hc : c.entries.length < 4611686018427387904) (hl : l.length < 4611686018427387904) : CallP Tryd.prog G0 97 [c.s, SP l] (B (l.all c.pair)) := by
  have w0 : IntKind.i64.wrap ((c.entries.length : Int) - 1) = (c.entries.length : Int) - 1 := wr (by omega) (by omega)
  refine CallP.body 48 [.tmp 4] Tryd.func97 (by kernel_rfl) rfl rfl rfl zP zP ?_
  refine Tr.reg [1, 2] (by
      simp only [↓sxd, sxu, ↓zE, ↓exq, ↓zI, Nat.reduceBEq, Nat.reduceAdd, Nat.reduceLT, Nat.reduceEqDiff]
      (all_goals try exact zF)) ?_
  refine Tr.reg [1, 5] (by
      simp only [↓sxd, sxu, ↓zE, ↓exq, ↓zB, ↓zJ, ↓zD, ↓zA, Nat.reduceBEq, Nat.reduceAdd, Nat.reduceLT, Nat.reduceEqDiff, sxe, yI, w0]
      (all_goals try exact zF)) ?_
  refine Tr.seq ?_
  refine Tr.reg [1, 5, 6] (by
      simp only [↓sxd, sxu, ↓zE, ↓exq, Nat.reduceBEq, Nat.reduceLT]
      (all_goals try exact zF)) ?_
  refine Tr.imp (st' := ⟨[(1, SP l), (5, I ((c.entries.length : Int) - 1)), (6, I 0)], [(0, .arr 7 [[SE c.entries, SP c.same, SP c.apart, I c.omitted.lo, I c.omitted.hi, I c.number.lo, I c.number.hi]])], 1, 48, [], 0⟩) (Imp.keepAll) (Tr.block (Tr.loopI (fun mm ss => ∃ (i : Nat), (i ≤ l.length ∧ ∀ j, j < i → c.pair (l.getD j default) = true) ∧ l.length - i = mm ∧ ss = ⟨[(1, SP l), (5, I ((c.entries.length : Int) - 1)), (6, I i)], [(0, .arr 7 [[SE c.entries, SP c.same, SP c.apart, I c.omitted.lo, I c.omitted.hi, I c.number.lo, I c.number.hi]])], 1, 48, [], 0⟩) _ ⟨0, ?_, rfl, rfl⟩ ?_))
  · exact ⟨Nat.zero_le _, fun j hj => absurd hj (Nat.not_lt_zero _)⟩
  rintro mm ss ⟨i, hI, rfl, rfl⟩
  obtain ⟨hI, hall⟩ := hI
  refine Tr.seq ?_
  refine Tr.reg [1, 5, 6, 14] (by
      simp only [↓sxd, sxu, ↓zE, ↓exq, ↓zB, ↓zJ, Nat.reduceBEq, Nat.reduceLT, sxe, yI]
      (all_goals try exact zF)) ?_
  refine Tr.cond rfl (fun h14 => ?_) (fun h14 => ?_)
  · have hlt : i < l.length := by simpa using h14
    refine Tr.skip ?_
    refine Tr.seq ?_
    refine Tr.block ?_
    refine Tr.regD [0, 1, 2, 3, 4, 5, 6, 7, 8, 9, 10, 11, 12, 13, 14, 15, 16, 17, 18, 19, 20, 21, 22, 23, 24, 25, 26, 27, 28, 29, 30] [] [] [1, 5, 6, 47] mix (by kernel_rfl) (by
        simp only [↓sxd, sxu, ↓zC, zK, ↓exq, ↓zD, ↓zA, Nat.reduceBEq, Nat.reduceAdd, Nat.reduceLT, Nat.reduceEqDiff, sxe, yI, hlt]
        (repeat ((with_reducible refine And.intro ?_ ?_); (focus (exact zS))))
        refine CallD.use (In_c _ _ _ _) ?_
        try simp only [↓sxd, sxu, ↓zC, zK, ↓exq, ↓zL, Nat.reduceLT]
        iterate 6
          (repeat ((with_reducible refine And.intro ?_ ?_); (focus (exact zS))))
          refine GdD.mk _ (fun hg => by simp only [↓sxd, sxu, ↓exP, ↓exq, ↓zD, ↓zA, Nat.reduceBEq, Nat.reduceAdd, Nat.reduceLT, Nat.reduceEqDiff, sxe, yI, hlt, hg]; (all_goals try exact zF)) ?_
          simp only [↓sxd, sxu, ↓zC, zK, Nat.reduceBEq, Nat.reduceLT]
        (repeat ((with_reducible refine And.intro ?_ ?_); (focus (exact zS))))
        refine GdD.mk _ (fun hg => by simp only [sxu, ↓exP, Nat.reduceBEq, hg]; first | exact In_c _ _ _ _ | exact ⟨In_c _ _ _ _, rfl, rfl⟩ | exact ⟨In_c _ _ _ _, trivial⟩ | exact ⟨In_c _ _ _ _, trivial, trivial⟩) ?_
        simp only [↓sxd, sxu, ↓zC, zK, Nat.reduceBEq, Nat.reduceLT]
        iterate 12
          (repeat ((with_reducible refine And.intro ?_ ?_); (focus (exact zS))))
          refine GdD.mk _ (fun hg => by simp only [↓sxd, sxu, ↓exP, ↓exq, ↓zL, ↓zD, ↓zA, Nat.reduceBEq, Nat.reduceAdd, Nat.reduceLT, Nat.reduceEqDiff, sxe, yI, hlt, hg]; (all_goals try exact zF)) ?_
          simp only [↓sxd, sxu, ↓zC, zK, ↓exq, ↓zH, Nat.reduceBEq, Nat.reduceLT]
        (all_goals try exact zF)) ?_
    refine Tr.cond rfl (fun h47 => ?_) (fun h47 => ?_)
    · have hf : c.pair (l.getD i default) = false := by
        have : _ := h47
        rw [pair_cond] at this
        simpa using this
      have hr : l.all c.pair = false := by
        rw [← Bool.not_eq_true, List.all_eq_true]
        intro h
        rw [h _ (getD_mem hlt)] at hf; cases hf
      rw [hr]
      refine Tr.reg [4] (by
          simp only [↓sxd, sxu, ↓zE, ↓exq, Nat.reduceLT]
          (all_goals try exact zF)) ?_
      refine Tr.ret ?_
      (refine ⟨.inr rfl, ?_⟩; first | rfl | exact ⟨rfl, rfl, trivial⟩ | exact ⟨rfl, rfl, rfl, trivial⟩ | (simp only [Res, ResL, ResOK, ↓sxd, sxu, ↓zE, ↓zC, zK, ↓exP, ↓exq, ↓zB, ↓zH, ↓zL, ↓zJ, ↓zD, ↓zI, ↓zA, Nat.reduceBEq, Nat.reduceAdd, Nat.reduceLT, Nat.reduceMul, Nat.reduceSub, Nat.reduceLeDiff, Nat.reduceEqDiff, Int.reduceLE, Int.reduceLT, Int.reduceToNat, reduceIte, sxe, yI]; (repeat' (first | rfl | exact trivial | exact fun h => h | exact fun h => (by rw [h]; rfl) | apply And.intro | omega | exact Nat.le_of_ble_eq_true rfl))))
    · have hf : c.pair (l.getD i default) = true := by
        have : _ := h47
        rw [pair_cond] at this
        simpa using this
      refine Tr.skip ?_
      have w1 : IntKind.i64.wrap ((i : Int) + 1) = ((i + 1 : Nat) : Int) := by rw [wr (by omega) (by omega)]; rfl
      refine Tr.reg1 [1, 5, 6] (by
          simp only [↓sxd, sxu, ↓zE, ↓exq, Nat.reduceBEq, Nat.reduceLT, w1]
          (all_goals try exact zF)) ?_
      exact ⟨_, _, by omega, Imp.keepAll, ⟨i + 1, ⟨hlt, fun j hj => by
        by_cases hji : j = i
        · subst hji; exact hf
        · exact hall j (by omega)⟩, rfl, rfl⟩⟩
  · have hge : i = l.length := by simp at h14; omega
    have hr : l.all c.pair = true := by
      rw [List.all_eq_true]
      intro x hx
      obtain ⟨j, hj, rfl⟩ := List.getElem_of_mem hx
      have := hall j (by omega)
      simpa [List.getD_eq_getElem?_getD, hj] using this
    rw [hr]
    refine Tr.exit ?_
    refine Tr.reg [4] (by
        simp only [↓sxd, sxu, ↓zE, ↓exq, Nat.reduceLT]
        (all_goals try exact zF)) ?_
    refine Tr.ret ?_
    (refine ⟨.inr rfl, ?_⟩; first | rfl | exact ⟨rfl, rfl, trivial⟩ | exact ⟨rfl, rfl, rfl, trivial⟩ | (simp only [Res, ResL, ResOK, ↓sxd, sxu, ↓zE, ↓zC, zK, ↓exP, ↓exq, ↓zB, ↓zH, ↓zL, ↓zJ, ↓zD, ↓zI, ↓zA, Nat.reduceBEq, Nat.reduceAdd, Nat.reduceLT, Nat.reduceMul, Nat.reduceSub, Nat.reduceLeDiff, Nat.reduceEqDiff, Int.reduceLE, Int.reduceLT, Int.reduceToNat, reduceIte, sxe, yI]; (repeat' (first | rfl | exact trivial | exact fun h => h | exact fun h => (by rw [h]; rfl) | apply And.intro | omega | exact Nat.le_of_ble_eq_true rfl))))
theorem span_valid (r : Rng) (h : Int) : r.span h = r.valid h := by
  unfold Rng.span Rng.valid
  simp only [ge_iff_le]
theorem entry_cond (e : Entry) : (((!(decide (e.sched ≥ 0) && decide (e.sched ≤ 9)) || !(decide (e.sex ≥ 0) && decide (e.sex ≤ 1))) || !(decide (e.key ≥ 0) && decide (e.key ≤ 99))) || !(e.ages.span 120)) = !(e.valid) := by
  unfold Entry.valid within
  rw [span_valid]
  simp only [ge_iff_le, Bool.not_and]
abbrev zZ := And.intro ty.sz0 <| And.intro ty.agg0 <| And.intro ty.elem0 <| And.intro ty.sz3 <| And.intro ty.agg3 <| And.intro ty.elem3 <| And.intro ty.zero3 <| And.intro ty.und3 <| And.intro ty.sz4 <| And.intro ty.agg4 <| And.intro ty.elem4 <| And.intro ty.zero4 <| And.intro ty.und4 <| And.intro ty.sz22 <| And.intro ty.agg22 <| And.intro ty.elem22 <| And.intro ty.by22 <| And.intro ty.ez22 <| And.intro ty.zero22 <| And.intro ty.und22 <| And.intro ty.sz23 <| And.intro ty.agg23 <| And.intro ty.elem23 <| And.intro ty.by23 <| And.intro ty.ez23 <| And.intro ty.zero23 <| And.intro ty.und23 <| And.intro ty.sz25 <| And.intro ty.agg25 <| And.intro ty.fld25_0 <| And.intro ty.fld25_1 <| And.intro ty.elem25 <| And.intro ty.zero25 <| And.intro ty.pl25 <| And.intro ty.sz27 <| And.intro ty.agg27 <| And.intro ty.fld27_0 <| And.intro ty.fld27_1 <| And.intro ty.fld27_2 <| And.intro ty.fld27_3 <| And.intro ty.fld27_4 <| And.intro ty.elem27 <| And.intro ty.zero27 <| And.intro ty.pl27 <| And.intro ty.sz71 <| And.intro ty.agg71 <| And.intro ty.fld71_0 <| And.intro ty.fld71_1 <| And.intro ty.fld71_2 <| And.intro ty.fld71_3 <| And.intro ty.elem71 <| And.intro ty.zero71 <| ty.pl71
theorem Fault_c (c : Census) (h1 : c.entries.length < 4611686018427387904) (h2 : c.same.length < 4611686018427387904) (h3 : c.apart.length < 4611686018427387904) : CallP Tryd.prog G0 61 [c.s] (I c.check) := by
  refine CallP.body 79 [.tmp 2] Tryd.func61 (by kernel_rfl) rfl rfl rfl zP zP ?_
  refine Tr.reg [1] (by
      simp only [↓sxd, sxu, ↓zE, ↓exq, ↓zI, Nat.reduceBEq, Nat.reduceAdd, Nat.reduceLT, Nat.reduceEqDiff]
      (all_goals try exact zF)) ?_
  refine Tr.seq ?_
  refine Tr.reg [1, 20] (by
      simp only [↓sxd, sxu, ↓zE, ↓exq, ↓zB, ↓zJ, ↓zD, ↓zA, Nat.reduceAdd, Nat.reduceLT, Nat.reduceEqDiff, sxe, zZ]
      iterate 8
        (repeat ((with_reducible refine And.intro ?_ ?_); (focus (exact zS))))
        refine GdO.mk _ (fun hg => by simp only [↓sxd, sxu, ↓exq, ↓zB, ↓zJ, ↓zD, ↓zA, Nat.reduceBEq, Nat.reduceAdd, Nat.reduceLT, Nat.reduceEqDiff, sxe, zZ, hg]; (all_goals try exact zF)) ?_
        simp only [↓sxd, sxu, ↓zE, ↓exq, ↓zH, Nat.reduceBEq, Nat.reduceLT]
      (all_goals try exact zF)) ?_
  refine Tr.cond rfl (fun h20 => ?_) (fun h20 => ?_)
  · refine Tr.reg [2] (by
        simp only [↓sxd, sxu, ↓zE, ↓exq, Nat.reduceLT]
        (all_goals try exact zF)) ?_
    refine Tr.ret ?_
    exact ⟨.inr rfl, congrArg (fun n => some (I n)) (by unfold Census.check; rw [if_pos h20])⟩
  · have hz : ¬ ((decide ((c.entries.length : Int) > 10) || decide ((c.same.length : Int) > 6) || decide ((c.apart.length : Int) > 6)) = true) := by rw [h20]; decide
    have hck : c.check = if !(c.entries.all Entry.valid) || !(c.same.all c.pair) || !(c.apart.all c.pair) || !(c.omitted.valid 100) || !(c.number.valid 200) then 1 else 0 := if_neg hz
    refine Tr.skip ?_
    refine Tr.seq ?_
    refine Tr.reg [1, 3] (by
        simp only [↓sxd, sxu, ↓zE, ↓exq, Nat.reduceBEq, Nat.reduceLT]
        (all_goals try exact zF)) ?_
    refine Tr.imp (st' := ⟨[(1, .ptr 0 0 0), (3, I 0)], [(0, .arr 7 [[SE c.entries, SP c.same, SP c.apart, I c.omitted.lo, I c.omitted.hi, I c.number.lo, I c.number.hi]])], 1, 79, [], 0⟩) (Imp.keepAll) (Tr.block (Tr.loopI (fun mm ss => ∃ (i : Nat), (i ≤ c.entries.length ∧ ∀ j, j < i → (c.entries.getD j default).valid = true) ∧ c.entries.length - i = mm ∧ ss = ⟨[(1, .ptr 0 0 0), (3, I i)], [(0, .arr 7 [[SE c.entries, SP c.same, SP c.apart, I c.omitted.lo, I c.omitted.hi, I c.number.lo, I c.number.hi]])], 1, 79, [], 0⟩) _ ⟨0, ?_, rfl, rfl⟩ ?_))
    · exact ⟨Nat.zero_le _, fun j hj => absurd hj (Nat.not_lt_zero _)⟩
    rintro mm ss ⟨i, hI, rfl, rfl⟩
    obtain ⟨hI, hall⟩ := hI
    refine Tr.seq ?_
    refine Tr.reg [1, 3, 25] (by
        simp only [↓sxd, sxu, ↓zE, ↓exq, ↓zB, ↓zJ, ↓zD, ↓zA, Nat.reduceBEq, Nat.reduceAdd, Nat.reduceLT, Nat.reduceEqDiff, sxe, zZ]
        (all_goals try exact zF)) ?_
    refine Tr.cond rfl (fun h25 => ?_) (fun h25 => ?_)
    · have hlt : i < c.entries.length := by simpa using h25
      refine Tr.skip ?_
      refine Tr.seq ?_
      refine Tr.block ?_
      refine Tr.reg [1, 3, 4] (by
          simp only [↓sxd, sxu, ↓zE, ↓exq, ↓zD, ↓zM, ↓zA, Nat.reduceBEq, Nat.reduceAdd, Nat.reduceLT, Nat.reduceEqDiff, sxe, zZ, hlt]
          (all_goals try exact zF)) ?_
      refine Tr.reg [1, 3, 54] (by
          simp only [↓sxd, sxu, ↓zE, ↓exq, ↓zD, ↓zA, Nat.reduceBEq, Nat.reduceAdd, Nat.reduceLT, Nat.reduceEqDiff, zZ]
          (repeat ((with_reducible refine And.intro ?_ ?_); (focus (exact zS))))
          refine CallO.use (In_c _ _ _ _) ?_
          try simp only [↓sxd, sxu, ↓zE, ↓exq, ↓zL, Nat.reduceLT]
          iterate 2
            (repeat ((with_reducible refine And.intro ?_ ?_); (focus (exact zS))))
            refine GdO.mk _ (fun hg => by simp only [sxu, ↓exq, ↓zD, ↓zA, Nat.reduceBEq, Nat.reduceAdd, Nat.reduceLT, Nat.reduceEqDiff, zZ, hg]; (all_goals try exact zF)) ?_
            simp only [↓sxd, sxu, ↓zE, Nat.reduceBEq, Nat.reduceLT]
          (repeat ((with_reducible refine And.intro ?_ ?_); (focus (exact zS))))
          refine GdO.mk _ (fun hg => by simp only [sxu, ↓exq, ↓zB, hg]; (repeat ((with_reducible refine And.intro ?_ ?_); (focus (exact zS)))); exact CallP.use (In_c _ _ _ _) ⟨rfl, rfl, rfl⟩) ?_
          simp only [↓sxd, sxu, ↓zE, Nat.reduceBEq, Nat.reduceLT]
          iterate 3
            (repeat ((with_reducible refine And.intro ?_ ?_); (focus (exact zS))))
            refine GdO.mk _ (fun hg => by simp only [sxu, ↓exq, ↓zL, ↓zD, ↓zA, Nat.reduceBEq, Nat.reduceAdd, Nat.reduceLT, Nat.reduceEqDiff, zZ, hg]; (all_goals try exact zF)) ?_
            simp only [↓sxd, sxu, ↓zE, ↓exq, ↓zH, Nat.reduceBEq, Nat.reduceLT]
          (repeat ((with_reducible refine And.intro ?_ ?_); (focus (exact zS))))
          refine GdO.mk _ (fun hg => by simp only [sxu, ↓exq, ↓zB, hg]; (repeat ((with_reducible refine And.intro ?_ ?_); (focus (exact zS)))); exact CallP.use (In_c _ _ _ _) ⟨rfl, rfl, rfl⟩) ?_
          simp only [↓sxd, sxu, ↓zE, Nat.reduceBEq, Nat.reduceLT]
          iterate 3
            (repeat ((with_reducible refine And.intro ?_ ?_); (focus (exact zS))))
            refine GdO.mk _ (fun hg => by simp only [sxu, ↓exq, ↓zL, ↓zD, ↓zA, Nat.reduceBEq, Nat.reduceAdd, Nat.reduceLT, Nat.reduceEqDiff, zZ, hg]; (all_goals try exact zF)) ?_
            simp only [↓sxd, sxu, ↓zE, ↓exq, ↓zH, Nat.reduceBEq, Nat.reduceLT]
          (repeat ((with_reducible refine And.intro ?_ ?_); (focus (exact zS))))
          refine GdO.mk _ (fun hg => by simp only [sxu, ↓exq, ↓zB, hg]; (repeat ((with_reducible refine And.intro ?_ ?_); (focus (exact zS)))); exact CallP.use (span_c _ _ _) ⟨rfl, rfl, rfl⟩) ?_
          simp only [↓sxd, sxu, ↓zE, Nat.reduceBEq, Nat.reduceLT]
          (repeat ((with_reducible refine And.intro ?_ ?_); (focus (exact zS))))
          refine GdO.mk _ (fun hg => by simp only [sxu, ↓exq, ↓zL, hg]; (all_goals try exact zF)) ?_
          simp only [↓sxd, sxu, ↓zE, ↓exq, ↓zH, Nat.reduceBEq, Nat.reduceLT]
          (all_goals try exact zF)) ?_
      refine Tr.cond rfl (fun h54 => ?_) (fun h54 => ?_)
      · have hf : (c.entries.getD i default).valid = false := by
          have : _ := h54
          rw [entry_cond] at this
          simpa using this
        have hr : c.entries.all Entry.valid = false := by
          rw [← Bool.not_eq_true, List.all_eq_true]
          intro h
          rw [h _ (getD_mem hlt)] at hf; cases hf
        rw [hr] at hck
        have hck1 : c.check = 1 := hck
        rw [hck1]
        refine Tr.reg [2] (by
            simp only [↓sxd, sxu, ↓zE, ↓exq, Nat.reduceLT]
            (all_goals try exact zF)) ?_
        refine Tr.ret ?_
        (refine ⟨.inr rfl, ?_⟩; first | rfl | exact ⟨rfl, rfl, trivial⟩ | exact ⟨rfl, rfl, rfl, trivial⟩ | (simp only [Res, ResL, ResOK, ↓sxd, sxu, ↓zE, ↓zC, zK, ↓exP, ↓exq, ↓zB, ↓zH, ↓zL, ↓zJ, ↓zD, ↓zM, ↓zI, ↓zA, Nat.reduceBEq, Nat.reduceAdd, Nat.reduceLT, Nat.reduceMul, Nat.reduceSub, Nat.reduceLeDiff, Nat.reduceEqDiff, Int.reduceLE, Int.reduceLT, Int.reduceToNat, reduceIte, sxe, zZ]; (repeat' (first | rfl | exact trivial | exact fun h => h | exact fun h => (by rw [h]; rfl) | apply And.intro | omega | exact Nat.le_of_ble_eq_true rfl))))
      · have hf : (c.entries.getD i default).valid = true := by
          have : _ := h54
          rw [entry_cond] at this
          simpa using this
        refine Tr.skip ?_
        have w1 : IntKind.i64.wrap ((i : Int) + 1) = ((i + 1 : Nat) : Int) := by rw [wr (by omega) (by omega)]; rfl
        refine Tr.reg1 [1, 3] (by
            simp only [↓sxd, sxu, ↓zE, ↓exq, Nat.reduceBEq, Nat.reduceLT, w1]
            (all_goals try exact zF)) ?_
        refine ⟨_, _, ?_, Imp.go (fun i => if i < 1 then i else i + 1) _ rfl rfl (.cons _ (.refl _)) (fun _ h => absurd h (Nat.not_lt_zero _)) (fun id h => by simp only [show ¬ id < 1 by omega, if_false]; omega) zT zT (fun h => h), ⟨i + 1, ⟨hlt, fun j hj => ?_⟩, rfl, rfl⟩⟩
        · omega
        · by_cases hji : j = i
          · subst hji; exact hf
          · exact hall j (by omega)
    · have hge : i = c.entries.length := by simp at h25; omega
      have hr : c.entries.all Entry.valid = true := by
        rw [List.all_eq_true]
        intro x hx
        obtain ⟨j, hj, rfl⟩ := List.getElem_of_mem hx
        have := hall j (by omega)
        simpa [List.getD_eq_getElem?_getD, hj] using this
      rw [hr] at hck
      refine Tr.exit ?_
      refine Tr.seq ?_
      refine Tr.reg [78] (by
          simp only [↓sxd, sxu, ↓zE, ↓exq, ↓zD, ↓zA, Nat.reduceBEq, Nat.reduceAdd, Nat.reduceLT, Nat.reduceEqDiff, zZ]
          (repeat ((with_reducible refine And.intro ?_ ?_); (focus (exact zS))))
          refine CallO.use (rpairs_c c c.same h1 h2) ?_
          try simp only [↓sxd, sxu, ↓zE, ↓exq, ↓zL, Nat.reduceLT]
          iterate 3
            (repeat ((with_reducible refine And.intro ?_ ?_); (focus (exact zS))))
            refine GdO.mk _ (fun hg => by simp only [sxu, ↓exq, ↓zD, ↓zA, Nat.reduceBEq, Nat.reduceAdd, Nat.reduceLT, Nat.reduceEqDiff, zZ, hg]; (all_goals try exact zF)) ?_
            simp only [↓sxd, sxu, ↓zE, Nat.reduceBEq, Nat.reduceLT]
          (repeat ((with_reducible refine And.intro ?_ ?_); (focus (exact zS))))
          refine GdO.mk _ (fun hg => by simp only [sxu, ↓exq, ↓zB, Nat.reduceBEq, hg]; (repeat ((with_reducible refine And.intro ?_ ?_); (focus (exact zS)))); exact CallP.use (rpairs_c c c.apart h1 h3) ⟨rfl, rfl, rfl⟩) ?_
          simp only [↓sxd, sxu, ↓zE, Nat.reduceBEq, Nat.reduceLT]
          iterate 3
            (repeat ((with_reducible refine And.intro ?_ ?_); (focus (exact zS))))
            refine GdO.mk _ (fun hg => by simp only [sxu, ↓exq, ↓zL, ↓zD, ↓zA, Nat.reduceBEq, Nat.reduceAdd, Nat.reduceLT, Nat.reduceLeDiff, Nat.reduceEqDiff, zZ, hg]; (all_goals try exact zF)) ?_
            simp only [↓sxd, sxu, ↓zE, ↓exq, ↓zH, Nat.reduceBEq, Nat.reduceLT]
          (repeat ((with_reducible refine And.intro ?_ ?_); (focus (exact zS))))
          refine GdO.mk _ (fun hg => by simp only [sxu, ↓exq, ↓zB, hg]; (repeat ((with_reducible refine And.intro ?_ ?_); (focus (exact zS)))); exact CallP.use (span_c _ _ _) ⟨rfl, rfl, rfl⟩) ?_
          simp only [↓sxd, sxu, ↓zE, Nat.reduceBEq, Nat.reduceLT]
          iterate 3
            (repeat ((with_reducible refine And.intro ?_ ?_); (focus (exact zS))))
            refine GdO.mk _ (fun hg => by simp only [sxu, ↓exq, ↓zL, ↓zD, ↓zA, Nat.reduceBEq, Nat.reduceAdd, Nat.reduceLT, Nat.reduceEqDiff, zZ, hg]; (all_goals try exact zF)) ?_
            simp only [↓sxd, sxu, ↓zE, ↓exq, ↓zH, Nat.reduceBEq, Nat.reduceLT]
          (repeat ((with_reducible refine And.intro ?_ ?_); (focus (exact zS))))
          refine GdO.mk _ (fun hg => by simp only [sxu, ↓exq, ↓zB, hg]; (repeat ((with_reducible refine And.intro ?_ ?_); (focus (exact zS)))); exact CallP.use (span_c _ _ _) ⟨rfl, rfl, rfl⟩) ?_
          simp only [↓sxd, sxu, ↓zE, Nat.reduceBEq, Nat.reduceLT]
          (repeat ((with_reducible refine And.intro ?_ ?_); (focus (exact zS))))
          refine GdO.mk _ (fun hg => by simp only [sxu, ↓exq, ↓zL, hg]; (all_goals try exact zF)) ?_
          simp only [↓sxd, sxu, ↓zE, ↓exq, ↓zH, Nat.reduceBEq, Nat.reduceLT]
          (all_goals try exact zF)) ?_
      refine Tr.cond rfl (fun h78 => ?_) (fun h78 => ?_)
      · have hck1 : c.check = 1 := by
          rw [hck]
          have : _ := h78
          rw [span_valid, span_valid] at this
          simp only [Bool.not_true, Bool.false_or]
          rw [this]; rfl
        rw [hck1]
        refine Tr.reg [2] (by
            simp only [↓sxd, sxu, ↓zE, ↓exq, Nat.reduceLT]
            (all_goals try exact zF)) ?_
        refine Tr.ret ?_
        (refine ⟨.inr rfl, ?_⟩; first | rfl | exact ⟨rfl, rfl, trivial⟩ | exact ⟨rfl, rfl, rfl, trivial⟩ | (simp only [Res, ResL, ResOK, ↓sxd, sxu, ↓zE, ↓zC, zK, ↓exP, ↓exq, ↓zB, ↓zH, ↓zL, ↓zJ, ↓zD, ↓zM, ↓zI, ↓zA, Nat.reduceBEq, Nat.reduceAdd, Nat.reduceLT, Nat.reduceMul, Nat.reduceSub, Nat.reduceLeDiff, Nat.reduceEqDiff, Int.reduceLE, Int.reduceLT, Int.reduceToNat, reduceIte, sxe, zZ]; (repeat' (first | rfl | exact trivial | exact fun h => h | exact fun h => (by rw [h]; rfl) | apply And.intro | omega | exact Nat.le_of_ble_eq_true rfl))))
      · have hck1 : c.check = 0 := by
          rw [hck]
          have : _ := h78
          rw [span_valid, span_valid] at this
          simp only [Bool.not_true, Bool.false_or]
          rw [this]; rfl
        rw [hck1]
        refine Tr.skip ?_
        refine Tr.reg [2] (by
            simp only [↓sxd, sxu, ↓zE, ↓exq, Nat.reduceLT]
            (all_goals try exact zF)) ?_
        refine Tr.ret ?_
        (refine ⟨.inr rfl, ?_⟩; first | rfl | exact ⟨rfl, rfl, trivial⟩ | exact ⟨rfl, rfl, rfl, trivial⟩ | (simp only [Res, ResL, ResOK, ↓sxd, sxu, ↓zE, ↓zC, zK, ↓exP, ↓exq, ↓zB, ↓zH, ↓zL, ↓zJ, ↓zD, ↓zM, ↓zI, ↓zA, Nat.reduceBEq, Nat.reduceAdd, Nat.reduceLT, Nat.reduceMul, Nat.reduceSub, Nat.reduceLeDiff, Nat.reduceEqDiff, Int.reduceLE, Int.reduceLT, Int.reduceToNat, reduceIte, sxe, zZ]; (repeat' (first | rfl | exact trivial | exact fun h => h | exact fun h => (by rw [h]; rfl) | apply And.intro | omega | exact Nat.le_of_ble_eq_true rfl))))
abbrev x6 := And.intro ty.sz0 <| And.intro ty.agg0 <| And.intro ty.elem0 <| And.intro ty.sz3 <| And.intro ty.agg3 <| And.intro ty.elem3 <| And.intro ty.zero3 <| And.intro ty.und3 <| And.intro ty.sz27 <| And.intro ty.agg27 <| And.intro ty.fld27_0 <| And.intro ty.fld27_1 <| And.intro ty.fld27_2 <| And.intro ty.fld27_3 <| And.intro ty.fld27_4 <| And.intro ty.elem27 <| And.intro ty.zero27 <| And.intro ty.pl27 <| And.intro ty.sz31 <| And.intro ty.agg31 <| And.intro ty.elem31 <| And.intro ty.zero31 <| ty.und31
theorem fault_c (c : Census) (h1 : c.entries.length < 4611686018427387904) (h2 : c.same.length < 4611686018427387904) (h3 : c.apart.length < 4611686018427387904) : CallP Tryd.prog G0 28 [c.s] (I c.check) := by
  refine CallP.body 5 [.tmp 2] Tryd.func28 (by kernel_rfl) rfl rfl rfl zP zP ?_
  refine Tr.reg [1] (by
      simp only [↓sxd, sxu, ↓zE, ↓exq, ↓zI, Nat.reduceBEq, Nat.reduceAdd, Nat.reduceLT, Nat.reduceEqDiff]
      (all_goals try exact zF)) ?_
  refine Tr.reg [2] (by
      simp only [↓sxd, sxu, ↓zE, ↓exq, ↓zD, Nat.reduceAdd, Nat.reduceLT, x6]
      (repeat ((with_reducible refine And.intro ?_ ?_); (focus (exact zS))))
      refine CallO.use (Fault_c c h1 h2 h3) ?_
      try simp only [↓sxd, sxu, ↓zE, ↓exq, Nat.reduceLT]
      (all_goals try exact zF)) ?_
  refine Tr.ret ?_
  (refine ⟨.inr rfl, ?_⟩; first | rfl | exact ⟨rfl, rfl, trivial⟩ | exact ⟨rfl, rfl, rfl, trivial⟩ | (simp only [Res, ResL, ResOK, ↓sxd, sxu, ↓zE, ↓zC, zK, ↓exP, ↓exq, ↓zB, ↓zL, ↓zD, ↓zI, Nat.reduceBEq, Nat.reduceAdd, Nat.reduceLT, Nat.reduceMul, Nat.reduceSub, Nat.reduceLeDiff, Nat.reduceEqDiff, Int.reduceLE, Int.reduceLT, Int.reduceToNat, reduceIte, sxe, x6]; (repeat' (first | rfl | exact trivial | exact fun h => h | exact fun h => (by rw [h]; rfl) | apply And.intro | omega | exact Nat.le_of_ble_eq_true rfl))))
def Census.few (c : Census) : Bool := c.thin && ((c.check != 0) || decide ((c.entries.length : Int) ≤ 7))
theorem thin_len {c : Census} (h : c.thin = true) : c.entries.length ≤ 13 ∧ c.same.length ≤ 9 ∧ c.apart.length ≤ 9 := by
  simp only [Census.thin, Bool.and_eq_true, decide_eq_true_eq] at h
  omega
abbrev yS := And.intro ty.sz0 <| And.intro ty.agg0 <| And.intro ty.elem0 <| And.intro ty.sz3 <| And.intro ty.agg3 <| And.intro ty.elem3 <| And.intro ty.zero3 <| And.intro ty.und3 <| And.intro ty.sz4 <| And.intro ty.agg4 <| And.intro ty.elem4 <| And.intro ty.zero4 <| And.intro ty.und4 <| And.intro ty.sz22 <| And.intro ty.agg22 <| And.intro ty.elem22 <| And.intro ty.by22 <| And.intro ty.ez22 <| And.intro ty.zero22 <| And.intro ty.und22 <| And.intro ty.sz27 <| And.intro ty.agg27 <| And.intro ty.fld27_0 <| And.intro ty.fld27_1 <| And.intro ty.fld27_2 <| And.intro ty.fld27_3 <| And.intro ty.fld27_4 <| And.intro ty.elem27 <| And.intro ty.zero27 <| ty.pl27
theorem Few_c (c : Census) : CallP Tryd.prog G0 19 [c.s] (B c.few) := by
  refine CallP.body 16 [.tmp 2] Tryd.func19 (by kernel_rfl) rfl rfl rfl zP zP ?_
  refine Tr.reg [1] (by
      simp only [↓sxd, sxu, ↓zE, ↓exq, ↓zI, Nat.reduceBEq, Nat.reduceAdd, Nat.reduceLT, Nat.reduceEqDiff]
      (all_goals try exact zF)) ?_
  refine Tr.reg [2] (by
      simp only [↓sxd, sxu, ↓zE, ↓exq, ↓zD, Nat.reduceAdd, Nat.reduceLT, yS]
      (repeat ((with_reducible refine And.intro ?_ ?_); (focus (exact zS))))
      refine CallO.use (Thin_c _ c) ?_
      try simp only [↓sxd, sxu, ↓zE, ↓exq, Nat.reduceLT]
      (repeat ((with_reducible refine And.intro ?_ ?_); (focus (exact zS))))
      refine GdO.mk _ (fun hg => by simp only [sxu, ↓exq, ↓zD, Nat.reduceBEq, Nat.reduceAdd, Nat.reduceLT, yS, hg]; (all_goals try exact zF)) ?_
      simp only [↓sxd, sxu, ↓zE, Nat.reduceBEq, Nat.reduceLT]
      (repeat ((with_reducible refine And.intro ?_ ?_); (focus (exact zS))))
      refine GdO.mk (I c.check) (fun hg => by
        obtain ⟨h1, h2, h3⟩ := thin_len hg
        simp only [sxu, ↓exq, ↓zB, hg]
        (repeat ((with_reducible refine And.intro ?_ ?_); (focus (exact zS))))
        exact CallP.use (Fault_c c (by omega) (by omega) (by omega)) ⟨rfl, rfl, rfl⟩) ?_
      try simp only [↓sxd, sxu, ↓zE, Nat.reduceBEq, Nat.reduceLT]
      iterate 6
        (repeat ((with_reducible refine And.intro ?_ ?_); (focus (exact zS))))
        refine GdO.mk _ (fun hg => by simp only [↓sxd, sxu, ↓exq, ↓zB, ↓zJ, ↓zD, ↓zA, Nat.reduceBEq, Nat.reduceAdd, Nat.reduceLT, Nat.reduceEqDiff, sxe, yS, hg]; (all_goals try exact zF)) ?_
        simp only [↓sxd, sxu, ↓zE, Nat.reduceBEq, Nat.reduceLT]
      (repeat ((with_reducible refine And.intro ?_ ?_); (focus (exact zS))))
      first | refine GdO.or (fun hg => by simp only [sxu, Nat.reduceBEq, pickArgs, hg]; (all_goals try exact zF)) ?_ | refine GdO.mk _ (fun hg => by simp only [↓sxd, sxu, ↓zE, ↓zC, zK, ↓exP, ↓exq, ↓zB, ↓zH, ↓zL, ↓zJ, ↓zD, ↓zI, ↓zA, Nat.reduceBEq, Nat.reduceAdd, Nat.reduceLT, Nat.reduceMul, Nat.reduceSub, Nat.reduceLeDiff, Nat.reduceEqDiff, Int.reduceLE, Int.reduceLT, Int.reduceToNat, reduceIte, sxe, yS, hg, if_true]; (all_goals try exact zF)) ?_
      simp only [↓sxd, sxu, ↓zE, ↓exq, ↓zH, Nat.reduceBEq, Nat.reduceLT]
      (all_goals try exact zF)) ?_
  refine Tr.ret ?_
  (refine ⟨.inr rfl, ?_⟩; first | rfl | exact ⟨rfl, rfl, trivial⟩ | exact ⟨rfl, rfl, rfl, trivial⟩ | (simp only [Res, ResL, ResOK, ↓sxd, sxu, ↓zE, ↓zC, zK, ↓exP, ↓exq, ↓zB, ↓zH, ↓zL, ↓zJ, ↓zD, ↓zI, ↓zA, Nat.reduceBEq, Nat.reduceAdd, Nat.reduceLT, Nat.reduceMul, Nat.reduceSub, Nat.reduceLeDiff, Nat.reduceEqDiff, Int.reduceLE, Int.reduceLT, Int.reduceToNat, reduceIte, sxe, yS]; (repeat' (first | rfl | exact trivial | exact fun h => h | exact fun h => (by rw [h]; rfl) | apply And.intro | omega | exact Nat.le_of_ble_eq_true rfl))))
end Go.Proofs.YtcnkbdfkjhlbiaaDoor
