/- HideEvery: whatever the input, the law returns true, and each argument reads behind the call as it read before. Conditions: none. -/
import Derived.Test.YtijechcadlklhaaGreatZGZ
import Derived.Test.YtijechcadlklhaaGreatZGBA
import Derived.Test.YtijechcadlklhaaGreatZGBB
set_option linter.unusedVariables false
namespace Go.Proofs.YtijechcadlklhaaGreat
open Go.Sy
set_option maxRecDepth 8000
theorem dim_small {n m : Nat} {X : Rows8} (h : Dim n m X) (h3 : n ≤ 3) (h4 : m ≤ 4) : small8 X := by
  refine ⟨by rw [h.1]; omega, fun x hx => ?_⟩
  obtain ⟨i, hi, rfl⟩ := List.getElem_of_mem hx
  have := h.2 i (by rw [← h.1]; exact hi)
  simp only [List.getD_eq_getElem?_getD, List.getElem?_eq_getElem hi, Option.getD_some] at this
  omega
abbrev tysZ10_9 := And.intro ty.sz0 <| And.intro ty.agg0 <| And.intro ty.elem0 <| And.intro ty.sz3 <| And.intro ty.agg3 <| And.intro ty.elem3 <| And.intro ty.zero3 <| And.intro ty.und3 <| And.intro ty.sz4 <| And.intro ty.agg4 <| And.intro ty.elem4 <| And.intro ty.zero4 <| And.intro ty.und4 <| And.intro ty.sz22 <| And.intro ty.agg22 <| And.intro ty.elem22 <| And.intro ty.by22 <| And.intro ty.ez22 <| And.intro ty.zero22 <| And.intro ty.und22 <| And.intro ty.sz24 <| And.intro ty.agg24 <| And.intro ty.fld24_0 <| And.intro ty.fld24_1 <| And.intro ty.elem24 <| And.intro ty.zero24 <| And.intro ty.pl24 <| And.intro ty.sz25 <| And.intro ty.agg25 <| And.intro ty.elem25 <| And.intro ty.by25 <| And.intro ty.ez25 <| And.intro ty.zero25 <| And.intro ty.und25 <| And.intro ty.sz29 <| And.intro ty.agg29 <| And.intro ty.elem29 <| And.intro ty.zero29 <| And.intro ty.und29 <| And.intro ty.sz32 <| And.intro ty.agg32 <| And.intro ty.fld32_0 <| And.intro ty.fld32_1 <| And.intro ty.elem32 <| And.intro ty.zero32 <| And.intro ty.pl32 <| And.intro ty.sz34 <| And.intro ty.agg34 <| And.intro ty.elem34 <| And.intro ty.by34 <| And.intro ty.ez34 <| And.intro ty.zero34 <| And.intro ty.und34 <| And.intro ty.sz44 <| And.intro ty.agg44 <| And.intro ty.elem44 <| And.intro ty.by44 <| And.intro ty.ez44 <| And.intro ty.zero44 <| And.intro ty.und44 <| And.intro ty.sz55 <| And.intro ty.agg55 <| And.intro ty.elem55 <| And.intro ty.by55 <| And.intro ty.ez55 <| And.intro ty.zero55 <| And.intro ty.und55 <| And.intro ty.sz56 <| And.intro ty.agg56 <| And.intro ty.elem56 <| And.intro ty.sz58 <| And.intro ty.agg58 <| And.intro ty.elem58 <| And.intro ty.by58 <| And.intro ty.ez58 <| And.intro ty.zero58 <| And.intro ty.und58 <| And.intro ty.sz60 <| And.intro ty.agg60 <| And.intro ty.fld60_0 <| And.intro ty.fld60_1 <| And.intro ty.elem60 <| And.intro ty.zero60 <| And.intro ty.pl60 <| And.intro ty.sz72 <| And.intro ty.agg72 <| And.intro ty.elem72 <| And.intro ty.by72 <| And.intro ty.ez72 <| And.intro ty.zero72 <| ty.und72
set_option maxHeartbeats 4000000 in
theorem HideEvery_c (t : HT) (l : List HC) (ws : List Nat) (hws : ∀ n ∈ ws, n < 65536) : CallP Tryz.prog G0 9 [t.s, SC l, SW ws] (B true) := by
  refine CallP.body 138 [.tmp 6] Tryz.func9 (by kernel_rfl) rfl rfl rfl zP zP ?_
  refine Tr.reg [1, 2, 3] (by
      simp only [↓sxd, sxu, ↓zE, ↓exq, ↓zM, Nat.reduceBEq, Nat.reduceAdd, Nat.reduceLT, Nat.reduceEqDiff]
      (all_goals try exact zF)) ?_
  refine Tr.seq ?_
  refine Tr.reg [1, 2, 3, 17] (by
      simp only [↓sxd, sxu, ↓zE, ↓exq, ↓zD, Nat.reduceBEq, Nat.reduceAdd, Nat.reduceLT, tysZ10_9]
      (repeat ((with_reducible refine And.intro ?_ ?_); (focus (exact zS))))
      refine CallO.use (ready_c t l) ?_
      try simp only [↓sxd, sxu, ↓zE, ↓exq, ↓zK, Nat.reduceBEq, Nat.reduceLT]
      (all_goals try exact zF)) ?_
  refine Tr.cond rfl (fun h17 => ?_) (fun h17 => ?_)
  · refine Tr.reg [6] (by
        simp only [↓sxd, sxu, ↓zE, Nat.reduceLT]
        (repeat ((with_reducible refine And.intro ?_ ?_); (focus (exact zS))))
        refine CallO.use (awake_c) ?_
        try simp only [↓sxd, sxu, ↓zE, ↓exq, Nat.reduceLT]
        (all_goals try exact zF)) ?_
    refine Tr.ret ?_
    (refine ⟨.inr rfl, ?_⟩; first | rfl | exact ⟨rfl, rfl, trivial⟩ | exact ⟨rfl, rfl, rfl, trivial⟩ | (simp only [Res, ResL, ResOK, ↓sxd, sxu, ↓zE, ↓zC, zJ, ↓exP, ↓exq, ↓zB, ↓zI, ↓zK, ↓zL, ↓zD, ↓zH, ↓zN, ↓zM, ↓zA, Nat.reduceBEq, Nat.reduceAdd, Nat.reduceLT, Nat.reduceMul, Nat.reduceSub, Nat.reduceLeDiff, Nat.reduceEqDiff, Int.reduceLE, Int.reduceLT, Int.reduceToNat, reduceIte, sxe, tysZ10_9]; (repeat' (first | rfl | exact trivial | exact fun h => h | exact fun h => (by rw [h]; rfl) | apply And.intro | omega | exact Nat.le_of_ble_eq_true rfl))))
  · obtain ⟨hs, hl, hpub⟩ := ready_ok (by simpa using h17)
    obtain ⟨hn3, hm4, hlo, h0⟩ := pub_dims hpub
    have ho : t.Ok t.n t.m := HT.check_ok h0
    have hnn : t.rows.length = t.n := rfl
    have hwk : (t.w l).Ok t.n t.m := HT.w_ok hpub
    have hR := Ranges_c t l hs hl
    rw [if_pos hpub, hpub] at hR
    have hRl : ((t.w l).ranges t.n t.m).length = t.n := ranges_len _ _ _
    have hRr : ∀ r, r < t.n → (((t.w l).ranges t.n t.m).getD r []).length = t.m := fun r hr => ranges_row _ hr
    have hRg : ∀ r c, r < t.n → c < t.m → (((t.w l).ranges t.n t.m).getD r []).getD c default = ⟨(t.w l).lo r c, (t.w l).hi r c⟩ := fun r c hr hc => ranges_get _ hr hc
    generalize (t.w l).ranges t.n t.m = R at hR hRl hRr hRg
    have hMv := Moved_c t l ws hws hl hpub
    have hX := movedTo_law hpub ws (min ws.length 30)
    generalize movedTo t l ws (min ws.length 30) = X at hMv hX
    have hXs := dim_small hX.fit.dim hn3 hm4
    have hP1 := Prove_c t l X hs hl hXs
    rw [decide_eq_true hpub, (candB_iff hpub X).2 hX, Bool.true_and] at hP1
    have hP2 := Prove_c t l t.rows hs hl hs
    rw [decide_eq_true hpub, (candB_iff hpub t.rows).2 hwk.self, Bool.true_and] at hP2
    have hbnd : ∀ r c, r < t.n → c < t.m → ((t.w l).lo r c ≤ cellAt X r c ∧ cellAt X r c ≤ (t.w l).hi r c) ∧ ((t.w l).lo r c ≤ cellAt t.rows r c ∧ cellAt t.rows r c ≤ (t.w l).hi r c) ∧ 0 ≤ (t.w l).lo r c ∧ (t.w l).hi r c ≤ t.cap := fun r c hr hc =>
      ⟨(hwk.can_iff r c _).1 (hX.Can hwk r c), hwk.lo_le r c, ((hwk.ends false r c).fit.cell r c hr hc).1, ((hwk.ends true r c).fit.cell r c hr hc).2⟩
    refine Tr.skip ?_
    refine Tr.reg [1, 2, 3, 7, 8] (by
        simp only [↓sxd, sxu, ↓zE, ↓exq, ↓zD, Nat.reduceBEq, Nat.reduceAdd, Nat.reduceLT, tysZ10_9]
        (repeat ((with_reducible refine And.intro ?_ ?_); (focus (exact zS))))
        refine CallO.use (Table_c t hs) ?_
        try simp only [↓sxd, sxu, ↓zE, ↓exq, Nat.reduceBEq, Nat.reduceLT]
        (repeat ((with_reducible refine And.intro ?_ ?_); (focus (exact zS))))
        refine CallO.use (Cells_c l hl) ?_
        try simp only [↓sxd, sxu, ↓zE, Nat.reduceBEq, Nat.reduceLT]
        (repeat ((with_reducible refine And.intro ?_ ?_); (focus (exact zS))))
        refine CallO.use (hR) ?_
        try simp only [↓sxd, sxu, ↓zE, ↓exq, ↓zH, Nat.reduceBEq, Nat.reduceAdd, Nat.reduceLT]
        (all_goals try exact zF)) ?_
    refine Tr.reg [1, 3, 7, 8, 9] (by
        simp only [↓sxd, sxu, ↓zE, ↓exq, ↓zD, Nat.reduceBEq, Nat.reduceAdd, Nat.reduceLT, tysZ10_9]
        (repeat ((with_reducible refine And.intro ?_ ?_); (focus (exact zS))))
        refine CallO.use (hMv) ?_
        try simp only [↓sxd, sxu, ↓zE, ↓exq, Nat.reduceBEq, Nat.reduceLT]
        (all_goals try exact zF)) ?_
    refine Tr.seq ?_
    refine Tr.regD [0, 1, 2, 3, 4, 5, 6, 7, 8, 9, 10, 11, 12, 13, 14, 15, 16, 17, 18, 19, 20, 21, 22, 23, 24, 25, 26, 27, 28, 29] [] [] [3, 7, 9, 60] mix (by kernel_rfl) (by
        simp (maxSteps := 2000000) only [↓sxd, sxu, ↓zC, zJ, ↓exq, Nat.reduceBEq, Nat.reduceLT]
        iterate 7
          (repeat ((with_reducible refine And.intro ?_ ?_); (focus (exact zS))))
          refine GdD.mk _ (fun hg => by simp (maxSteps := 2000000) only [↓sxd, sxu, ↓exP, ↓exq, ↓zB, ↓zL, ↓zD, ↓zA, Nat.reduceBEq, Nat.reduceAdd, Nat.reduceLT, Nat.reduceEqDiff, sxe, tysZ10_9, hg]; (all_goals try exact zF)) ?_
          simp (maxSteps := 2000000) only [↓sxd, sxu, ↓zC, zJ, ↓exq, ↓zI, Nat.reduceBEq, Nat.reduceLT]
        (repeat ((with_reducible refine And.intro ?_ ?_); (focus (exact zS))))
        refine GdD.mk _ (fun hg => by simp (maxSteps := 2000000) only [sxu, ↓exP, hg]; first | exact Table_c t hs | exact ⟨Table_c t hs, rfl, rfl⟩ | exact ⟨Table_c t hs, trivial⟩ | exact ⟨Table_c t hs, trivial, trivial⟩) ?_
        simp (maxSteps := 2000000) only [↓sxd, sxu, ↓zC, zJ, Nat.reduceBEq, Nat.reduceLT]
        (repeat ((with_reducible refine And.intro ?_ ?_); (focus (exact zS))))
        refine GdD.mk _ (fun hg => by simp (maxSteps := 2000000) only [sxu, ↓exP, ↓exq, Nat.reduceBEq, hg]; (all_goals try exact zF)) ?_
        simp (maxSteps := 2000000) only [↓sxd, sxu, ↓zC, zJ, Nat.reduceBEq, Nat.reduceLT]
        (repeat ((with_reducible refine And.intro ?_ ?_); (focus (exact zS))))
        refine GdD.mk _ (fun hg => by simp (maxSteps := 2000000) only [sxu, ↓exP, hg]; first | exact Cells_c l hl | exact ⟨Cells_c l hl, rfl, rfl⟩ | exact ⟨Cells_c l hl, trivial⟩ | exact ⟨Cells_c l hl, trivial, trivial⟩) ?_
        simp (maxSteps := 2000000) only [↓sxd, sxu, ↓zC, zJ, Nat.reduceBEq, Nat.reduceLT]
        (repeat ((with_reducible refine And.intro ?_ ?_); (focus (exact zS))))
        refine GdD.mk _ (fun hg => by simp (maxSteps := 2000000) only [sxu, ↓exP, ↓exq, Nat.reduceBEq, hg]; (all_goals try exact zF)) ?_
        simp (maxSteps := 2000000) only [↓sxd, sxu, ↓zC, zJ, Nat.reduceBEq, Nat.reduceLT]
        (repeat ((with_reducible refine And.intro ?_ ?_); (focus (exact zS))))
        refine GdD.mk _ (fun hg => by simp (maxSteps := 2000000) only [sxu, ↓exP, Nat.reduceBEq, hg]; first | exact hP1 | exact ⟨hP1, rfl, rfl⟩ | exact ⟨hP1, trivial⟩ | exact ⟨hP1, trivial, trivial⟩) ?_
        simp (maxSteps := 2000000) only [↓sxd, sxu, ↓zC, zJ, Nat.reduceBEq, Nat.reduceLT]
        iterate 2
          (repeat ((with_reducible refine And.intro ?_ ?_); (focus (exact zS))))
          refine GdD.mk _ (fun hg => by simp (maxSteps := 2000000) only [sxu, ↓exP, ↓exq, ↓zK, ↓zD, Nat.reduceBEq, Nat.reduceAdd, Nat.reduceLT, tysZ10_9, hg]; (all_goals try exact zF)) ?_
          simp (maxSteps := 2000000) only [↓sxd, sxu, ↓zC, zJ, ↓exq, ↓zI, Nat.reduceBEq, Nat.reduceLT]
        (repeat ((with_reducible refine And.intro ?_ ?_); (focus (exact zS))))
        refine GdD.mk _ (fun hg => by simp (maxSteps := 2000000) only [sxu, ↓exP, hg]; first | exact Table_c t hs | exact ⟨Table_c t hs, rfl, rfl⟩ | exact ⟨Table_c t hs, trivial⟩ | exact ⟨Table_c t hs, trivial, trivial⟩) ?_
        simp (maxSteps := 2000000) only [↓sxd, sxu, ↓zC, zJ, Nat.reduceBEq, Nat.reduceLT]
        (repeat ((with_reducible refine And.intro ?_ ?_); (focus (exact zS))))
        refine GdD.mk _ (fun hg => by simp (maxSteps := 2000000) only [sxu, ↓exP, ↓exq, Nat.reduceBEq, hg]; (all_goals try exact zF)) ?_
        simp (maxSteps := 2000000) only [↓sxd, sxu, ↓zC, zJ, Nat.reduceBEq, Nat.reduceLT]
        (repeat ((with_reducible refine And.intro ?_ ?_); (focus (exact zS))))
        refine GdD.mk _ (fun hg => by simp (maxSteps := 2000000) only [sxu, ↓exP, hg]; first | exact Cells_c l hl | exact ⟨Cells_c l hl, rfl, rfl⟩ | exact ⟨Cells_c l hl, trivial⟩ | exact ⟨Cells_c l hl, trivial, trivial⟩) ?_
        simp (maxSteps := 2000000) only [↓sxd, sxu, ↓zC, zJ, Nat.reduceBEq, Nat.reduceLT]
        iterate 2
          (repeat ((with_reducible refine And.intro ?_ ?_); (focus (exact zS))))
          refine GdD.mk _ (fun hg => by simp (maxSteps := 2000000) only [sxu, ↓exP, ↓exq, ↓zD, ↓zA, Nat.reduceBEq, Nat.reduceAdd, Nat.reduceLT, Nat.reduceEqDiff, tysZ10_9, hg]; (all_goals try exact zF)) ?_
          simp (maxSteps := 2000000) only [↓sxd, sxu, ↓zC, zJ, Nat.reduceBEq, Nat.reduceLT]
        (repeat ((with_reducible refine And.intro ?_ ?_); (focus (exact zS))))
        refine GdD.mk _ (fun hg => by simp (maxSteps := 2000000) only [sxu, ↓exP, hg]; first | exact lrows_c t.rows hs.1 hs.2 | exact ⟨lrows_c t.rows hs.1 hs.2, rfl, rfl⟩ | exact ⟨lrows_c t.rows hs.1 hs.2, trivial⟩ | exact ⟨lrows_c t.rows hs.1 hs.2, trivial, trivial⟩) ?_
        simp (maxSteps := 2000000) only [↓sxd, sxu, ↓zC, zJ, Nat.reduceBEq, Nat.reduceLT]
        (repeat ((with_reducible refine And.intro ?_ ?_); (focus (exact zS))))
        refine GdD.mk _ (fun hg => by simp (maxSteps := 2000000) only [sxu, ↓exP, Nat.reduceBEq, hg]; first | exact hP2 | exact ⟨hP2, rfl, rfl⟩ | exact ⟨hP2, trivial⟩ | exact ⟨hP2, trivial, trivial⟩) ?_
        simp (maxSteps := 2000000) only [↓sxd, sxu, ↓zC, zJ, Nat.reduceBEq, Nat.reduceLT]
        (repeat ((with_reducible refine And.intro ?_ ?_); (focus (exact zS))))
        refine GdD.mk _ (fun hg => by simp (maxSteps := 2000000) only [sxu, ↓exP, ↓exq, ↓zK, hg]; (all_goals try exact zF)) ?_
        simp (maxSteps := 2000000) only [↓sxd, sxu, ↓zC, ↓exq, ↓zI, Nat.reduceBEq, Nat.reduceLT]
        (all_goals try exact zF)) ?_
    refine Tr.cond rfl (fun h60 => ?_) (fun h60 => ?_)
    · rw [hRl, hnn] at h60; simp at h60
    · refine Tr.skip ?_
      refine Tr.seq ?_
      refine Tr.reg [3, 7, 9, 10] (by
          simp only [↓sxd, sxu, ↓zE, ↓exq, Nat.reduceBEq, Nat.reduceLT]
          (all_goals try exact zF)) ?_
      refine Tr.imp (st' := ⟨[(3, .ptr 0 0 0), (7, SRL R), (9, SL X), (10, I 0)], [(0, tbx t)], 1, 138, [], 0⟩) (Imp.keepAll) (Tr.block (Tr.loopI (fun mm ss => ∃ (r : Nat), (r ≤ t.n) ∧ t.n - r = mm ∧ ss = ⟨[(3, .ptr 0 0 0), (7, SRL R), (9, SL X), (10, I r)], [(0, tbx t)], 1, 138, [], 0⟩) _ ⟨0, ?_, rfl, rfl⟩ ?_))
      · exact Nat.zero_le _
      rintro mm ss ⟨r, hI, rfl, rfl⟩
      refine Tr.seq ?_
      refine Tr.reg [3, 7, 9, 10, 64] (by
          simp only [↓sxd, sxu, ↓zE, ↓exq, ↓zB, ↓zL, Nat.reduceBEq, Nat.reduceLT, sxe, tysZ10_9]
          (all_goals try exact zF)) ?_
      refine Tr.cond rfl (fun h64 => ?_) (fun h64 => ?_)
      · have hr : r < t.n := by rw [hRl] at h64; simpa using h64
        have hrR : r < R.length := by rw [hRl]; exact hr
        have hrX : r < X.length := by rw [hX.fit.dim.1]; exact hr
        have hrT : r < t.rows.length := hr
        refine Tr.skip ?_
        refine Tr.seq ?_
        refine Tr.block ?_
        refine Tr.reg [3, 7, 9, 10, 11] (by
            simp only [↓sxd, sxu, ↓zE, ↓exq, Nat.reduceBEq, Nat.reduceLT]
            (all_goals try exact zF)) ?_
        refine Tr.imp (st' := ⟨[(3, .ptr 0 0 0), (7, SRL R), (9, SL X), (10, I r), (11, I 0)], [(0, tbx t)], 1, 138, [], 0⟩) (Imp.keepAll) (Tr.block (Tr.loopI (fun mm ss => ∃ (c : Nat), (c ≤ t.m) ∧ t.m - c = mm ∧ ss = ⟨[(3, .ptr 0 0 0), (7, SRL R), (9, SL X), (10, I r), (11, I c)], [(0, tbx t)], 1, 138, [], 0⟩) _ ⟨0, ?_, rfl, rfl⟩ ?_))
        · exact Nat.zero_le _
        rintro mm ss ⟨c, hI, rfl, rfl⟩
        refine Tr.seq ?_
        refine Tr.reg [3, 7, 9, 10, 11, 73] (by
            simp only [↓sxd, sxu, ↓zE, ↓exq, ↓zB, ↓zL, ↓zD, Nat.reduceBEq, Nat.reduceLT, sxe, tysZ10_9, hrR]
            (all_goals try exact zF)) ?_
        refine Tr.cond rfl (fun h73 => ?_) (fun h73 => ?_)
        · have hc : c < t.m := by rw [hRr r hr] at h73; simpa using h73
          have hcR : c < (R.getD r []).length := by rw [hRr r hr]; exact hc
          have hcX : c < (X.getD r []).length := by rw [hX.fit.dim.2 r hr]; exact hc
          have hcT : c < (t.rows.getD r []).length := by rw [ho.dim.2 r hr]; exact hc
          have hg1 := hRg r c hr hc
          have hb := hbnd r c hr hc
          refine Tr.skip ?_
          refine Tr.seq ?_
          refine Tr.block ?_
          refine Tr.regD [0, 1, 2, 3, 4, 5, 6, 7, 8, 9, 10, 11, 12, 13, 14, 15, 16, 17] [15, 16] [3, 6, 8, 11, 14] [3, 7, 9, 10, 11, 12, 13] mix (by kernel_rfl) (by
              simp only [↓sxd, sxu, ↓zC, zJ, ↓exq, ↓zD, ↓zN, ↓zA, Nat.reduceBEq, Nat.reduceAdd, Nat.reduceLT, Nat.reduceEqDiff, sxe, tysZ10_9, hrR, hcR, hrT, hcT, hg1]
              (all_goals try exact zF)) ?_
          refine Tr.regD [0, 1, 2, 3, 4, 5, 6, 7, 8, 9, 10, 11, 12, 13, 14, 15, 16, 17, 18, 19, 20, 21, 22, 23, 24, 25, 26, 27, 28, 29, 30, 31, 32, 33, 34, 35, 36, 37, 38, 39, 40, 41, 42, 43, 44, 45] [] [] [3, 7, 9, 10, 11, 136] mix (by kernel_rfl) (by
              simp (maxSteps := 2000000) only [↓sxd, sxu, ↓zC, zJ, ↓exq, ↓zD, ↓zA, Nat.reduceBEq, Nat.reduceAdd, Nat.reduceLT, Nat.reduceEqDiff, sxe, tysZ10_9, hrX, hcX]
              iterate 26
                (repeat ((with_reducible refine And.intro ?_ ?_); (focus (exact zS))))
                refine GdD.mk _ (fun hg => by simp (maxSteps := 2000000) only [↓sxd, sxu, ↓exP, ↓exq, ↓zD, ↓zA, Nat.reduceBEq, Nat.reduceAdd, Nat.reduceLT, Nat.reduceEqDiff, sxe, tysZ10_9, hrX, hcX, hg]; (all_goals try exact zF)) ?_
                simp (maxSteps := 2000000) only [↓sxd, sxu, ↓zC, zJ, ↓exq, ↓zI, Nat.reduceBEq, Nat.reduceLT]
              (all_goals try exact zF)) ?_
          refine Tr.cond rfl (fun h136 => ?_) (fun h136 => ?_)
          · exfalso
            unfold cellAt at hb
            simp only [Bool.or_eq_true, decide_eq_true_eq] at h136
            omega
          · refine Tr.skip ?_
            have w1 := add1 (show c < 4611686018427387904 by omega)
            refine Tr.reg1 [3, 7, 9, 10, 11] (by
                simp only [↓sxd, sxu, ↓zE, ↓exq, Nat.reduceBEq, Nat.reduceLT, w1]
                (all_goals try exact zF)) ?_
            refine ⟨_, _, ?_, ?_, ⟨c + 1, hc, rfl, rfl⟩⟩
            · omega
            · exact Imp.go (rg 1 1) [(0, _)] rfl rfl (.cons _ (.refl _)) (fun _ h => absurd h (Nat.not_lt_zero _)) (fun id h => by rw [rg_ge h]; show 2 ≤ id + 1; omega) zT zT (fun h => h)
        · have hc : c = t.m := by rw [hRr r hr] at h73; have := of_decide_eq_false h73; omega
          refine Tr.exit ?_
          have w1 := add1 (show r < 4611686018427387904 by omega)
          refine Tr.reg1 [3, 7, 9, 10] (by
              simp only [↓sxd, sxu, ↓zE, ↓exq, Nat.reduceBEq, Nat.reduceLT, w1]
              (all_goals try exact zF)) ?_
          exact ⟨_, _, by omega, Imp.keepAll, ⟨r + 1, hr, rfl, rfl⟩⟩
      · have hr : r = t.n := by rw [hRl] at h64; have := of_decide_eq_false h64; omega
        refine Tr.exit ?_
        refine Tr.reg [6] (by
            simp only [↓sxd, sxu, ↓zE, Nat.reduceLT]
            (repeat ((with_reducible refine And.intro ?_ ?_); (focus (exact zS))))
            refine CallO.use (awake_c) ?_
            try simp only [↓sxd, sxu, ↓zE, ↓exq, Nat.reduceLT]
            (all_goals try exact zF)) ?_
        refine Tr.ret ?_
        (refine ⟨.inr rfl, ?_⟩; first | rfl | exact ⟨rfl, rfl, trivial⟩ | exact ⟨rfl, rfl, rfl, trivial⟩ | (simp only [Res, ResL, ResOK, ↓sxd, sxu, ↓zE, ↓zC, zJ, ↓exP, ↓exq, ↓zB, ↓zI, ↓zK, ↓zL, ↓zD, ↓zH, ↓zN, ↓zM, ↓zA, Nat.reduceBEq, Nat.reduceAdd, Nat.reduceLT, Nat.reduceMul, Nat.reduceSub, Nat.reduceLeDiff, Nat.reduceEqDiff, Int.reduceLE, Int.reduceLT, Int.reduceToNat, reduceIte, sxe, tysZ10_9]; (repeat' (first | rfl | exact trivial | exact fun h => h | exact fun h => (by rw [h]; rfl) | apply And.intro | omega | exact Nat.le_of_ble_eq_true rfl))))
end Go.Proofs.YtijechcadlklhaaGreat
namespace Go.Proofs.YtijechcadlklhaaGreat
open Go.Sy Go.Deep Go.ChangeShapes Go.WideShapes Go.ChangeAt Go.WideElems Go.RowKit
theorem hideEvery_pars : ∀ t ∈ [24, 25, 72], Tryz.prog.readableRec t = true ∧ t < Tryz.prog.types.size := fun t ht => by
  rcases List.mem_cons.1 ht with rfl | h0
  · exact ⟨by kernel_rfl, of_decide_eq_true (by kernel_rfl)⟩
  rcases List.mem_cons.1 h0 with rfl | h1
  · exact ⟨by kernel_rfl, of_decide_eq_true (by kernel_rfl)⟩
  rcases List.mem_cons.1 h1 with rfl | h2
  · exact ⟨by kernel_rfl, of_decide_eq_true (by kernel_rfl)⟩
  cases h2
set_option maxRecDepth 100000 in
theorem hideEvery_lifted (os : Os) (started : os.Started) (H : Type) (enc : TypeId × Value → H) :
    ReturnsInHanded {} Tryz.checked os 9 .any (Rows.hideEverySpec.pre6 enc Tryz.prog Tryz.f9 [] false) (Rows.hideEverySpec.post enc Tryz.prog Tryz.f9 false true false false) := by
  refine returnsInHanded_of_change (C := Tryz.checked) Tryz.ownK started (by kernel_rfl) Tryz.func9
    (ChangeSpec.witness6 (enc := enc) (C := Tryz.checked) false ⟨#[], #[.agg #[.slice none 0 0, .int .i64 0], .slice none 0 0, .slice none 0 0], []⟩ 8 (by kernel_rfl) (by kernel_rfl) (by kernel_rfl) (by kernel_rfl)) ?_
  intro W base args ds gs before hval0 hW _ _
  have hval : ∀ (j : Nat) t v, Tryz.f9.params[j]? = some t → args[j]? = some v → Value.okWide Tryz.prog W .any base t v := hval0
  have hW' := hW
  obtain ⟨p, q, hA0, hV, _, _, _⟩ := hW
  have hA : DataW.TrodAll enc Tryz.prog W 0 (fun _ => true) true Tryz.f9.params.toList args.toList ds p := hA0
  rw [Tryz.params9] at hA hval
  obtain ⟨v0, v1, v2, d0, d1, d2, p0, p1, p2, rfl, rfl, _, h0, h1, h2⟩ := trodAll_three hA
  obtain ⟨a0, s0⟩ : ∃ c : HT, SR (fun _ => none) (fun B => ¬ False) W c.s v0 := by
    obtain ⟨fuel, h⟩ := h0
    obtain ⟨c, _, h1⟩ := rdT _ _ _ h
    exact ⟨c, agg_of (by show (2 : Nat) ≠ 1; decide) h1⟩
  obtain ⟨x1, y1, z1, rfl⟩ := okWide_slice (show Tryz.prog.underlying 25 = some (.slice 41) by kernel_rfl) (hval 1 25 v1 rfl rfl)
  obtain ⟨a1, s1⟩ : ∃ l : List HC, SR (fun _ => none) (fun B => ¬ False) W (SC l) (.slice x1 y1 z1) := by
    obtain ⟨fuel, h⟩ := h1
    obtain ⟨l, _, h1⟩ := rdCells _ _ _ h
    exact ⟨l, one_of rfl h1⟩
  obtain ⟨x2, y2, z2, rfl⟩ := okWide_slice (show Tryz.prog.underlying 72 = some (.slice 64) by kernel_rfl) (hval 2 72 v2 rfl rfl)
  obtain ⟨a2, e2, s2⟩ : ∃ l : List Nat, (∀ n ∈ l, n < 65536) ∧ SR (fun _ => none) (fun B => ¬ False) W (SW l) (.slice x2 y2 z2) := by
    obtain ⟨fuel, h⟩ := h2
    exact words_of rfl h
  have := (HideEvery_c a0 a1 a2 e2).2 (fun _ => False) (fun _ => none) W #[v0, .slice x1 y1 z1, .slice x2 y2 z2] (fun _ h => h.elim) (fun g cs h => by cases h) rfl (fun i hi => by
    match i, hi with
    | 0, _ => exact s0
    | 1, _ => exact s1
    | 2, _ => exact s2)
  refine (callsIn_wide.1 this).mono fun e W' ⟨v, he, hv, ha⟩ => ?_
  have hv1 : v = .bool true := by cases hv with | d _ _ h => cases h; rfl
  subst hv1
  exact ⟨_, he, post_true rfl (by kernel_rfl) (by rw [Tryz.params9]; exact hideEvery_pars) hW' rfl ha⟩
theorem hideEvery_holds : Rows.HideEverySaid :=
  OpenClaim.holds_of_wide 9 Tryz.f9 rfl rfl rfl rfl rfl rfl rfl ⟨rfl, rfl, rfl, rfl, rfl⟩ rfl rfl rfl rfl rfl (by kernel_rfl) Tryz.func9 (by kernel_rfl)
    (of_decide_eq_true (by kernel_rfl)) (by unfold Func.isWrapper; first | (rw [if_pos (by decide +kernel)]; kernel_rfl) | (rw [if_neg (by decide +kernel)]; exact ⟨rfl, rfl⟩))
    (fun os started H enc _ => hideEvery_lifted os started H enc)
#print axioms hideEvery_holds
end Go.Proofs.YtijechcadlklhaaGreat
