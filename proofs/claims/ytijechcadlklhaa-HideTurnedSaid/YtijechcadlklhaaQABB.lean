/- HideRanges: whatever the input, the law returns true, and each argument reads behind the call as it read before. Conditions: none. -/
import Derived.Test.YtijechcadlklhaaQABA
set_option linter.unusedVariables false
namespace Go.Proofs.Ytijechcadlklhaa
open Go.Sy
set_option maxRecDepth 8000
theorem ranges_len (w : HW) (n m : Nat) : (w.ranges n m).length = n := by simp [HW.ranges]
theorem ranges_row (w : HW) {n m r : Nat} (hr : r < n) : ((w.ranges n m).getD r []).length = m := by simp [HW.ranges, List.getD_eq_getElem?_getD, hr]
theorem ranges_get (w : HW) {n m r c : Nat} (hr : r < n) (hc : c < m) : ((w.ranges n m).getD r []).getD c default = ⟨w.lo r c, w.hi r c⟩ := by simp [HW.ranges, List.getD_eq_getElem?_getD, hr, hc]
abbrev tysH30_3 := And.intro ty.sz0 <| And.intro ty.agg0 <| And.intro ty.elem0 <| And.intro ty.sz3 <| And.intro ty.agg3 <| And.intro ty.elem3 <| And.intro ty.zero3 <| And.intro ty.und3 <| And.intro ty.sz4 <| And.intro ty.agg4 <| And.intro ty.elem4 <| And.intro ty.zero4 <| And.intro ty.und4 <| And.intro ty.sz22 <| And.intro ty.agg22 <| And.intro ty.elem22 <| And.intro ty.by22 <| And.intro ty.ez22 <| And.intro ty.zero22 <| And.intro ty.und22 <| And.intro ty.sz24 <| And.intro ty.agg24 <| And.intro ty.fld24_0 <| And.intro ty.fld24_1 <| And.intro ty.elem24 <| And.intro ty.zero24 <| And.intro ty.pl24 <| And.intro ty.sz25 <| And.intro ty.agg25 <| And.intro ty.elem25 <| And.intro ty.by25 <| And.intro ty.ez25 <| And.intro ty.zero25 <| And.intro ty.und25 <| And.intro ty.sz28 <| And.intro ty.agg28 <| And.intro ty.elem28 <| And.intro ty.by28 <| And.intro ty.ez28 <| And.intro ty.zero28 <| And.intro ty.und28 <| And.intro ty.sz29 <| And.intro ty.agg29 <| And.intro ty.elem29 <| And.intro ty.zero29 <| And.intro ty.und29 <| And.intro ty.sz30 <| And.intro ty.agg30 <| And.intro ty.elem30 <| And.intro ty.sz32 <| And.intro ty.agg32 <| And.intro ty.fld32_0 <| And.intro ty.fld32_1 <| And.intro ty.elem32 <| And.intro ty.zero32 <| And.intro ty.pl32 <| And.intro ty.sz34 <| And.intro ty.agg34 <| And.intro ty.elem34 <| And.intro ty.by34 <| And.intro ty.ez34 <| And.intro ty.zero34 <| And.intro ty.und34 <| And.intro ty.sz37 <| And.intro ty.agg37 <| And.intro ty.elem37 <| And.intro ty.by37 <| And.intro ty.ez37 <| And.intro ty.zero37 <| And.intro ty.und37 <| And.intro ty.sz38 <| And.intro ty.agg38 <| And.intro ty.elem38 <| And.intro ty.by38 <| And.intro ty.ez38 <| And.intro ty.zero38 <| And.intro ty.und38 <| And.intro ty.sz40 <| And.intro ty.agg40 <| And.intro ty.fld40_0 <| And.intro ty.fld40_1 <| And.intro ty.elem40 <| And.intro ty.zero40 <| And.intro ty.pl40 <| And.intro ty.sz43 <| And.intro ty.agg43 <| And.intro ty.fld43_0 <| And.intro ty.fld43_1 <| And.intro ty.elem43 <| And.intro ty.zero43 <| And.intro ty.pl43 <| And.intro ty.sz44 <| And.intro ty.agg44 <| And.intro ty.fld44_0 <| And.intro ty.fld44_1 <| And.intro ty.elem44 <| And.intro ty.zero44 <| ty.pl44
set_option maxHeartbeats 2000000 in
theorem HideRanges_c (t : HT) (l : List HC) : CallP Try.prog G0 3 [t.s, SC l] (B true) := by
  refine CallP.body 97 [.tmp 4] Try.func3 (by kernel_rfl) rfl rfl rfl zP zP ?_
  refine Tr.reg [1, 2] (by
      simp only [↓sxd, sxu, ↓zE, ↓exq, ↓zN, Nat.reduceBEq, Nat.reduceAdd, Nat.reduceLT, Nat.reduceEqDiff]
      (all_goals try exact zF)) ?_
  refine Tr.seq ?_
  refine Tr.reg [1, 2, 14] (by
      simp only [↓sxd, sxu, ↓zE, ↓exq, ↓zD, Nat.reduceBEq, Nat.reduceAdd, Nat.reduceLT, tysH30_3]
      (repeat ((with_reducible refine And.intro ?_ ?_); (focus (exact zS))))
      refine CallO.use (thin0_c t l) ?_
      try simp only [↓sxd, sxu, ↓zE, ↓exq, ↓zJ, Nat.reduceBEq, Nat.reduceLT]
      (all_goals try exact zF)) ?_
  refine Tr.cond rfl (fun h14 => ?_) (fun h14 => ?_)
  · refine Tr.reg [4] (by
        simp only [↓sxd, sxu, ↓zE, Nat.reduceLT]
        (repeat ((with_reducible refine And.intro ?_ ?_); (focus (exact zS))))
        refine CallO.use (awake_c) ?_
        try simp only [↓sxd, sxu, ↓zE, ↓exq, Nat.reduceLT]
        (all_goals try exact zF)) ?_
    refine Tr.ret ?_
    (refine ⟨.inr rfl, ?_⟩; first | rfl | exact ⟨rfl, rfl, trivial⟩ | exact ⟨rfl, rfl, rfl, trivial⟩ | (simp only [Res, ResL, ResOK, ↓sxd, sxu, ↓zE, ↓zC, zH, ↓exP, ↓exq, ↓zB, ↓zI, ↓zJ, ↓zL, ↓zD, ↓zK, ↓zM, ↓zN, ↓zO, ↓zA, Nat.reduceBEq, Nat.reduceAdd, Nat.reduceLT, Nat.reduceMul, Nat.reduceSub, Nat.reduceLeDiff, Nat.reduceEqDiff, Int.reduceLE, Int.reduceLT, Int.reduceToNat, reduceIte, sxe, tysH30_3]; (repeat' (first | rfl | exact trivial | exact fun h => h | exact fun h => (by rw [h]; rfl) | apply And.intro | omega | exact Nat.le_of_ble_eq_true rfl))))
  · obtain ⟨hs, hl⟩ := thin0_of h14
    refine Tr.skip ?_
    refine Tr.reg [1, 2, 5, 6] (by
        simp only [↓sxd, sxu, ↓zE, ↓exq, ↓zD, Nat.reduceBEq, Nat.reduceAdd, Nat.reduceLT, tysH30_3]
        (repeat ((with_reducible refine And.intro ?_ ?_); (focus (exact zS))))
        refine CallO.use (Table_c t hs) ?_
        try simp only [↓sxd, sxu, ↓zE, ↓exq, Nat.reduceBEq, Nat.reduceLT]
        (repeat ((with_reducible refine And.intro ?_ ?_); (focus (exact zS))))
        refine CallO.use (Cells_c l hl) ?_
        try simp only [↓sxd, sxu, ↓zE, Nat.reduceBEq, Nat.reduceLT]
        (repeat ((with_reducible refine And.intro ?_ ?_); (focus (exact zS))))
        refine CallO.use (Ranges_c t l hs hl) ?_
        try simp only [↓sxd, sxu, ↓zE, ↓exq, ↓zK, Nat.reduceBEq, Nat.reduceAdd, Nat.reduceLT]
        (all_goals try exact zF)) ?_
    refine Tr.seq ?_
    refine Tr.reg [1, 2, 5, 6, 7] (by
        simp only [↓sxd, sxu, ↓zE, ↓exq, ↓zD, Nat.reduceBEq, Nat.reduceAdd, Nat.reduceLT, tysH30_3]
        (repeat ((with_reducible refine And.intro ?_ ?_); (focus (exact zS))))
        refine CallO.use (published_c t l hs hl) ?_
        try simp only [↓sxd, sxu, ↓zE, ↓exq, Nat.reduceBEq, Nat.reduceLT]
        (all_goals try exact zF)) ?_
    refine Tr.reg [1, 2, 5, 6, 7, 28] (by
        simp only [↓sxd, sxu, ↓zE, ↓exq, Nat.reduceBEq, Nat.reduceLT]
        (all_goals try exact zF)) ?_
    refine Tr.cond rfl (fun h28 => ?_) (fun h28 => ?_)
    · have hp : t.pub l ≠ 0 := by simpa using h28
      rw [if_neg hp]
      refine Tr.reg [4] (by
          simp only [↓sxd, sxu, ↓zE, ↓exq, Nat.reduceBEq, Nat.reduceLT]
          iterate 3
            (repeat ((with_reducible refine And.intro ?_ ?_); (focus (exact zS))))
            refine GdO.mk _ (fun hg => by simp only [↓sxd, sxu, ↓exq, ↓zB, ↓zL, Nat.reduceBEq, sxe, tysH30_3]; (all_goals try exact zF)) ?_
            simp only [↓sxd, sxu, ↓zE, ↓exq, ↓zI, Nat.reduceBEq, Nat.reduceLT]
          (repeat ((with_reducible refine And.intro ?_ ?_); (focus (exact zS))))
          refine GdO.mk _ (fun hg => by simp only [sxu, ↓exq, ↓zB]; (repeat ((with_reducible refine And.intro ?_ ?_); (focus (exact zS)))); exact CallP.use (awake_c) ⟨rfl, rfl, rfl⟩) ?_
          simp only [↓sxd, sxu, ↓zE, ↓exq, ↓zI, Nat.reduceBEq, Nat.reduceLT]
          (all_goals try exact zF)) ?_
      refine Tr.ret ?_
      (refine ⟨.inr rfl, ?_⟩; first | rfl | exact ⟨rfl, rfl, trivial⟩ | exact ⟨rfl, rfl, rfl, trivial⟩ | (simp only [Res, ResL, ResOK, ↓sxd, sxu, ↓zE, ↓zC, zH, ↓exP, ↓exq, ↓zB, ↓zI, ↓zJ, ↓zL, ↓zD, ↓zK, ↓zM, ↓zN, ↓zO, ↓zA, Nat.reduceBEq, Nat.reduceAdd, Nat.reduceLT, Nat.reduceMul, Nat.reduceSub, Nat.reduceLeDiff, Nat.reduceEqDiff, Int.reduceLE, Int.reduceLT, Int.reduceToNat, reduceIte, sxe, tysH30_3]; (repeat' (first | rfl | exact trivial | exact fun h => h | exact fun h => (by rw [h]; rfl) | apply And.intro | omega | exact Nat.le_of_ble_eq_true rfl))))
    · have hp : t.pub l = 0 := by simpa using h28
      rw [if_pos hp, hp]
      have hB := fun r c hr hc => Bounds_c t l r c hp hr hc
      have hRl : ((t.w l).ranges t.n t.m).length = t.rows.length := ranges_len _ _ _
      have hRr : ∀ r, r < t.rows.length → (((t.w l).ranges t.n t.m).getD r []).length = (t.rows.getD 0 []).length := fun r hr => ranges_row _ hr
      have hRg : ∀ r c, r < t.rows.length → c < (t.rows.getD 0 []).length → (((t.w l).ranges t.n t.m).getD r []).getD c default = ⟨(t.w l).lo r c, (t.w l).hi r c⟩ := fun r c hr hc => ranges_get _ hr hc
      have hd : Dim t.rows.length (t.rows.getD 0 []).length t.rows := (HT.w_ok hp).dim
      have hsz := hs.1
      generalize (t.w l).ranges t.n t.m = R at hRl hRr hRg ⊢
      refine Tr.skip ?_
      refine Tr.seq ?_
      refine Tr.reg [1, 2, 5, 49] (by
          simp only [↓sxd, sxu, ↓zE, ↓exq, Nat.reduceBEq, Nat.reduceLT]
          iterate 6
            (repeat ((with_reducible refine And.intro ?_ ?_); (focus (exact zS))))
            refine GdO.mk _ (fun hg => by simp only [↓sxd, sxu, ↓exq, ↓zB, ↓zL, ↓zD, ↓zA, Nat.reduceBEq, Nat.reduceAdd, Nat.reduceLT, Nat.reduceEqDiff, sxe, tysH30_3, hg]; (all_goals try exact zF)) ?_
            simp only [↓sxd, sxu, ↓zE, ↓exq, ↓zI, Nat.reduceBEq, Nat.reduceLT]
          (all_goals try exact zF)) ?_
      refine Tr.cond rfl (fun h49 => ?_) (fun h49 => ?_)
      · rw [hRl] at h49; simp at h49
      · refine Tr.skip ?_
        refine Tr.seq ?_
        refine Tr.reg [1, 2, 5, 8] (by
            simp only [↓sxd, sxu, ↓zE, ↓exq, Nat.reduceBEq, Nat.reduceLT]
            (all_goals try exact zF)) ?_
        refine Tr.imp (st' := ⟨[(1, SC l), (2, .ptr 0 0 0), (5, SRL R), (8, I 0)], [(0, tbx t)], 1, 97, [], 0⟩) (Imp.keepAll) (Tr.block (Tr.loopI (fun mm ss => ∃ (r : Nat), (r ≤ t.rows.length) ∧ t.rows.length - r = mm ∧ ss = ⟨[(1, SC l), (2, .ptr 0 0 0), (5, SRL R), (8, I r)], [(0, tbx t)], 1, 97, [], 0⟩) _ ⟨0, ?_, rfl, rfl⟩ ?_))
        · exact Nat.zero_le _
        rintro mm ss ⟨r, hI, rfl, rfl⟩
        refine Tr.seq ?_
        refine Tr.reg [1, 2, 5, 8, 53] (by
            simp only [↓sxd, sxu, ↓zE, ↓exq, ↓zB, ↓zL, Nat.reduceBEq, Nat.reduceLT, sxe, tysH30_3]
            (all_goals try exact zF)) ?_
        refine Tr.cond rfl (fun h53 => ?_) (fun h53 => ?_)
        · have hlt : r < t.rows.length := by rw [hRl] at h53; simpa using h53
          have hlR : r < R.length := by rw [hRl]; exact hlt
          have hrl := hRr r hlt
          have hdl := hd.2 r hlt
          refine Tr.skip ?_
          refine Tr.seq ?_
          refine Tr.block ?_
          refine Tr.seq ?_
          refine Tr.regD [0, 1, 2, 3, 4, 5, 6, 7, 8, 9, 10, 11] [] [] [1, 2, 5, 8, 67] mix (by kernel_rfl) (by
              simp only [↓sxd, sxu, ↓zC, zH, ↓exq, ↓zB, ↓zL, ↓zD, ↓zA, Nat.reduceBEq, Nat.reduceAdd, Nat.reduceLT, Nat.reduceEqDiff, sxe, tysH30_3, hlt, hlR]
              (all_goals try exact zF)) ?_
          refine Tr.cond rfl (fun h67 => ?_) (fun h67 => ?_)
          · rw [hrl, hdl] at h67; simp at h67
          · refine Tr.skip ?_
            refine Tr.reg [1, 2, 5, 8, 9] (by
                simp only [↓sxd, sxu, ↓zE, ↓exq, Nat.reduceBEq, Nat.reduceLT]
                (all_goals try exact zF)) ?_
            refine Tr.imp (st' := ⟨[(1, SC l), (2, .ptr 0 0 0), (5, SRL R), (8, I r), (9, I 0)], [(0, tbx t)], 1, 97, [], 0⟩) (Imp.keepAll) (Tr.block (Tr.loopI (fun mm ss => ∃ (c : Nat), (c ≤ (t.rows.getD 0 []).length) ∧ (t.rows.getD 0 []).length - c = mm ∧ ss = ⟨[(1, SC l), (2, .ptr 0 0 0), (5, SRL R), (8, I r), (9, I c)], [(0, tbx t)], 1, 97, [], 0⟩) _ ⟨0, ?_, rfl, rfl⟩ ?_))
            · exact Nat.zero_le _
            rintro mm ss ⟨c, hI, rfl, rfl⟩
            refine Tr.seq ?_
            refine Tr.reg [1, 2, 5, 8, 9, 74] (by
                simp only [↓sxd, sxu, ↓zE, ↓exq, ↓zB, ↓zL, ↓zD, Nat.reduceBEq, Nat.reduceLT, sxe, tysH30_3, hlR]
                (all_goals try exact zF)) ?_
            refine Tr.cond rfl (fun h74 => ?_) (fun h74 => ?_)
            · have hlc : c < (t.rows.getD 0 []).length := by rw [hrl] at h74; simpa using h74
              have hlC : c < (R.getD r []).length := by rw [hrl]; exact hlc
              have hg := hRg r c hlt hlc
              refine Tr.skip ?_
              refine Tr.seq ?_
              refine Tr.block ?_
              refine Tr.reg [1, 2, 5, 8, 9, 10] (by
                  simp only [↓sxd, sxu, ↓zE, ↓exq, ↓zD, ↓zO, Nat.reduceBEq, Nat.reduceAdd, Nat.reduceLT, Nat.reduceLeDiff, tysH30_3]
                  (repeat ((with_reducible refine And.intro ?_ ?_); (focus (exact zS))))
                  refine CallO.use (hB r c hlt hlc) ?_
                  try simp only [↓sxd, sxu, ↓zE, ↓exq, ↓zM, Nat.reduceBEq, Nat.reduceAdd, Nat.reduceLT, Nat.reduceEqDiff, tysH30_3]
                  (all_goals try exact zF)) ?_
              refine Tr.regD [0, 1, 2, 3, 4, 5, 6, 7, 8, 9, 10, 11, 12] [] [] [1, 2, 5, 8, 9, 95] mix (by kernel_rfl) (by
                  simp only [↓sxd, sxu, ↓zC, zH, ↓exq, ↓zD, ↓zO, ↓zA, Nat.reduceBEq, Nat.reduceAdd, Nat.reduceLT, Nat.reduceLeDiff, Nat.reduceEqDiff, sxe, tysH30_3, hlR, hlC, hg]
                  exact ⟨[(t.w l).lo r c, (t.w l).hi r c], [(t.w l).lo r c, (t.w l).hi r c], rfl, rfl, rfl, eqRange, rfl⟩) ?_
              refine Tr.cond rfl (fun h95 => ?_) (fun h95 => ?_)
              · simp at h95
              · refine Tr.skip ?_
                have w1 := add1 (show c < 4611686018427387904 by have := hs.2 _ (getD_mem' (l := t.rows) [] hlt); omega)
                refine Tr.reg1 [1, 2, 5, 8, 9] (by
                    simp only [↓sxd, sxu, ↓zE, ↓exq, Nat.reduceBEq, Nat.reduceLT, w1]
                    (all_goals try exact zF)) ?_
                refine ⟨_, _, ?_, ?_, ⟨c + 1, hlc, rfl, rfl⟩⟩
                · omega
                · exact Imp.go (rg 1 1) [(0, _)] rfl rfl (.cons _ (.refl _)) (fun _ h => absurd h (Nat.not_lt_zero _)) (fun id h => by rw [rg_ge h]; show 2 ≤ id + 1; omega) zT zT (fun h => h)
            · have hge : c = (t.rows.getD 0 []).length := by rw [hrl] at h74; have := of_decide_eq_false h74; omega
              refine Tr.exit ?_
              have w1 := add1 (show r < 4611686018427387904 by omega)
              refine Tr.reg1 [1, 2, 5, 8] (by
                  simp only [↓sxd, sxu, ↓zE, ↓exq, Nat.reduceBEq, Nat.reduceLT, w1]
                  (all_goals try exact zF)) ?_
              exact ⟨_, _, by omega, Imp.keepAll, ⟨r + 1, hlt, rfl, rfl⟩⟩
        · have hge : r = t.rows.length := by rw [hRl] at h53; simp at h53; omega
          refine Tr.exit ?_
          refine Tr.reg [4] (by
              simp only [↓sxd, sxu, ↓zE, Nat.reduceLT]
              (repeat ((with_reducible refine And.intro ?_ ?_); (focus (exact zS))))
              refine CallO.use (awake_c) ?_
              try simp only [↓sxd, sxu, ↓zE, ↓exq, Nat.reduceLT]
              (all_goals try exact zF)) ?_
          refine Tr.ret ?_
          (refine ⟨.inr rfl, ?_⟩; first | rfl | exact ⟨rfl, rfl, trivial⟩ | exact ⟨rfl, rfl, rfl, trivial⟩ | (simp only [Res, ResL, ResOK, ↓sxd, sxu, ↓zE, ↓zC, zH, ↓exP, ↓exq, ↓zB, ↓zI, ↓zJ, ↓zL, ↓zD, ↓zK, ↓zM, ↓zN, ↓zO, ↓zA, Nat.reduceBEq, Nat.reduceAdd, Nat.reduceLT, Nat.reduceMul, Nat.reduceSub, Nat.reduceLeDiff, Nat.reduceEqDiff, Int.reduceLE, Int.reduceLT, Int.reduceToNat, reduceIte, sxe, tysH30_3]; (repeat' (first | rfl | exact trivial | exact fun h => h | exact fun h => (by rw [h]; rfl) | apply And.intro | omega | exact Nat.le_of_ble_eq_true rfl))))
end Go.Proofs.Ytijechcadlklhaa
namespace Go.Proofs.Ytijechcadlklhaa
open Go.Sy Go.Deep Go.ChangeShapes Go.WideShapes Go.ChangeAt Go.WideElems Go.RowKit
theorem hideRanges_pars : ∀ t ∈ [24, 25], Try.prog.readableRec t = true ∧ t < Try.prog.types.size := fun t ht => by
  rcases List.mem_cons.1 ht with rfl | h0
  · exact ⟨by kernel_rfl, of_decide_eq_true (by kernel_rfl)⟩
  rcases List.mem_cons.1 h0 with rfl | h1
  · exact ⟨by kernel_rfl, of_decide_eq_true (by kernel_rfl)⟩
  cases h1
set_option maxRecDepth 100000 in
theorem hideRanges_lifted (os : Os) (started : os.Started) (H : Type) (enc : TypeId × Value → H) :
    ReturnsInHanded {} Try.checked os 3 .any (Rows.hideRangesSpec.pre6 enc Try.prog Try.f3 [] false) (Rows.hideRangesSpec.post enc Try.prog Try.f3 false true false false) := by
  refine returnsInHanded_of_change (C := Try.checked) Try.ownK started (by kernel_rfl) Try.func3
    (ChangeSpec.witness6 (enc := enc) (C := Try.checked) false ⟨#[], #[.agg #[.slice none 0 0, .int .i64 0], .slice none 0 0], []⟩ 8 (by kernel_rfl) (by kernel_rfl) (by kernel_rfl) (by kernel_rfl)) ?_
  intro W base args ds gs before hval0 hW _ _
  have hval : ∀ (j : Nat) t v, Try.f3.params[j]? = some t → args[j]? = some v → Value.okWide Try.prog W .any base t v := hval0
  have hW' := hW
  obtain ⟨p, q, hA0, hV, _, _, _⟩ := hW
  have hA : DataW.TrodAll enc Try.prog W 0 (fun _ => true) true Try.f3.params.toList args.toList ds p := hA0
  rw [Try.params3] at hA hval
  obtain ⟨v0, v1, d0, d1, p0, p1, rfl, rfl, _, h0, h1⟩ := trodAll_two hA
  obtain ⟨a0, s0⟩ : ∃ c : HT, SR (fun _ => none) (fun B => ¬ False) W c.s v0 := by
    obtain ⟨fuel, h⟩ := h0
    obtain ⟨c, _, h1⟩ := rdT _ _ _ h
    exact ⟨c, agg_of (by show (2 : Nat) ≠ 1; decide) h1⟩
  obtain ⟨x1, y1, z1, rfl⟩ := okWide_slice (show Try.prog.underlying 25 = some (.slice 43) by kernel_rfl) (hval 1 25 v1 rfl rfl)
  obtain ⟨a1, s1⟩ : ∃ l : List HC, SR (fun _ => none) (fun B => ¬ False) W (SC l) (.slice x1 y1 z1) := by
    obtain ⟨fuel, h⟩ := h1
    obtain ⟨l, _, h1⟩ := rdCells _ _ _ h
    exact ⟨l, one_of rfl h1⟩
  have := (HideRanges_c a0 a1).2 (fun _ => False) (fun _ => none) W #[v0, .slice x1 y1 z1] (fun _ h => h.elim) (fun g cs h => by cases h) rfl (fun i hi => by
    match i, hi with
    | 0, _ => exact s0
    | 1, _ => exact s1)
  refine (callsIn_wide.1 this).mono fun e W' ⟨v, he, hv, ha⟩ => ?_
  have hv1 : v = .bool true := by cases hv with | d _ _ h => cases h; rfl
  subst hv1
  exact ⟨_, he, post_true rfl (by kernel_rfl) (by rw [Try.params3]; exact hideRanges_pars) hW' rfl ha⟩
theorem hideRanges_holds : Rows.HideRangesSaid :=
  OpenClaim.holds_of_wide 3 Try.f3 rfl rfl rfl rfl rfl rfl rfl ⟨rfl, rfl, rfl, rfl, rfl⟩ rfl rfl rfl rfl rfl (by kernel_rfl) Try.func3 (by kernel_rfl)
    (of_decide_eq_true (by kernel_rfl)) (by unfold Func.isWrapper; first | (rw [if_pos (by decide +kernel)]; kernel_rfl) | (rw [if_neg (by decide +kernel)]; exact ⟨rfl, rfl⟩))
    (fun os started H enc _ => hideRanges_lifted os started H enc)
#print axioms hideRanges_holds
end Go.Proofs.Ytijechcadlklhaa
