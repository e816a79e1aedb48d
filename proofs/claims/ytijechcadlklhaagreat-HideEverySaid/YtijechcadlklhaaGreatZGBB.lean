/- Lemmas, part ZGBB. Conditions: none. -/
import Derived.Test.YtijechcadlklhaaGreatZGW
import Derived.Test.YtijechcadlklhaaGreatZGY
set_option linter.unusedVariables false
namespace Go.Proofs.YtijechcadlklhaaGreat
open Go.Sy
set_option maxRecDepth 8000
theorem aw1 : t3.pub l4 = 0 := by kernel_rfl
theorem aw2 : (t3.w l4).ranges t3.n t3.m = [[⟨0, 6⟩, ⟨0, 6⟩, ⟨3, 3⟩], [⟨1, 7⟩, ⟨3, 9⟩, ⟨4, 4⟩], [⟨6, 6⟩, ⟨0, 0⟩, ⟨7, 7⟩]] := by kernel_rfl
theorem aw3 : t3.showA l4 ⟨0, 0⟩ true = ([[6, 0, 3], [1, 9, 4], [6, 0, 7]], 0) := by kernel_rfl
theorem aw4 : t3.expose l4 [⟨⟨0, 0⟩, 3, 1⟩, ⟨⟨1, 1⟩, 2, 2⟩] = (1, 0) := by kernel_rfl
theorem aw5 : t3.hideA [⟨0, 0⟩] [⟨⟨0, 0⟩, 3, 2⟩] = ([⟨0, 0⟩, ⟨0, 2⟩, ⟨1, 0⟩, ⟨1, 2⟩], 0) := by kernel_rfl
theorem t3_small : small8 t3.rows := ⟨by decide, by decide⟩
theorem awR : ∃ R, CallP Tryz.prog G0 25 [t3.s, SC l4] (.tup [SRL R, I 0]) ∧ R.length = 3 ∧ (R.getD 0 []).length = 3 ∧ (R.getD 1 []).length = 3 ∧ (R.getD 0 []).getD 0 default = ⟨0, 6⟩ ∧ (R.getD 0 []).getD 2 default = ⟨3, 3⟩ ∧ (R.getD 1 []).getD 1 default = ⟨3, 9⟩ := by
  have := Ranges_c t3 l4 t3_small (by decide)
  rw [aw1, if_pos rfl, aw2] at this
  exact ⟨_, this, rfl, rfl, rfl, rfl, rfl, rfl⟩
theorem awS : ∃ M, CallP Tryz.prog G0 38 [t3.s, SC l4, (HC.mk 0 0).s, B true] (.tup [SL M, I 0]) ∧ M.length = 3 ∧ (M.getD 1 []).length = 3 ∧ (M.getD 1 []).getD 1 0 = 9 := by
  have := Show_c t3 l4 ⟨0, 0⟩ true t3_small (by decide)
  rw [aw3] at this
  exact ⟨_, this, rfl, rfl, rfl⟩
theorem awE : CallP Tryz.prog G0 12 [t3.s, SC l4, SQ [⟨⟨0, 0⟩, 3, 1⟩, ⟨⟨1, 1⟩, 2, 2⟩]] (.tup [I 1, I 0]) := by
  have := Exposed_c t3 l4 [⟨⟨0, 0⟩, 3, 1⟩, ⟨⟨1, 1⟩, 2, 2⟩] t3_small (by decide) (by decide)
  rwa [aw4] at this
theorem awH : ∃ S, CallP Tryz.prog G0 18 [t3.s, SC [⟨0, 0⟩], SQ [⟨⟨0, 0⟩, 3, 2⟩]] (.tup [SC S, I 0]) ∧ S.length = 4 ∧ S.getD 1 default = ⟨0, 2⟩ ∧ S.getD 3 default = ⟨1, 2⟩ := by
  have := Hide_c t3 [⟨0, 0⟩] [⟨⟨0, 0⟩, 3, 2⟩] t3_small (by decide) (by decide)
  rw [aw5] at this
  exact ⟨_, this, rfl, rfl, rfl⟩
abbrev tysH29_40 := And.intro ty.sz0 <| And.intro ty.agg0 <| And.intro ty.elem0 <| And.intro ty.sz3 <| And.intro ty.agg3 <| And.intro ty.elem3 <| And.intro ty.zero3 <| And.intro ty.und3 <| And.intro ty.sz36 <| And.intro ty.agg36 <| And.intro ty.elem36 <| And.intro ty.by36 <| And.intro ty.ez36 <| And.intro ty.zero36 <| And.intro ty.und36 <| And.intro ty.sz79 <| And.intro ty.agg79 <| And.intro ty.fld79_0 <| And.intro ty.fld79_1 <| And.intro ty.elem79 <| And.intro ty.zero79 <| And.intro ty.pl79 <| And.intro ty.sz88 <| And.intro ty.agg88 <| And.intro ty.fld88_0 <| And.intro ty.fld88_1 <| And.intro ty.fld88_2 <| And.intro ty.elem88 <| And.intro ty.zero88 <| ty.pl88
theorem asks_h (c : HC) (a b : Int) (hp : HpT) (nx : Nat) : CallH Tryz.prog G0 40 [c.s, I a, I b] hp nx (Det (.slc (nx + 1) 4 0 1 1) ((nx + 1, .arr 4 (vQ [⟨c, a, b⟩])) :: (nx, .arr 2 [[I c.row, I c.col]]) :: hp) (nx + 2)) := by
  refine CallH.body 12 [.tmp 6] Tryz.func40 (by kernel_rfl) rfl rfl rfl ?_
  refine Tr.reg [1, 2, 3] (by
      simp only [↓sxd, sxu, ↓zE, ↓exq, ↓zM, Nat.reduceBEq, Nat.reduceAdd, Nat.reduceLT, Nat.reduceEqDiff]
      (all_goals try exact zF)) ?_
  refine Tr.regTs 6 [6] rfl (RegT.cut 4 2 [10] (by decide) (by
    simp only [List.drop_zero, List.take_succ_cons, List.take_zero]
    simp only [↓sxd, sxu, ↓zE, ↓exq, ↓zD, ↓zO, Nat.reduceBEq, Nat.reduceAdd, Nat.reduceLT, Nat.reduceLeDiff, tysH29_40]
    (repeat' (first | rfl | exact trivial | exact fun h => h | exact fun h => (by rw [h]; rfl) | apply And.intro | omega | exact Nat.le_of_ble_eq_true rfl))) (RegT.own (k := 4) (n := 0) (sz := 4) (es := vQ [⟨c, a, b⟩]) rfl rfl rfl rfl (show 11 < 12 by decide) (by kernel_rfl) (by decide) (by kernel_rfl) rfl rfl rfl rfl (by decide) (RegT.cut (k := 5) 1 0 [6] (by decide) (by
    simp only [List.drop_succ_cons, List.drop_zero, List.take_succ_cons, List.take_zero]
    simp only [↓sxd, sxu, ↓zE, ↓exq, Nat.reduceLT]
    (repeat' (first | rfl | exact trivial | exact fun h => h | exact fun h => (by rw [h]; rfl) | apply And.intro | omega | exact Nat.le_of_ble_eq_true rfl))) (RegT.nil rfl)))) ?_
  refine Tr.ret ?_
  (refine ⟨.inr rfl, ?_⟩; first | rfl | exact ⟨rfl, rfl, trivial⟩ | exact ⟨rfl, rfl, rfl, trivial⟩ | (simp only [Res, ResOK, sxu]; (repeat' (first | rfl | exact trivial | exact fun h => h | exact fun h => (by rw [h]; rfl) | apply And.intro | omega | exact Nat.le_of_ble_eq_true rfl))))
abbrev tysH29_11 := And.intro ty.sz0 <| And.intro ty.agg0 <| And.intro ty.elem0 <| And.intro ty.sz3 <| And.intro ty.agg3 <| And.intro ty.elem3 <| And.intro ty.zero3 <| And.intro ty.und3 <| And.intro ty.sz4 <| And.intro ty.agg4 <| And.intro ty.elem4 <| And.intro ty.zero4 <| And.intro ty.und4 <| And.intro ty.sz22 <| And.intro ty.agg22 <| And.intro ty.elem22 <| And.intro ty.by22 <| And.intro ty.ez22 <| And.intro ty.zero22 <| And.intro ty.und22 <| And.intro ty.sz29 <| And.intro ty.agg29 <| And.intro ty.elem29 <| And.intro ty.zero29 <| And.intro ty.und29 <| And.intro ty.sz30 <| And.intro ty.agg30 <| And.intro ty.elem30 <| And.intro ty.sz32 <| And.intro ty.agg32 <| And.intro ty.fld32_0 <| And.intro ty.fld32_1 <| And.intro ty.elem32 <| And.intro ty.zero32 <| And.intro ty.pl32 <| And.intro ty.sz34 <| And.intro ty.agg34 <| And.intro ty.elem34 <| And.intro ty.by34 <| And.intro ty.ez34 <| And.intro ty.zero34 <| And.intro ty.und34 <| And.intro ty.sz36 <| And.intro ty.agg36 <| And.intro ty.elem36 <| And.intro ty.by36 <| And.intro ty.ez36 <| And.intro ty.zero36 <| And.intro ty.und36 <| And.intro ty.sz44 <| And.intro ty.agg44 <| And.intro ty.elem44 <| And.intro ty.by44 <| And.intro ty.ez44 <| And.intro ty.zero44 <| And.intro ty.und44 <| And.intro ty.sz45 <| And.intro ty.agg45 <| And.intro ty.elem45 <| And.intro ty.sz55 <| And.intro ty.agg55 <| And.intro ty.elem55 <| And.intro ty.by55 <| And.intro ty.ez55 <| And.intro ty.zero55 <| And.intro ty.und55 <| And.intro ty.sz56 <| And.intro ty.agg56 <| And.intro ty.elem56 <| And.intro ty.sz58 <| And.intro ty.agg58 <| And.intro ty.elem58 <| And.intro ty.by58 <| And.intro ty.ez58 <| And.intro ty.zero58 <| And.intro ty.und58 <| And.intro ty.sz60 <| And.intro ty.agg60 <| And.intro ty.fld60_0 <| And.intro ty.fld60_1 <| And.intro ty.elem60 <| And.intro ty.zero60 <| And.intro ty.pl60 <| And.intro ty.sz77 <| And.intro ty.agg77 <| And.intro ty.elem77 <| And.intro ty.sz79 <| And.intro ty.agg79 <| And.intro ty.fld79_0 <| And.intro ty.fld79_1 <| And.intro ty.elem79 <| And.intro ty.zero79 <| ty.pl79
set_option maxHeartbeats 4000000 in
theorem awake_c : CallP Tryz.prog G0 11 [] (B true) := by
  obtain ⟨R, hR, r1, r2, r3, r4, r5, r6⟩ := awR
  obtain ⟨M, hM, m1, m2, m3⟩ := awS
  obtain ⟨S, hS, s1, s2, s3⟩ := awH
  refine CallP.body 138 [.tmp 0] Tryz.func11 (by kernel_rfl) rfl rfl rfl zP zP ?_
  refine Tr.reg [] (by
      simp only [↓sxd, sxu, ↓zE, ↓exq, Nat.reduceLT]
      (all_goals try exact zF)) ?_
  refine Tr.reg [1, 2] (by
      simp only [↓sxd, sxu, ↓zE, Nat.reduceLT]
      (repeat ((with_reducible refine And.intro ?_ ?_); (focus (exact zS))))
      refine CallO.use (three_c) ?_
      try simp only [↓sxd, sxu, ↓zE, Nat.reduceLT]
      (repeat ((with_reducible refine And.intro ?_ ?_); (focus (exact zS))))
      refine CallO.use (four_c) ?_
      try simp only [↓sxd, sxu, ↓zE, Nat.reduceBEq, Nat.reduceLT]
      (repeat ((with_reducible refine And.intro ?_ ?_); (focus (exact zS))))
      refine CallO.use (hR) ?_
      try simp only [↓sxd, sxu, ↓zE, ↓exq, ↓zH, Nat.reduceBEq, Nat.reduceAdd, Nat.reduceLT]
      (all_goals try exact zF)) ?_
  refine Tr.reg [1, 2, 3, 4] (by
      simp only [↓sxd, sxu, ↓zE, Nat.reduceLT]
      (repeat ((with_reducible refine And.intro ?_ ?_); (focus (exact zS))))
      refine CallO.use (three_c) ?_
      try simp only [↓sxd, sxu, ↓zE, Nat.reduceLT]
      (repeat ((with_reducible refine And.intro ?_ ?_); (focus (exact zS))))
      refine CallO.use (four_c) ?_
      try simp only [↓sxd, sxu, ↓zE, Nat.reduceLT]
      (repeat ((with_reducible refine And.intro ?_ ?_); (focus (exact zS))))
      refine CallO.use (at_c 0 0) ?_
      try simp only [↓sxd, sxu, ↓zE, Nat.reduceBEq, Nat.reduceLT]
      (repeat ((with_reducible refine And.intro ?_ ?_); (focus (exact zS))))
      refine CallO.use (hM) ?_
      try simp only [↓sxd, sxu, ↓zE, ↓exq, ↓zH, Nat.reduceBEq, Nat.reduceAdd, Nat.reduceLT]
      (all_goals try exact zF)) ?_
  refine Tr.reg [1, 2, 3, 4, 5, 6] (by
      simp only [↓sxd, sxu, ↓zE, Nat.reduceLT]
      (repeat ((with_reducible refine And.intro ?_ ?_); (focus (exact zS))))
      refine CallO.use (three_c) ?_
      try simp only [↓sxd, sxu, ↓zE, Nat.reduceLT]
      (repeat ((with_reducible refine And.intro ?_ ?_); (focus (exact zS))))
      refine CallO.use (four_c) ?_
      try simp only [↓sxd, sxu, ↓zE, Nat.reduceLT]
      (repeat ((with_reducible refine And.intro ?_ ?_); (focus (exact zS))))
      refine CallO.use (at_c 0 0) ?_
      try simp only [↓sxd, sxu, ↓zE, Nat.reduceLT]
      (repeat ((with_reducible refine And.intro ?_ ?_); (focus (exact zS))))
      refine CallH.mono (asks_h ⟨0, 0⟩ 3 1 _ _) ?_
      rintro r' hp' nx' ⟨rfl, rfl, rfl⟩
      try simp only [↓sxd, sxu, ↓zE, Nat.reduceLT]
      (repeat ((with_reducible refine And.intro ?_ ?_); (focus (exact zS))))
      refine CallO.use (at_c 1 1) ?_
      try simp only [↓sxd, sxu, ↓zE, Nat.reduceLT]
      (repeat ((with_reducible refine And.intro ?_ ?_); (focus (exact zS))))
      refine CallO.use (asks_c ⟨1, 1⟩ 2 2) ?_
      try simp only [↓sxd, sxu, ↓zE, ↓exq, ↓zB, ↓zQ, Nat.reduceBEq, Nat.reduceAdd, Nat.reduceLT, Nat.reduceLeDiff, Nat.reduceEqDiff, sxe, tysH29_11, vQ_len]
      (repeat ((with_reducible refine And.intro ?_ ?_); (focus (exact zS))))
      refine CallO.useZ [] awE (List.nil_sublist _) (.cons (TnS.agg (.cons (TnS.d _) (.cons (TnS.d _) .nil))) (.cons (TnS.d _) (.cons (TnS.frz0 (sz := 4) (es := vQ [⟨⟨0, 0⟩, 3, 1⟩, ⟨⟨1, 1⟩, 2, 2⟩]) (by exact rfl) (by simp) (by decide) rfl (vQ_fz _)) .nil))) ?_
      try simp only [↓sxd, sxu, ↓zE, ↓exq, ↓zH, Nat.reduceBEq, Nat.reduceAdd, Nat.reduceLT]
      (all_goals try exact zF)) ?_
  refine Tr.regD [0, 1, 2, 3, 4, 5, 6, 7, 8, 9, 10] [] [] [1, 2, 3, 4, 5, 6, 7, 8] mix (by kernel_rfl) (by
      simp only [↓sxd, sxu, ↓zC, Nat.reduceLT]
      (repeat ((with_reducible refine And.intro ?_ ?_); (focus (exact zS))))
      refine CallD.use (three_c) ?_
      try simp only [↓sxd, sxu, ↓zC, Nat.reduceLT]
      (repeat ((with_reducible refine And.intro ?_ ?_); (focus (exact zS))))
      refine CallD.use (four_c) ?_
      try simp only [↓sxd, sxu, ↓zC, zJ, ↓exq, ↓zV, sbnd, Nat.reduceLT, Int.reduceLE, sxe, tysH29_11]
      (repeat ((with_reducible refine And.intro ?_ ?_); (focus (exact zS))))
      refine CallD.use (at_c 0 0) ?_
      try simp only [↓sxd, sxu, ↓zC, Nat.reduceLT]
      (repeat ((with_reducible refine And.intro ?_ ?_); (focus (exact zS))))
      refine CallD.use (asks_c ⟨0, 0⟩ 3 2) ?_
      try simp only [↓sxd, sxu, ↓zC, Nat.reduceBEq, Nat.reduceLT]
      (repeat ((with_reducible refine And.intro ?_ ?_); (focus (exact zS))))
      refine CallD.use (hS) ?_
      try simp only [↓sxd, sxu, ↓zC, zJ, ↓exq, ↓zH, Nat.reduceBEq, Nat.reduceAdd, Nat.reduceLT]
      (all_goals try exact zF)) ?_
  refine Tr.regV [] [] [0] mix (by kernel_rfl) (by
      try simp only [List.append_eq, List.cons_append, List.nil_append]
      simp only [↓zY, ↓z0, addA, ↓sxd, sxu, zJ, ↓exq, Nat.reduceBEq, Nat.reduceAdd, Nat.reduceLT]
      iterate 13
        (repeat ((with_reducible refine And.intro ?_ ?_); (focus (exact zS))))
        refine GdV.mk _ (fun hg => by simp only [↓sxd, sxu, ↓exP, ↓exq, ↓zB, ↓zL, ↓zD, Nat.reduceBEq, Nat.reduceAdd, Nat.reduceLT, Int.reduceLE, sxe, tysH29_11, r1, r2, r4, hg]; (all_goals try exact zF)) ?_
        simp only [↓zY, ↓z0, addA, sxu, zJ, ↓exq, ↓zI, Nat.reduceBEq, Nat.reduceAdd, Nat.reduceLT]
      (repeat ((with_reducible refine And.intro ?_ ?_); (focus (exact zS))))
      refine GdV.mk _ (fun hg => by simp only [sxu, ↓exP, hg]; first | exact between_c 0 6 | exact ⟨between_c 0 6, rfl, rfl⟩ | exact ⟨between_c 0 6, trivial⟩ | exact ⟨between_c 0 6, trivial, trivial⟩) ?_
      simp only [↓zY, ↓z0, addA, sxu, zJ, Nat.reduceBEq, Nat.reduceAdd, Nat.reduceLT]
      iterate 6
        (repeat ((with_reducible refine And.intro ?_ ?_); (focus (exact zS))))
        refine GdV.mk _ (fun hg => by simp only [↓sxd, sxu, ↓exP, ↓exq, ↓zD, Nat.reduceBEq, Nat.reduceAdd, Nat.reduceLT, Int.reduceLE, Int.reduceToNat, sxe, tysH29_11, eqRange, svInts, exists_and_left, r1, r2, r5, hg]; (all_goals try exact zF)) ?_
        simp only [↓zY, ↓z0, addA, sxu, zJ, ↓exq, ↓zI, Nat.reduceBEq, Nat.reduceAdd, Nat.reduceLT]
      (repeat ((with_reducible refine And.intro ?_ ?_); (focus (exact zS))))
      refine GdV.mk _ (fun hg => by simp only [sxu, ↓exP, hg]; first | exact between_c 3 3 | exact ⟨between_c 3 3, rfl, rfl⟩ | exact ⟨between_c 3 3, trivial⟩ | exact ⟨between_c 3 3, trivial, trivial⟩) ?_
      simp only [↓zY, ↓z0, addA, sxu, zJ, Nat.reduceBEq, Nat.reduceAdd, Nat.reduceLT]
      iterate 6
        (repeat ((with_reducible refine And.intro ?_ ?_); (focus (exact zS))))
        refine GdV.mk _ (fun hg => by simp only [↓sxd, sxu, ↓exP, ↓exq, ↓zD, Nat.reduceBEq, Nat.reduceAdd, Nat.reduceLT, Int.reduceLE, sxe, tysH29_11, eqRange, svInts, exists_and_left, r1, r3, r6, hg]; (all_goals try exact zF)) ?_
        simp only [↓zY, ↓z0, addA, sxu, zJ, ↓exq, ↓zI, Nat.reduceBEq, Nat.reduceAdd, Nat.reduceLT]
      (repeat ((with_reducible refine And.intro ?_ ?_); (focus (exact zS))))
      refine GdV.mk _ (fun hg => by simp only [sxu, ↓exP, hg]; first | exact between_c 3 9 | exact ⟨between_c 3 9, rfl, rfl⟩ | exact ⟨between_c 3 9, trivial⟩ | exact ⟨between_c 3 9, trivial, trivial⟩) ?_
      simp only [↓zY, ↓z0, addA, sxu, zJ, Nat.reduceBEq, Nat.reduceAdd, Nat.reduceLT]
      iterate 29
        (repeat ((with_reducible refine And.intro ?_ ?_); (focus (exact zS))))
        refine GdV.mk _ (fun hg => by simp only [↓sxd, sxu, ↓exP, ↓exq, ↓zB, ↓zL, ↓zD, Nat.reduceBEq, Nat.reduceAdd, Nat.reduceLT, Int.reduceLE, sxe, tysH29_11, eqRange, svInts, exists_and_left, m1, m2, m3, s1, s2, hg]; (all_goals try exact zF)) ?_
        simp only [↓zY, ↓z0, addA, sxu, zJ, ↓exq, ↓zI, Nat.reduceBEq, Nat.reduceAdd, Nat.reduceLT]
      (repeat ((with_reducible refine And.intro ?_ ?_); (focus (exact zS))))
      refine GdV.mk _ (fun hg => by simp only [sxu, ↓exP, hg]; first | exact at_c 0 2 | exact ⟨at_c 0 2, rfl, rfl⟩ | exact ⟨at_c 0 2, trivial⟩ | exact ⟨at_c 0 2, trivial, trivial⟩) ?_
      simp only [↓zY, ↓z0, addA, sxu, zJ, Nat.reduceBEq, Nat.reduceAdd, Nat.reduceLT]
      iterate 4
        (repeat ((with_reducible refine And.intro ?_ ?_); (focus (exact zS))))
        refine GdV.mk _ (fun hg => by simp only [↓sxd, sxu, ↓exP, ↓exq, ↓zD, Nat.reduceBEq, Nat.reduceAdd, Nat.reduceLT, Int.reduceLE, Int.reduceToNat, sxe, tysH29_11, eqCell, svInts, exists_and_left, s1, s3, hg]; (all_goals try exact zF)) ?_
        simp only [↓zY, ↓z0, addA, sxu, zJ, ↓exq, ↓zI, Nat.reduceBEq, Nat.reduceAdd, Nat.reduceLT]
      (repeat ((with_reducible refine And.intro ?_ ?_); (focus (exact zS))))
      refine GdV.mk _ (fun hg => by simp only [sxu, ↓exP, hg]; first | exact at_c 1 2 | exact ⟨at_c 1 2, rfl, rfl⟩ | exact ⟨at_c 1 2, trivial⟩ | exact ⟨at_c 1 2, trivial, trivial⟩) ?_
      simp only [↓zY, ↓z0, addA, sxu, zJ, Nat.reduceBEq, Nat.reduceAdd, Nat.reduceLT]
      (repeat ((with_reducible refine And.intro ?_ ?_); (focus (exact zS))))
      refine GdV.mk _ (fun hg => by simp only [↓sxd, sxu, ↓exP, ↓exq, Nat.reduceBEq, Nat.reduceAdd, eqCell, svInts, exists_and_left, hg]; (all_goals try exact zF)) ?_
      simp only [↓zY, ↓zZ, ↓z0, sxu, zJ, ↓exq, ↓zI, Nat.reduceBEq, Nat.reduceAdd, Nat.reduceLT]
      (all_goals try exact zF)) ?_
  refine Tr.ret ?_
  (refine ⟨.inr rfl, ?_⟩; first | rfl | exact ⟨rfl, rfl, trivial⟩ | exact ⟨rfl, rfl, rfl, trivial⟩ | (simp only [Res, ResL, ResOK, ↓sxd, sxu, ↓zE, ↓zC, zJ, ↓exP, ↓exq, ↓zB, ↓zI, ↓zK, ↓zL, ↓zD, ↓zH, ↓zQ, ↓zV, sbnd, Nat.reduceBEq, Nat.reduceAdd, Nat.reduceLT, Nat.reduceMul, Nat.reduceSub, Nat.reduceLeDiff, Nat.reduceEqDiff, Int.reduceLE, Int.reduceLT, Int.reduceToNat, reduceIte, sxe, tysH29_11]; (repeat' (first | rfl | exact trivial | exact fun h => h | exact fun h => (by rw [h]; rfl) | apply And.intro | omega | exact Nat.le_of_ble_eq_true rfl))))
end Go.Proofs.YtijechcadlklhaaGreat
namespace Go.Proofs.YtijechcadlklhaaGreat
open Go.Sy
set_option maxRecDepth 8000
theorem ranges_len (w : HW) (n m : Nat) : (w.ranges n m).length = n := by simp [HW.ranges]
theorem ranges_row (w : HW) {n m r : Nat} (hr : r < n) : ((w.ranges n m).getD r []).length = m := by simp [HW.ranges, List.getD_eq_getElem?_getD, hr]
theorem ranges_get (w : HW) {n m r c : Nat} (hr : r < n) (hc : c < m) : ((w.ranges n m).getD r []).getD c default = ⟨w.lo r c, w.hi r c⟩ := by simp [HW.ranges, List.getD_eq_getElem?_getD, hr, hc]
end Go.Proofs.YtijechcadlklhaaGreat
