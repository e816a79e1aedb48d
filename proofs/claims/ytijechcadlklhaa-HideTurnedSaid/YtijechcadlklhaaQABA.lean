/- Lemmas, part QABA. Conditions: none. -/
import Derived.Test.YtijechcadlklhaaQAW
import Derived.Test.YtijechcadlklhaaQAY
import Derived.Test.YtijechcadlklhaaQAZ
set_option linter.unusedVariables false
namespace Go.Proofs.Ytijechcadlklhaa
open Go.Sy
set_option maxRecDepth 8000
theorem aw1 : t3.pub l4 = 0 := by kernel_rfl
theorem aw2 : (t3.w l4).ranges t3.n t3.m = [[⟨0, 6⟩, ⟨0, 6⟩, ⟨3, 3⟩], [⟨1, 7⟩, ⟨3, 9⟩, ⟨4, 4⟩], [⟨6, 6⟩, ⟨0, 0⟩, ⟨7, 7⟩]] := by kernel_rfl
theorem aw3 : t3.showA l4 ⟨0, 0⟩ true = ([[6, 0, 3], [1, 9, 4], [6, 0, 7]], 0) := by kernel_rfl
theorem aw4 : t3.expose l4 [⟨⟨0, 0⟩, 3, 1⟩, ⟨⟨1, 1⟩, 2, 2⟩] = (1, 0) := by kernel_rfl
theorem aw5 : t3.hideA [⟨0, 0⟩] [⟨⟨0, 0⟩, 3, 2⟩] = ([⟨0, 0⟩, ⟨0, 2⟩, ⟨1, 0⟩, ⟨1, 2⟩], 0) := by kernel_rfl
theorem t3_small : small8 t3.rows := ⟨by decide, by decide⟩
theorem awR : ∃ R, CallP Try.prog G0 8 [t3.s, SC l4] (.tup [SRL R, I 0]) ∧ R.length = 3 ∧ (R.getD 0 []).length = 3 ∧ (R.getD 1 []).length = 3 ∧ (R.getD 0 []).getD 0 default = ⟨0, 6⟩ ∧ (R.getD 0 []).getD 2 default = ⟨3, 3⟩ ∧ (R.getD 1 []).getD 1 default = ⟨3, 9⟩ := by
  have := Ranges_c t3 l4 t3_small (by decide)
  rw [aw1, if_pos rfl, aw2] at this
  exact ⟨_, this, rfl, rfl, rfl, rfl, rfl, rfl⟩
theorem awS : ∃ M, CallP Try.prog G0 21 [t3.s, SC l4, (HC.mk 0 0).s, B true] (.tup [SL M, I 0]) ∧ M.length = 3 ∧ (M.getD 1 []).length = 3 ∧ (M.getD 1 []).getD 1 0 = 9 := by
  have := Show_c t3 l4 ⟨0, 0⟩ true t3_small (by decide)
  rw [aw3] at this
  exact ⟨_, this, rfl, rfl, rfl⟩
theorem awE : CallP Try.prog G0 23 [t3.s, SC l4, SQ [⟨⟨0, 0⟩, 3, 1⟩, ⟨⟨1, 1⟩, 2, 2⟩]] (.tup [I 1, I 0]) := by
  have := Exposed_c t3 l4 [⟨⟨0, 0⟩, 3, 1⟩, ⟨⟨1, 1⟩, 2, 2⟩] t3_small (by decide) (by decide)
  rwa [aw4] at this
theorem awH : ∃ S, CallP Try.prog G0 14 [t3.s, SC [⟨0, 0⟩], SQ [⟨⟨0, 0⟩, 3, 2⟩]] (.tup [SC S, I 0]) ∧ S.length = 4 ∧ S.getD 1 default = ⟨0, 2⟩ ∧ S.getD 3 default = ⟨1, 2⟩ := by
  have := Hide_c t3 [⟨0, 0⟩] [⟨⟨0, 0⟩, 3, 2⟩] t3_small (by decide) (by decide)
  rw [aw5] at this
  exact ⟨_, this, rfl, rfl, rfl⟩
abbrev tysH29_24 := And.intro ty.sz0 <| And.intro ty.agg0 <| And.intro ty.elem0 <| And.intro ty.sz3 <| And.intro ty.agg3 <| And.intro ty.elem3 <| And.intro ty.zero3 <| And.intro ty.und3 <| And.intro ty.sz52 <| And.intro ty.agg52 <| And.intro ty.elem52 <| And.intro ty.by52 <| And.intro ty.ez52 <| And.intro ty.zero52 <| And.intro ty.und52 <| And.intro ty.sz63 <| And.intro ty.agg63 <| And.intro ty.fld63_0 <| And.intro ty.fld63_1 <| And.intro ty.elem63 <| And.intro ty.zero63 <| And.intro ty.pl63 <| And.intro ty.sz85 <| And.intro ty.agg85 <| And.intro ty.fld85_0 <| And.intro ty.fld85_1 <| And.intro ty.fld85_2 <| And.intro ty.elem85 <| And.intro ty.zero85 <| ty.pl85
theorem asks_h (c : HC) (a b : Int) (hp : HpT) (nx : Nat) : CallH Try.prog G0 24 [c.s, I a, I b] hp nx (Det (.slc (nx + 1) 4 0 1 1) ((nx + 1, .arr 4 (vQ [⟨c, a, b⟩])) :: (nx, .arr 2 [[I c.row, I c.col]]) :: hp) (nx + 2)) := by
  refine CallH.body 12 [.tmp 6] Try.func24 (by kernel_rfl) rfl rfl rfl ?_
  refine Tr.reg [1, 2, 3] (by
      simp only [↓sxd, sxu, ↓zE, ↓exq, ↓zN, Nat.reduceBEq, Nat.reduceAdd, Nat.reduceLT, Nat.reduceEqDiff]
      (all_goals try exact zF)) ?_
  refine Tr.regTs 6 [6] rfl (RegT.cut 4 2 [10] (by decide) (by
    simp only [List.drop_zero, List.take_succ_cons, List.take_zero]
    simp only [↓sxd, sxu, ↓zE, ↓exq, ↓zD, ↓zO, Nat.reduceBEq, Nat.reduceAdd, Nat.reduceLT, Nat.reduceLeDiff, tysH29_24]
    (repeat' (first | rfl | exact trivial | exact fun h => h | exact fun h => (by rw [h]; rfl) | apply And.intro | omega | exact Nat.le_of_ble_eq_true rfl))) (RegT.own (k := 4) (n := 0) (sz := 4) (es := vQ [⟨c, a, b⟩]) rfl rfl rfl rfl (show 11 < 12 by decide) (by kernel_rfl) (by decide) (by kernel_rfl) rfl rfl rfl rfl (by decide) (RegT.cut (k := 5) 1 0 [6] (by decide) (by
    simp only [List.drop_succ_cons, List.drop_zero, List.take_succ_cons, List.take_zero]
    simp only [↓sxd, sxu, ↓zE, ↓exq, Nat.reduceLT]
    (repeat' (first | rfl | exact trivial | exact fun h => h | exact fun h => (by rw [h]; rfl) | apply And.intro | omega | exact Nat.le_of_ble_eq_true rfl))) (RegT.nil rfl)))) ?_
  refine Tr.ret ?_
  (refine ⟨.inr rfl, ?_⟩; first | rfl | exact ⟨rfl, rfl, trivial⟩ | exact ⟨rfl, rfl, rfl, trivial⟩ | (simp only [Res, ResOK, sxu]; (repeat' (first | rfl | exact trivial | exact fun h => h | exact fun h => (by rw [h]; rfl) | apply And.intro | omega | exact Nat.le_of_ble_eq_true rfl))))
abbrev tysH29_7 := And.intro ty.sz0 <| And.intro ty.agg0 <| And.intro ty.elem0 <| And.intro ty.sz3 <| And.intro ty.agg3 <| And.intro ty.elem3 <| And.intro ty.zero3 <| And.intro ty.und3 <| And.intro ty.sz4 <| And.intro ty.agg4 <| And.intro ty.elem4 <| And.intro ty.zero4 <| And.intro ty.und4 <| And.intro ty.sz22 <| And.intro ty.agg22 <| And.intro ty.elem22 <| And.intro ty.by22 <| And.intro ty.ez22 <| And.intro ty.zero22 <| And.intro ty.und22 <| And.intro ty.sz28 <| And.intro ty.agg28 <| And.intro ty.elem28 <| And.intro ty.by28 <| And.intro ty.ez28 <| And.intro ty.zero28 <| And.intro ty.und28 <| And.intro ty.sz29 <| And.intro ty.agg29 <| And.intro ty.elem29 <| And.intro ty.zero29 <| And.intro ty.und29 <| And.intro ty.sz30 <| And.intro ty.agg30 <| And.intro ty.elem30 <| And.intro ty.sz32 <| And.intro ty.agg32 <| And.intro ty.fld32_0 <| And.intro ty.fld32_1 <| And.intro ty.elem32 <| And.intro ty.zero32 <| And.intro ty.pl32 <| And.intro ty.sz34 <| And.intro ty.agg34 <| And.intro ty.elem34 <| And.intro ty.by34 <| And.intro ty.ez34 <| And.intro ty.zero34 <| And.intro ty.und34 <| And.intro ty.sz37 <| And.intro ty.agg37 <| And.intro ty.elem37 <| And.intro ty.by37 <| And.intro ty.ez37 <| And.intro ty.zero37 <| And.intro ty.und37 <| And.intro ty.sz38 <| And.intro ty.agg38 <| And.intro ty.elem38 <| And.intro ty.by38 <| And.intro ty.ez38 <| And.intro ty.zero38 <| And.intro ty.und38 <| And.intro ty.sz44 <| And.intro ty.agg44 <| And.intro ty.fld44_0 <| And.intro ty.fld44_1 <| And.intro ty.elem44 <| And.intro ty.zero44 <| And.intro ty.pl44 <| And.intro ty.sz50 <| And.intro ty.agg50 <| And.intro ty.elem50 <| And.intro ty.sz52 <| And.intro ty.agg52 <| And.intro ty.elem52 <| And.intro ty.by52 <| And.intro ty.ez52 <| And.intro ty.zero52 <| And.intro ty.und52 <| And.intro ty.sz61 <| And.intro ty.agg61 <| And.intro ty.elem61 <| And.intro ty.sz63 <| And.intro ty.agg63 <| And.intro ty.fld63_0 <| And.intro ty.fld63_1 <| And.intro ty.elem63 <| And.intro ty.zero63 <| And.intro ty.pl63 <| And.intro ty.sz65 <| And.intro ty.agg65 <| ty.elem65
set_option maxHeartbeats 4000000 in
theorem awake_c : CallP Try.prog G0 7 [] (B true) := by
  obtain ⟨R, hR, r1, r2, r3, r4, r5, r6⟩ := awR
  obtain ⟨M, hM, m1, m2, m3⟩ := awS
  obtain ⟨S, hS, s1, s2, s3⟩ := awH
  refine CallP.body 138 [.tmp 0] Try.func7 (by kernel_rfl) rfl rfl rfl zP zP ?_
  refine Tr.reg [] (by
      simp only [↓sxd, sxu, ↓zE, ↓exq, Nat.reduceLT]
      (all_goals try exact zF)) ?_
  refine Tr.reg [1, 2] (by
      simp only [↓sxd, sxu, ↓zE, Nat.reduceLT]
      (repeat ((with_reducible refine And.intro ?_ ?_); (focus (exact zS))))
      refine CallO.use (three_c) ?_
      try simp only [↓sxd, sxu, ↓zE, Nat.reduceLT]
      (repeat ((with_reducible refine And.intro ?_ ?_); (focus (exact zS))))
      refine CallO.use (four_c) ?_
      try simp only [↓sxd, sxu, ↓zE, Nat.reduceBEq, Nat.reduceLT]
      (repeat ((with_reducible refine And.intro ?_ ?_); (focus (exact zS))))
      refine CallO.use (hR) ?_
      try simp only [↓sxd, sxu, ↓zE, ↓exq, ↓zK, Nat.reduceBEq, Nat.reduceAdd, Nat.reduceLT]
      (all_goals try exact zF)) ?_
  refine Tr.reg [1, 2, 3, 4] (by
      simp only [↓sxd, sxu, ↓zE, Nat.reduceLT]
      (repeat ((with_reducible refine And.intro ?_ ?_); (focus (exact zS))))
      refine CallO.use (three_c) ?_
      try simp only [↓sxd, sxu, ↓zE, Nat.reduceLT]
      (repeat ((with_reducible refine And.intro ?_ ?_); (focus (exact zS))))
      refine CallO.use (four_c) ?_
      try simp only [↓sxd, sxu, ↓zE, Nat.reduceLT]
      (repeat ((with_reducible refine And.intro ?_ ?_); (focus (exact zS))))
      refine CallO.use (at_c 0 0) ?_
      try simp only [↓sxd, sxu, ↓zE, Nat.reduceBEq, Nat.reduceLT]
      (repeat ((with_reducible refine And.intro ?_ ?_); (focus (exact zS))))
      refine CallO.use (hM) ?_
      try simp only [↓sxd, sxu, ↓zE, ↓exq, ↓zK, Nat.reduceBEq, Nat.reduceAdd, Nat.reduceLT]
      (all_goals try exact zF)) ?_
  refine Tr.reg [1, 2, 3, 4, 5, 6] (by
      simp only [↓sxd, sxu, ↓zE, Nat.reduceLT]
      (repeat ((with_reducible refine And.intro ?_ ?_); (focus (exact zS))))
      refine CallO.use (three_c) ?_
      try simp only [↓sxd, sxu, ↓zE, Nat.reduceLT]
      (repeat ((with_reducible refine And.intro ?_ ?_); (focus (exact zS))))
      refine CallO.use (four_c) ?_
      try simp only [↓sxd, sxu, ↓zE, Nat.reduceLT]
      (repeat ((with_reducible refine And.intro ?_ ?_); (focus (exact zS))))
      refine CallO.use (at_c 0 0) ?_
      try simp only [↓sxd, sxu, ↓zE, Nat.reduceLT]
      (repeat ((with_reducible refine And.intro ?_ ?_); (focus (exact zS))))
      refine CallH.mono (asks_h ⟨0, 0⟩ 3 1 _ _) ?_
      rintro r' hp' nx' ⟨rfl, rfl, rfl⟩
      try simp only [↓sxd, sxu, ↓zE, Nat.reduceLT]
      (repeat ((with_reducible refine And.intro ?_ ?_); (focus (exact zS))))
      refine CallO.use (at_c 1 1) ?_
      try simp only [↓sxd, sxu, ↓zE, Nat.reduceLT]
      (repeat ((with_reducible refine And.intro ?_ ?_); (focus (exact zS))))
      refine CallO.use (asks_c ⟨1, 1⟩ 2 2) ?_
      try simp only [↓sxd, sxu, ↓zE, ↓exq, ↓zB, ↓zQ, Nat.reduceBEq, Nat.reduceAdd, Nat.reduceLT, Nat.reduceLeDiff, Nat.reduceEqDiff, sxe, tysH29_7, vQ_len]
      (repeat ((with_reducible refine And.intro ?_ ?_); (focus (exact zS))))
      refine CallO.useZ [] awE (List.nil_sublist _) (.cons (TnS.agg (.cons (TnS.d _) (.cons (TnS.d _) .nil))) (.cons (TnS.d _) (.cons (TnS.frz0 (sz := 4) (es := vQ [⟨⟨0, 0⟩, 3, 1⟩, ⟨⟨1, 1⟩, 2, 2⟩]) (by exact rfl) (by simp) (by decide) rfl (vQ_fz _)) .nil))) ?_
      try simp only [↓sxd, sxu, ↓zE, ↓exq, ↓zK, Nat.reduceBEq, Nat.reduceAdd, Nat.reduceLT]
      (all_goals try exact zF)) ?_
  refine Tr.regD [0, 1, 2, 3, 4, 5, 6, 7, 8, 9, 10] [] [] [1, 2, 3, 4, 5, 6, 7, 8] mix (by kernel_rfl) (by
      simp only [↓sxd, sxu, ↓zC, Nat.reduceLT]
      (repeat ((with_reducible refine And.intro ?_ ?_); (focus (exact zS))))
      refine CallD.use (three_c) ?_
      try simp only [↓sxd, sxu, ↓zC, Nat.reduceLT]
      (repeat ((with_reducible refine And.intro ?_ ?_); (focus (exact zS))))
      refine CallD.use (four_c) ?_
      try simp only [↓sxd, sxu, ↓zC, zH, ↓exq, ↓zV, sbnd, Nat.reduceLT, Int.reduceLE, sxe, tysH29_7]
      (repeat ((with_reducible refine And.intro ?_ ?_); (focus (exact zS))))
      refine CallD.use (at_c 0 0) ?_
      try simp only [↓sxd, sxu, ↓zC, Nat.reduceLT]
      (repeat ((with_reducible refine And.intro ?_ ?_); (focus (exact zS))))
      refine CallD.use (asks_c ⟨0, 0⟩ 3 2) ?_
      try simp only [↓sxd, sxu, ↓zC, Nat.reduceBEq, Nat.reduceLT]
      (repeat ((with_reducible refine And.intro ?_ ?_); (focus (exact zS))))
      refine CallD.use (hS) ?_
      try simp only [↓sxd, sxu, ↓zC, zH, ↓exq, ↓zK, Nat.reduceBEq, Nat.reduceAdd, Nat.reduceLT]
      (all_goals try exact zF)) ?_
  refine Tr.regV [] [] [0] mix (by kernel_rfl) (by
      try simp only [List.append_eq, List.cons_append, List.nil_append]
      simp only [↓zY, ↓z0, addA, ↓sxd, sxu, zH, ↓exq, Nat.reduceBEq, Nat.reduceAdd, Nat.reduceLT]
      iterate 13
        (repeat ((with_reducible refine And.intro ?_ ?_); (focus (exact zS))))
        refine GdV.mk _ (fun hg => by simp only [↓sxd, sxu, ↓exP, ↓exq, ↓zB, ↓zL, ↓zD, Nat.reduceBEq, Nat.reduceAdd, Nat.reduceLT, Int.reduceLE, sxe, tysH29_7, r1, r2, r4, hg]; (all_goals try exact zF)) ?_
        simp only [↓zY, ↓z0, addA, sxu, zH, ↓exq, ↓zI, Nat.reduceBEq, Nat.reduceAdd, Nat.reduceLT]
      (repeat ((with_reducible refine And.intro ?_ ?_); (focus (exact zS))))
      refine GdV.mk _ (fun hg => by simp only [sxu, ↓exP, hg]; first | exact between_c 0 6 | exact ⟨between_c 0 6, rfl, rfl⟩ | exact ⟨between_c 0 6, trivial⟩ | exact ⟨between_c 0 6, trivial, trivial⟩) ?_
      simp only [↓zY, ↓z0, addA, sxu, zH, Nat.reduceBEq, Nat.reduceAdd, Nat.reduceLT]
      iterate 6
        (repeat ((with_reducible refine And.intro ?_ ?_); (focus (exact zS))))
        refine GdV.mk _ (fun hg => by simp only [↓sxd, sxu, ↓exP, ↓exq, ↓zD, Nat.reduceBEq, Nat.reduceAdd, Nat.reduceLT, Int.reduceLE, Int.reduceToNat, sxe, tysH29_7, eqRange, svInts, exists_and_left, r1, r2, r5, hg]; (all_goals try exact zF)) ?_
        simp only [↓zY, ↓z0, addA, sxu, zH, ↓exq, ↓zI, Nat.reduceBEq, Nat.reduceAdd, Nat.reduceLT]
      (repeat ((with_reducible refine And.intro ?_ ?_); (focus (exact zS))))
      refine GdV.mk _ (fun hg => by simp only [sxu, ↓exP, hg]; first | exact between_c 3 3 | exact ⟨between_c 3 3, rfl, rfl⟩ | exact ⟨between_c 3 3, trivial⟩ | exact ⟨between_c 3 3, trivial, trivial⟩) ?_
      simp only [↓zY, ↓z0, addA, sxu, zH, Nat.reduceBEq, Nat.reduceAdd, Nat.reduceLT]
      iterate 6
        (repeat ((with_reducible refine And.intro ?_ ?_); (focus (exact zS))))
        refine GdV.mk _ (fun hg => by simp only [↓sxd, sxu, ↓exP, ↓exq, ↓zD, Nat.reduceBEq, Nat.reduceAdd, Nat.reduceLT, Int.reduceLE, sxe, tysH29_7, eqRange, svInts, exists_and_left, r1, r3, r6, hg]; (all_goals try exact zF)) ?_
        simp only [↓zY, ↓z0, addA, sxu, zH, ↓exq, ↓zI, Nat.reduceBEq, Nat.reduceAdd, Nat.reduceLT]
      (repeat ((with_reducible refine And.intro ?_ ?_); (focus (exact zS))))
      refine GdV.mk _ (fun hg => by simp only [sxu, ↓exP, hg]; first | exact between_c 3 9 | exact ⟨between_c 3 9, rfl, rfl⟩ | exact ⟨between_c 3 9, trivial⟩ | exact ⟨between_c 3 9, trivial, trivial⟩) ?_
      simp only [↓zY, ↓z0, addA, sxu, zH, Nat.reduceBEq, Nat.reduceAdd, Nat.reduceLT]
      iterate 29
        (repeat ((with_reducible refine And.intro ?_ ?_); (focus (exact zS))))
        refine GdV.mk _ (fun hg => by simp only [↓sxd, sxu, ↓exP, ↓exq, ↓zB, ↓zL, ↓zD, Nat.reduceBEq, Nat.reduceAdd, Nat.reduceLT, Int.reduceLE, sxe, tysH29_7, eqRange, svInts, exists_and_left, m1, m2, m3, s1, s2, hg]; (all_goals try exact zF)) ?_
        simp only [↓zY, ↓z0, addA, sxu, zH, ↓exq, ↓zI, Nat.reduceBEq, Nat.reduceAdd, Nat.reduceLT]
      (repeat ((with_reducible refine And.intro ?_ ?_); (focus (exact zS))))
      refine GdV.mk _ (fun hg => by simp only [sxu, ↓exP, hg]; first | exact at_c 0 2 | exact ⟨at_c 0 2, rfl, rfl⟩ | exact ⟨at_c 0 2, trivial⟩ | exact ⟨at_c 0 2, trivial, trivial⟩) ?_
      simp only [↓zY, ↓z0, addA, sxu, zH, Nat.reduceBEq, Nat.reduceAdd, Nat.reduceLT]
      iterate 4
        (repeat ((with_reducible refine And.intro ?_ ?_); (focus (exact zS))))
        refine GdV.mk _ (fun hg => by simp only [↓sxd, sxu, ↓exP, ↓exq, ↓zD, Nat.reduceBEq, Nat.reduceAdd, Nat.reduceLT, Int.reduceLE, Int.reduceToNat, sxe, tysH29_7, eqCell, svInts, exists_and_left, s1, s3, hg]; (all_goals try exact zF)) ?_
        simp only [↓zY, ↓z0, addA, sxu, zH, ↓exq, ↓zI, Nat.reduceBEq, Nat.reduceAdd, Nat.reduceLT]
      (repeat ((with_reducible refine And.intro ?_ ?_); (focus (exact zS))))
      refine GdV.mk _ (fun hg => by simp only [sxu, ↓exP, hg]; first | exact at_c 1 2 | exact ⟨at_c 1 2, rfl, rfl⟩ | exact ⟨at_c 1 2, trivial⟩ | exact ⟨at_c 1 2, trivial, trivial⟩) ?_
      simp only [↓zY, ↓z0, addA, sxu, zH, Nat.reduceBEq, Nat.reduceAdd, Nat.reduceLT]
      (repeat ((with_reducible refine And.intro ?_ ?_); (focus (exact zS))))
      refine GdV.mk _ (fun hg => by simp only [↓sxd, sxu, ↓exP, ↓exq, Nat.reduceBEq, Nat.reduceAdd, eqCell, svInts, exists_and_left, hg]; (all_goals try exact zF)) ?_
      simp only [↓zY, ↓zZ, ↓z0, sxu, zH, ↓exq, ↓zI, Nat.reduceBEq, Nat.reduceAdd, Nat.reduceLT]
      (all_goals try exact zF)) ?_
  refine Tr.ret ?_
  (refine ⟨.inr rfl, ?_⟩; first | rfl | exact ⟨rfl, rfl, trivial⟩ | exact ⟨rfl, rfl, rfl, trivial⟩ | (simp only [Res, ResL, ResOK, ↓sxd, sxu, ↓zE, ↓zC, zH, ↓exP, ↓exq, ↓zB, ↓zI, ↓zJ, ↓zL, ↓zD, ↓zK, ↓zQ, ↓zV, sbnd, Nat.reduceBEq, Nat.reduceAdd, Nat.reduceLT, Nat.reduceMul, Nat.reduceSub, Nat.reduceLeDiff, Nat.reduceEqDiff, Int.reduceLE, Int.reduceLT, Int.reduceToNat, reduceIte, sxe, tysH29_7]; (repeat' (first | rfl | exact trivial | exact fun h => h | exact fun h => (by rw [h]; rfl) | apply And.intro | omega | exact Nat.le_of_ble_eq_true rfl))))
end Go.Proofs.Ytijechcadlklhaa
namespace Go.Proofs.Ytijechcadlklhaa
open Go.Sy
set_option maxRecDepth 8000
theorem thin0_c (t : HT) (l : List HC) : CallP Try.prog G0 6 [t.s, SC l, .dx []] (B (shortB t.rows && decide ((l.length : Int) ≤ 20))) := by
  have h : CallP Try.prog G0 6 [t.s, SC l, .dx []] _ := CallP.arg (Thin_c t l []) (.cons (fun _ _ _ _ h => h) (.cons (fun _ _ _ _ h => h) (.cons (fun pl ok w v h => dxd _ pl ok w v h) .nil)))
  rw [show (decide ((([] : List HQ).length : Int) ≤ 11)) = true from rfl, Bool.and_true] at h
  exact h
theorem thin0_go {t : HT} {a : List HC} (h : (shortB t.rows && decide ((a.length : Int) ≤ 20)) = true) : small8 t.rows ∧ a.length ≤ 1000 := by
  simp only [Bool.and_eq_true, decide_eq_true_eq] at h
  exact ⟨short_small h.1, by omega⟩
theorem thin0_of {t : HT} {a : List HC} (h : (!(shortB t.rows && decide ((a.length : Int) ≤ 20))) = false) : small8 t.rows ∧ a.length ≤ 1000 := thin0_go (by simpa only [Bool.not_eq_false'] using h)
end Go.Proofs.Ytijechcadlklhaa
namespace Go.Proofs.Ytijechcadlklhaa
open Go.Sy
set_option maxRecDepth 8000
abbrev tysH24_12 := And.intro ty.sz0 <| And.intro ty.agg0 <| And.intro ty.elem0 <| And.intro ty.sz3 <| And.intro ty.agg3 <| And.intro ty.elem3 <| And.intro ty.zero3 <| And.intro ty.und3 <| And.intro ty.sz4 <| And.intro ty.agg4 <| And.intro ty.elem4 <| And.intro ty.zero4 <| And.intro ty.und4 <| And.intro ty.sz22 <| And.intro ty.agg22 <| And.intro ty.elem22 <| And.intro ty.by22 <| And.intro ty.ez22 <| And.intro ty.zero22 <| And.intro ty.und22 <| And.intro ty.sz24 <| And.intro ty.agg24 <| And.intro ty.fld24_0 <| And.intro ty.fld24_1 <| And.intro ty.elem24 <| And.intro ty.zero24 <| And.intro ty.pl24 <| And.intro ty.sz25 <| And.intro ty.agg25 <| And.intro ty.elem25 <| And.intro ty.by25 <| And.intro ty.ez25 <| And.intro ty.zero25 <| And.intro ty.und25 <| And.intro ty.sz38 <| And.intro ty.agg38 <| And.intro ty.elem38 <| And.intro ty.by38 <| And.intro ty.ez38 <| And.intro ty.zero38 <| And.intro ty.und38 <| And.intro ty.sz40 <| And.intro ty.agg40 <| And.intro ty.fld40_0 <| And.intro ty.fld40_1 <| And.intro ty.elem40 <| And.intro ty.zero40 <| And.intro ty.pl40 <| And.intro ty.sz43 <| And.intro ty.agg43 <| And.intro ty.fld43_0 <| And.intro ty.fld43_1 <| And.intro ty.elem43 <| And.intro ty.zero43 <| ty.pl43
set_option maxHeartbeats 1000000 in
theorem Bounds_c (t : HT) (l : List HC) (r c : Nat) (hpub : t.pub l = 0) (hr : r < t.rows.length) (hc : c < (t.rows.getD 0 []).length) : CallP Try.prog G0 12 [t.s, SC l, .agg [I (r : Nat), I (c : Nat)]] (Rng.mk ((t.w l).lo r c) ((t.w l).hi r c)).s := by
  have hw := HT.w_ok hpub
  have hcell : t.isCell ⟨(r : Nat), (c : Nat)⟩ = true := (HT.isCell_iff rfl rfl).2 ⟨Int.natCast_nonneg _, by simp only; omega, Int.natCast_nonneg _, by simp only; omega⟩
  have hdim : Dim t.rows.length (t.rows.getD 0 []).length t.rows := hw.dim
  have hc2 : c < (t.rows.getD r []).length := by rw [hdim.2 r hr]; exact hc
  have hcan := fun v => Can_c t l ⟨(r : Nat), (c : Nat)⟩ v hpub hcell
  have hiff : ∀ v, canS t l ⟨(r : Nat), (c : Nat)⟩ v = true ↔ (t.w l).lo r c ≤ v ∧ v ≤ (t.w l).hi r c := fun v => by rw [canS_iff hpub hcell, hw.can_iff]; rfl
  have hmid : (t.w l).lo r c ≤ (t.rows.getD r []).getD c 0 ∧ (t.rows.getD r []).getD c 0 ≤ (t.w l).hi r c := hw.lo_le r c
  have hlo : 0 ≤ (t.w l).lo r c ∧ (t.w l).lo r c ≤ (t.w l).cap := (hw.ends false r c).fit.cell r c hr hc
  have hhi : 0 ≤ (t.w l).hi r c ∧ (t.w l).hi r c ≤ (t.w l).cap := (hw.ends true r c).fit.cell r c hr hc
  have hcap := hw.cap
  generalize (t.w l).lo r c = lo at *
  generalize (t.w l).hi r c = hi at *
  generalize (t.w l).cap = cap at *
  refine CallP.body 45 [.cell 6 40] Try.func12 (by kernel_rfl) rfl rfl rfl zP zP ?_
  refine Tr.reg [1, 3, 5, 6] (by
      simp only [↓sxd, sxu, ↓zE, ↓exq, ↓zM, ↓zN, Nat.reduceBEq, Nat.reduceAdd, Nat.reduceLT, Nat.reduceEqDiff, tysH24_12]
      (all_goals try exact zF)) ?_
  refine Tr.regD [0, 1, 2, 3, 4, 5, 6, 7, 8, 9, 10] [] [] [1, 3, 5, 6, 7] mix (by kernel_rfl) (by
      simp only [↓sxd, sxu, ↓zC, zH, ↓exq, ↓zD, ↓zA, Nat.reduceBEq, Nat.reduceAdd, Nat.reduceLT, Nat.reduceEqDiff, sxe, tysH24_12, hr, hc2]
      (all_goals try exact zF)) ?_
  refine Tr.reg [1, 3, 5, 6, 8] (by
      simp only [↓sxd, sxu, ↓zE, ↓exq, ↓zM, ↓zO, Nat.reduceBEq, Nat.reduceAdd, Nat.reduceLT, Nat.reduceLeDiff, Nat.reduceEqDiff, tysH24_12]
      (all_goals try exact zF)) ?_
  refine Tr.seq ?_
  refine Tr.imp (st' := ⟨[(1, SC l), (3, .ptr 0 0 0), (5, .ptr 1 0 0), (6, .ptr 2 0 0), (8, .ptr 3 0 0)], [(3, .arr 2 [[I (((t.rows.getD r []).getD c 0)), I ((t.rows.getD r []).getD c 0)]]), (2, .arr 2 [[I 0, I 0]]), (1, .arr 2 [[I (r : Nat), I (c : Nat)]]), (0, tbx t)], 4, 45, [], 0⟩) (Imp.keepAll) (Tr.block (Tr.loopI (fun mm ss => ∃ (x : Int), (lo ≤ x ∧ x ≤ hi) ∧ (x - lo).toNat = mm ∧ ss = ⟨[(1, SC l), (3, .ptr 0 0 0), (5, .ptr 1 0 0), (6, .ptr 2 0 0), (8, .ptr 3 0 0)], [(3, .arr 2 [[I x, I ((t.rows.getD r []).getD c 0)]]), (2, .arr 2 [[I 0, I 0]]), (1, .arr 2 [[I (r : Nat), I (c : Nat)]]), (0, tbx t)], 4, 45, [], 0⟩) _ ⟨((t.rows.getD r []).getD c 0), ?_, rfl, rfl⟩ ?_))
  · exact hmid
  rintro mm ss ⟨x, hI, rfl, rfl⟩
  obtain ⟨hx1, hx2⟩ := hI
  have w1 : IntKind.i64.wrap (x - 1) = x - 1 := wr (by omega) (by omega)
  refine Tr.seq ?_
  refine Tr.reg [1, 3, 5, 6, 8, 28] (by
      simp only [↓sxd, sxu, ↓zE, ↓exq, ↓zD, ↓zA, Nat.reduceBEq, Nat.reduceAdd, Nat.reduceLT, Nat.reduceEqDiff, tysH24_12, w1]
      (repeat ((with_reducible refine And.intro ?_ ?_); (focus (exact zS))))
      refine CallO.use (hcan (x - 1)) ?_
      try simp only [↓sxd, sxu, Nat.reduceBEq]
      (all_goals try exact zF)) ?_
  refine Tr.cond rfl (fun h28 => ?_) (fun h28 => ?_)
  · have hgo := (hiff (x - 1)).1 h28
    refine Tr.skip ?_
    refine Tr.block ?_
    refine Tr.reg1 [1, 3, 5, 6, 8] (by
        simp only [↓sxd, sxu, ↓zE, ↓exq, ↓zD, ↓zA, Nat.reduceBEq, Nat.reduceAdd, Nat.reduceLT, Nat.reduceLeDiff, Nat.reduceEqDiff, tysH24_12, w1]
        (all_goals try exact zF)) ?_
    exact ⟨_, _, by omega, Imp.keepAll, ⟨x - 1, ⟨hgo.1, hgo.2⟩, rfl, rfl⟩⟩
  · have hno : ¬ (lo ≤ x - 1 ∧ x - 1 ≤ hi) := fun h => by rw [(hiff (x - 1)).2 h] at h28; cases h28
    have hxe : x = lo := by omega
    subst hxe
    refine Tr.exit ?_
    refine Tr.seq ?_
    refine Tr.imp (st' := ⟨[(1, SC l), (3, .ptr 0 0 0), (5, .ptr 1 0 0), (6, .ptr 2 0 0), (8, .ptr 3 0 0)], [(3, .arr 2 [[I x, I (((t.rows.getD r []).getD c 0))]]), (2, .arr 2 [[I 0, I 0]]), (1, .arr 2 [[I (r : Nat), I (c : Nat)]]), (0, tbx t)], 4, 45, [], 0⟩) (Imp.keep [1, 3, 5, 6, 8]) (Tr.block (Tr.loopI (fun mm ss => ∃ (y : Int), (x ≤ y ∧ y ≤ hi) ∧ (hi - y).toNat = mm ∧ ss = ⟨[(1, SC l), (3, .ptr 0 0 0), (5, .ptr 1 0 0), (6, .ptr 2 0 0), (8, .ptr 3 0 0)], [(3, .arr 2 [[I x, I y]]), (2, .arr 2 [[I 0, I 0]]), (1, .arr 2 [[I (r : Nat), I (c : Nat)]]), (0, tbx t)], 4, 45, [], 0⟩) _ ⟨((t.rows.getD r []).getD c 0), ?_, rfl, rfl⟩ ?_))
    · exact hmid
    rintro mm ss ⟨y, hI, rfl, rfl⟩
    obtain ⟨hy1, hy2⟩ := hI
    have w2 : IntKind.i64.wrap (y + 1) = y + 1 := wr (by omega) (by omega)
    refine Tr.seq ?_
    refine Tr.reg [1, 3, 5, 6, 8, 39] (by
        simp only [↓sxd, sxu, ↓zE, ↓exq, ↓zD, ↓zA, Nat.reduceBEq, Nat.reduceAdd, Nat.reduceLT, Nat.reduceEqDiff, tysH24_12, w2]
        (repeat ((with_reducible refine And.intro ?_ ?_); (focus (exact zS))))
        refine CallO.use (hcan (y + 1)) ?_
        try simp only [↓sxd, sxu, Nat.reduceBEq]
        (all_goals try exact zF)) ?_
    refine Tr.cond rfl (fun h39 => ?_) (fun h39 => ?_)
    · have hgo := (hiff (y + 1)).1 h39
      refine Tr.skip ?_
      refine Tr.block ?_
      refine Tr.reg1 [1, 3, 5, 6, 8] (by
          simp only [↓sxd, sxu, ↓zE, ↓exq, ↓zD, ↓zA, Nat.reduceBEq, Nat.reduceAdd, Nat.reduceLT, Nat.reduceEqDiff, tysH24_12, w2]
          (all_goals try exact zF)) ?_
      exact ⟨_, _, by omega, Imp.keepAll, ⟨y + 1, ⟨hgo.1, hgo.2⟩, rfl, rfl⟩⟩
    · have hno : ¬ (x ≤ y + 1 ∧ y + 1 ≤ hi) := fun h => by rw [(hiff (y + 1)).2 h] at h39; cases h39
      have hye : y = hi := by omega
      subst hye
      refine Tr.exit ?_
      refine Tr.reg [6] (by
          simp only [↓sxd, sxu, ↓zE, ↓exq, ↓zD, Nat.reduceBEq, Nat.reduceAdd, Nat.reduceLT, Nat.reduceEqDiff, tysH24_12]
          (all_goals try exact zF)) ?_
      refine Tr.ret ?_
      (refine ⟨.inr rfl, ?_⟩; first | rfl | exact ⟨rfl, rfl, trivial⟩ | exact ⟨rfl, rfl, rfl, trivial⟩ | (simp only [Res, ResOK, sxu, ↓zD, Nat.reduceBEq, Nat.reduceAdd, Nat.reduceLT, tysH24_12]; (repeat' (first | rfl | exact trivial | exact fun h => h | exact fun h => (by rw [h]; rfl) | apply And.intro | omega | exact Nat.le_of_ble_eq_true rfl))))
end Go.Proofs.Ytijechcadlklhaa
