/- Lemmas, part ZGZ. Conditions: none. -/
import Derived.Test.YtijechcadlklhaaGreatZGR
import Derived.Test.YtijechcadlklhaaGreatZGY
set_option linter.unusedVariables false
namespace Go.Proofs.YtijechcadlklhaaGreat
open Go.Sy
set_option maxRecDepth 8000
abbrev tysZ4_65 := And.intro ty.sz0 <| And.intro ty.agg0 <| And.intro ty.elem0 <| And.intro ty.sz3 <| And.intro ty.agg3 <| And.intro ty.elem3 <| And.intro ty.zero3 <| And.intro ty.und3 <| And.intro ty.sz44 <| And.intro ty.agg44 <| And.intro ty.elem44 <| And.intro ty.by44 <| And.intro ty.ez44 <| And.intro ty.zero44 <| ty.und44
theorem row_c (l : List Int) (hl : l.length ≤ 4) (hb : ∀ x ∈ l, 0 ≤ x ∧ x ≤ 1000) : CallP Tryz.prog G0 65 [SI l] (I (sumI l)) := by
  refine CallP.body 16 [.tmp 2] Tryz.func65 (by kernel_rfl) rfl rfl rfl zP zP ?_
  refine Tr.reg [0, 2] (by
      simp only [↓sxd, sxu, ↓zE, ↓exq, Nat.reduceBEq, Nat.reduceLT]
      (all_goals try exact zF)) ?_
  refine Tr.seq ?_
  refine Tr.reg [2, 5, 6, 7] (by
      simp only [↓sxd, sxu, ↓zE, ↓exq, ↓zB, ↓zL, Nat.reduceBEq, Nat.reduceLT, sxe, tysZ4_65]
      (all_goals try exact zF)) ?_
  refine Tr.imp (st' := ⟨[(2, I (sumI (l.take 0))), (5, SI l), (6, I l.length), (7, I 0)], [], 0, 16, [], 0⟩) (Imp.keepAll) (Tr.block (Tr.loopI (fun mm ss => ∃ (c : Nat), (c ≤ l.length) ∧ l.length - c = mm ∧ ss = ⟨[(2, I (sumI (l.take c))), (5, SI l), (6, I l.length), (7, I c)], [], 0, 16, [], 0⟩) _ ⟨0, ?_, rfl, rfl⟩ ?_))
  · exact Nat.zero_le _
  rintro mm ss ⟨c, hI, rfl, rfl⟩
  refine Tr.reg [2, 5, 6, 7, 8] (by
      simp only [↓sxd, sxu, ↓zE, ↓exq, Nat.reduceBEq, Nat.reduceLT, sxe]
      (all_goals try exact zF)) ?_
  refine Tr.seq ?_
  refine Tr.cond rfl (fun h8 => ?_) (fun h8 => ?_)
  · have hc : c < l.length := by simpa using h8
    refine Tr.skip ?_
    refine Tr.seq ?_
    refine Tr.block ?_
    refine Tr.reg [2, 4, 5, 6, 7] (by
        simp only [↓sxd, sxu, ↓zE, ↓exq, ↓zD, Nat.reduceBEq, Nat.reduceLT, sxe, tysZ4_65, hc]
        (all_goals try exact zF)) ?_
    have h1 := sumI_bnd hb c
    have h2 := hb _ (getD_mem' 0 hc)
    have w2 : IntKind.i64.wrap (sumI (l.take c) + l.getD c 0) = sumI (l.take (c + 1)) := by rw [sumI_take hc, wr (by omega) (by omega)]
    refine Tr.reg1 [2, 5, 6, 7] (by
        simp only [↓sxd, sxu, ↓zE, ↓exq, Nat.reduceBEq, Nat.reduceLT, w2]
        (all_goals try exact zF)) ?_
    have w1 := add1 (show c < 4611686018427387904 by omega)
    refine Tr.reg1 [2, 5, 6, 7] (by
        simp only [↓sxd, sxu, ↓zE, ↓exq, Nat.reduceBEq, Nat.reduceLT, w1]
        (all_goals try exact zF)) ?_
    exact ⟨_, _, by omega, Imp.keepAll, ⟨c + 1, hc, rfl, rfl⟩⟩
  · have hc : c = l.length := by have := of_decide_eq_false h8; omega
    subst hc
    rw [List.take_length]
    refine Tr.exit ?_
    refine Tr.reg [2] (by
        simp only [↓sxd, sxu, ↓zE, ↓exq, Nat.reduceLT]
        (all_goals try exact zF)) ?_
    refine Tr.ret ?_
    (refine ⟨.inr rfl, ?_⟩; first | rfl | exact ⟨rfl, rfl, trivial⟩ | exact ⟨rfl, rfl, rfl, trivial⟩ | (simp only [Res, ResL, ResOK, ↓sxd, sxu, ↓zE, ↓zC, zJ, ↓exP, ↓exq, ↓zB, ↓zK, ↓zL, ↓zD, Nat.reduceBEq, Nat.reduceAdd, Nat.reduceLT, Nat.reduceMul, Nat.reduceSub, Nat.reduceLeDiff, Nat.reduceEqDiff, Int.reduceLE, Int.reduceLT, Int.reduceToNat, reduceIte, sxe, tysZ4_65]; (repeat' (first | rfl | exact trivial | exact fun h => h | exact fun h => (by rw [h]; rfl) | apply And.intro | omega | exact Nat.le_of_ble_eq_true rfl))))
abbrev tysZ4_64 := And.intro ty.sz0 <| And.intro ty.agg0 <| And.intro ty.elem0 <| And.intro ty.sz3 <| And.intro ty.agg3 <| And.intro ty.elem3 <| And.intro ty.zero3 <| And.intro ty.und3 <| And.intro ty.sz22 <| And.intro ty.agg22 <| And.intro ty.elem22 <| And.intro ty.by22 <| And.intro ty.ez22 <| And.intro ty.zero22 <| And.intro ty.und22 <| And.intro ty.sz44 <| And.intro ty.agg44 <| And.intro ty.elem44 <| And.intro ty.by44 <| And.intro ty.ez44 <| And.intro ty.zero44 <| ty.und44
theorem column_c (rows : Rows8) (c : Nat) (hn : rows.length ≤ 3) (hl : ∀ r, r < rows.length → c < (rows.getD r []).length) (hb : ∀ r, r < rows.length → 0 ≤ cellAt rows r c ∧ cellAt rows r c ≤ 1000) : CallP Tryz.prog G0 64 [SL rows, I (c : Nat)] (I (colI rows c)) := by
  obtain ⟨L, hL⟩ : ∃ L, L = rows.map fun l => l.getD c 0 := ⟨_, rfl⟩
  have hLl : L.length = rows.length := by rw [hL, List.length_map]
  have hLg : ∀ r, r < rows.length → L.getD r 0 = (rows.getD r []).getD c 0 := fun r hr => by rw [hL]; simp [List.getD_eq_getElem?_getD, hr]
  have hLb : ∀ x ∈ L, 0 ≤ x ∧ x ≤ 1000 := fun x hx => by
    obtain ⟨i, hi, rfl⟩ := List.getElem_of_mem hx
    have h1 := hLg i (by omega)
    have h2 := hb i (by omega)
    simp only [List.getD_eq_getElem?_getD, List.getElem?_eq_getElem hi, Option.getD_some] at h1
    rw [h1]
    unfold cellAt at h2
    simpa only [List.getD_eq_getElem?_getD] using h2
  rw [show colI rows c = sumI L by rw [hL]; rfl]
  refine CallP.body 21 [.tmp 4] Tryz.func64 (by kernel_rfl) rfl rfl rfl zP zP ?_
  refine Tr.reg [0, 1, 4] (by
      simp only [↓sxd, sxu, ↓zE, ↓exq, Nat.reduceBEq, Nat.reduceAdd, Nat.reduceLT]
      (all_goals try exact zF)) ?_
  refine Tr.seq ?_
  refine Tr.reg [1, 4, 7, 8, 9] (by
      simp only [↓sxd, sxu, ↓zE, ↓exq, ↓zB, ↓zL, Nat.reduceBEq, Nat.reduceLT, sxe, tysZ4_64]
      (all_goals try exact zF)) ?_
  refine Tr.imp (st' := ⟨[(1, I c), (4, I (sumI (L.take 0))), (7, SL rows), (8, I rows.length), (9, I 0)], [], 0, 21, [], 0⟩) (Imp.keepAll) (Tr.block (Tr.loopI (fun mm ss => ∃ (r : Nat), (r ≤ rows.length) ∧ rows.length - r = mm ∧ ss = ⟨[(1, I c), (4, I (sumI (L.take r))), (7, SL rows), (8, I rows.length), (9, I r)], [], 0, 21, [], 0⟩) _ ⟨0, ?_, rfl, rfl⟩ ?_))
  · exact Nat.zero_le _
  rintro mm ss ⟨r, hI, rfl, rfl⟩
  refine Tr.reg [1, 4, 7, 8, 9, 10] (by
      simp only [↓sxd, sxu, ↓zE, ↓exq, Nat.reduceBEq, Nat.reduceLT, sxe]
      (all_goals try exact zF)) ?_
  refine Tr.seq ?_
  refine Tr.cond rfl (fun h10 => ?_) (fun h10 => ?_)
  · have hr : r < rows.length := by simpa using h10
    have hcr := hl r hr
    refine Tr.skip ?_
    refine Tr.seq ?_
    refine Tr.block ?_
    refine Tr.reg [1, 4, 6, 7, 8, 9] (by
        simp only [↓sxd, sxu, ↓zE, ↓exq, ↓zD, Nat.reduceBEq, Nat.reduceLT, sxe, tysZ4_64, hr]
        (all_goals try exact zF)) ?_
    have h1 := sumI_bnd hLb r
    have h2 := hLb _ (getD_mem' 0 (show r < L.length by omega))
    have w2 : IntKind.i64.wrap (sumI (L.take r) + (rows.getD r []).getD c 0) = sumI (L.take (r + 1)) := by rw [sumI_take (by omega), ← hLg r hr, wr (by omega) (by omega)]
    refine Tr.reg1 [1, 4, 7, 8, 9] (by
        simp only [↓sxd, sxu, ↓zE, ↓exq, ↓zD, Nat.reduceBEq, Nat.reduceLT, sxe, tysZ4_64, hcr, w2]
        (all_goals try exact zF)) ?_
    have w1 := add1 (show r < 4611686018427387904 by omega)
    refine Tr.reg1 [1, 4, 7, 8, 9] (by
        simp only [↓sxd, sxu, ↓zE, ↓exq, Nat.reduceBEq, Nat.reduceLT, w1]
        (all_goals try exact zF)) ?_
    exact ⟨_, _, by omega, Imp.keepAll, ⟨r + 1, hr, rfl, rfl⟩⟩
  · have hr : r = L.length := by have := of_decide_eq_false h10; omega
    subst hr
    rw [List.take_length]
    refine Tr.exit ?_
    refine Tr.reg [4] (by
        simp only [↓sxd, sxu, ↓zE, ↓exq, Nat.reduceBEq, Nat.reduceLT]
        (all_goals try exact zF)) ?_
    refine Tr.ret ?_
    (refine ⟨.inr rfl, ?_⟩; first | rfl | exact ⟨rfl, rfl, trivial⟩ | exact ⟨rfl, rfl, rfl, trivial⟩ | (simp only [Res, ResL, ResOK, ↓sxd, sxu, ↓zE, ↓zC, zJ, ↓exP, ↓exq, ↓zB, ↓zK, ↓zL, ↓zD, Nat.reduceBEq, Nat.reduceAdd, Nat.reduceLT, Nat.reduceMul, Nat.reduceSub, Nat.reduceLeDiff, Nat.reduceEqDiff, Int.reduceLE, Int.reduceLT, Int.reduceToNat, reduceIte, sxe, tysZ4_64]; (repeat' (first | rfl | exact trivial | exact fun h => h | exact fun h => (by rw [h]; rfl) | apply And.intro | omega | exact Nat.le_of_ble_eq_true rfl))))
abbrev tysZ4_31 := And.intro ty.sz0 <| And.intro ty.agg0 <| And.intro ty.elem0 <| And.intro ty.sz3 <| And.intro ty.agg3 <| And.intro ty.elem3 <| And.intro ty.zero3 <| And.intro ty.und3 <| And.intro ty.sz4 <| And.intro ty.agg4 <| And.intro ty.elem4 <| And.intro ty.zero4 <| And.intro ty.und4 <| And.intro ty.sz22 <| And.intro ty.agg22 <| And.intro ty.elem22 <| And.intro ty.by22 <| And.intro ty.ez22 <| And.intro ty.zero22 <| And.intro ty.und22 <| And.intro ty.sz29 <| And.intro ty.agg29 <| And.intro ty.elem29 <| And.intro ty.zero29 <| And.intro ty.und29 <| And.intro ty.sz32 <| And.intro ty.agg32 <| And.intro ty.fld32_0 <| And.intro ty.fld32_1 <| And.intro ty.elem32 <| And.intro ty.zero32 <| And.intro ty.pl32 <| And.intro ty.sz34 <| And.intro ty.agg34 <| And.intro ty.elem34 <| And.intro ty.by34 <| And.intro ty.ez34 <| And.intro ty.zero34 <| And.intro ty.und34 <| And.intro ty.sz44 <| And.intro ty.agg44 <| And.intro ty.elem44 <| And.intro ty.by44 <| And.intro ty.ez44 <| And.intro ty.zero44 <| And.intro ty.und44 <| And.intro ty.sz83 <| And.intro ty.agg83 <| And.intro ty.elem83 <| And.intro ty.zero83 <| And.intro ty.sz84 <| And.intro ty.agg84 <| And.intro ty.elem84 <| And.intro ty.sz106 <| And.intro ty.agg106 <| And.intro ty.elem106 <| And.intro ty.arr106 <| And.intro ty.zero106 <| And.intro ty.und106 <| And.intro ty.sz108 <| And.intro ty.agg108 <| And.intro ty.elem108 <| And.intro ty.arr108 <| And.intro ty.zero108 <| And.intro ty.und108 <| And.intro ty.sz110 <| And.intro ty.agg110 <| And.intro ty.fld110_0 <| And.intro ty.fld110_1 <| And.intro ty.elem110 <| And.intro ty.zero110 <| ty.pl110
theorem ProveE_c (t : HT) (l : List HC) (rows : Rows8) (hs : small8 t.rows) (hl : l.length ≤ 1000) (hsr : small8 rows) (hpub : t.pub l ≠ 0) : CallP Tryz.prog G0 31 [t.s, SC l, SL rows] (B (decide (t.pub l = 0) && t.candB (t.w l).h rows)) := by
  have hE : (decide (t.pub l = 0) && t.candB (t.w l).h rows) = false := by rw [decide_eq_false hpub]; rfl
  rw [hE]
  refine CallP.body 83 [.tmp 6] Tryz.func31 (by kernel_rfl) rfl rfl rfl zP zP ?_
  refine Tr.reg [1, 2, 3] (by
      simp only [↓sxd, sxu, ↓zE, ↓exq, ↓zM, Nat.reduceBEq, Nat.reduceAdd, Nat.reduceLT, Nat.reduceEqDiff]
      (all_goals try exact zF)) ?_
  refine Tr.reg [2, 3, 7, 8] (by
      simp only [↓sxd, sxu, ↓zE, ↓exq, ↓zD, Nat.reduceBEq, Nat.reduceAdd, Nat.reduceLT, tysZ4_31]
      (repeat ((with_reducible refine And.intro ?_ ?_); (focus (exact zS))))
      refine work_h t l hs hl _ _ (TnFix.cons (show 0 < 1 by decide) (fun _ _ _ _ => TnO.arr zT) (TnFix.nil _)) _ (fun h => absurd h hpub) (fun _ => ?_)
      try simp only [↓sxd, sxu, ↓zE, ↓exq, ↓zH, Nat.reduceBEq, Nat.reduceAdd, Nat.reduceLT]
      (all_goals try exact zF)) ?_
  refine Tr.seq ?_
  refine Tr.reg [2, 3, 7, 26] (by
      simp only [↓sxd, sxu, ↓zE, ↓exq, Nat.reduceBEq, Nat.reduceLT]
      iterate 2
        (repeat ((with_reducible refine And.intro ?_ ?_); (focus (exact zS))))
        refine GdO.mk _ (fun hg => by simp only [sxu, ↓exq, ↓zD, Nat.reduceBEq, Nat.reduceAdd, Nat.reduceLT, tysZ4_31, hg]; (all_goals try exact zF)) ?_
        simp only [↓sxd, sxu, ↓zE, Nat.reduceBEq, Nat.reduceLT]
      (repeat ((with_reducible refine And.intro ?_ ?_); (focus (exact zS))))
      refine GdO.mk _ (fun hg => by simp only [sxu, ↓exq, ↓zB, Nat.reduceBEq, hg]; (repeat ((with_reducible refine And.intro ?_ ?_); (focus (exact zS)))); exact CallP.use (filled_c t rows hsr) ⟨rfl, rfl, rfl⟩) ?_
      simp only [↓sxd, sxu, ↓zE, Nat.reduceBEq, Nat.reduceLT]
      (repeat ((with_reducible refine And.intro ?_ ?_); (focus (exact zS))))
      refine GdO.mk _ (fun hg => by simp only [sxu, ↓exq, ↓zK, hg]; (all_goals try exact zF)) ?_
      simp only [↓sxd, sxu, ↓zE, ↓exq, ↓zI, Nat.reduceBEq, Nat.reduceLT]
      (all_goals try exact zF)) ?_
  refine Tr.cond rfl (fun h26 => ?_) (fun h26 => ?_)
  · refine Tr.reg [6] (by
        simp only [↓sxd, sxu, ↓zE, ↓exq, Nat.reduceLT]
        (all_goals try exact zF)) ?_
    refine Tr.ret ?_
    (refine ⟨.inr rfl, ?_⟩; first | rfl | exact ⟨rfl, rfl, trivial⟩ | exact ⟨rfl, rfl, rfl, trivial⟩ | (simp only [Res, ResL, ResOK, ↓sxd, sxu, ↓zE, ↓zC, zJ, ↓exP, ↓exq, ↓zB, ↓zI, ↓zK, ↓zL, ↓zD, ↓zH, ↓zR, ↓zM, ↓zA, Nat.reduceBEq, Nat.reduceAdd, Nat.reduceLT, Nat.reduceMul, Nat.reduceSub, Nat.reduceLeDiff, Nat.reduceEqDiff, Int.reduceLE, Int.reduceLT, Int.reduceToNat, reduceIte, sxe, tysZ4_31]; (repeat' (first | rfl | exact trivial | exact fun h => h | exact fun h => (by rw [h]; rfl) | apply And.intro | omega | exact Nat.le_of_ble_eq_true rfl))))
  · exfalso
    rw [Bool.or_eq_false_iff] at h26
    exact hpub (by simpa using h26.1)
set_option maxHeartbeats 4000000 in
theorem ProveO_c (t : HT) (l : List HC) (rows : Rows8) (hs : small8 t.rows) (hl : l.length ≤ 1000) (hsr : small8 rows) (hpub : t.pub l = 0) : CallP Tryz.prog G0 31 [t.s, SC l, SL rows] (B (decide (t.pub l = 0) && t.candB (t.w l).h rows)) := by
  have hw := HT.w_ok hpub
  change (t.w l).Ok t.n t.m at hw
  rw [decide_eq_true hpub, Bool.true_and]
  obtain ⟨hn3, hm4, hlo, hchk⟩ := pub_dims hpub
  have ho : t.Ok t.n t.m := HT.check_ok hchk
  have hcap := ho.cap
  have hcd : t.candB (t.w l).h rows = (t.filled rows && (List.range t.n).all fun r => decide (sumI (rows.getD r []) = sumI (t.rows.getD r [])) && (List.range t.m).all fun c => ((t.w l).h r c || decide (cellAt rows r c = cellAt t.rows r c)) && decide (colI rows c = colI t.rows c)) := rfl
  refine CallP.body 83 [.tmp 6] Tryz.func31 (by kernel_rfl) rfl rfl rfl zP zP ?_
  refine Tr.reg [1, 2, 3] (by
      simp only [↓sxd, sxu, ↓zE, ↓exq, ↓zM, Nat.reduceBEq, Nat.reduceAdd, Nat.reduceLT, Nat.reduceEqDiff]
      (all_goals try exact zF)) ?_
  refine Tr.reg [2, 3, 7, 8] (by
      simp only [↓sxd, sxu, ↓zE, ↓exq, ↓zD, Nat.reduceBEq, Nat.reduceAdd, Nat.reduceLT, tysZ4_31]
      (repeat ((with_reducible refine And.intro ?_ ?_); (focus (exact zS))))
      refine work_h t l hs hl _ _ (TnFix.cons (show 0 < 1 by decide) (fun _ _ _ _ => TnO.arr zT) (TnFix.nil _)) _ (fun _ => ?_) (fun h => absurd hpub h)
      try simp only [↓sxd, sxu, ↓zE, ↓exq, ↓zH, Nat.reduceBEq, Nat.reduceAdd, Nat.reduceLT]
      (all_goals try exact zF)) ?_
  refine Tr.seq ?_
  refine Tr.reg [2, 3, 7, 26] (by
      simp only [↓sxd, sxu, ↓zE, ↓exq, Nat.reduceBEq, Nat.reduceLT]
      iterate 2
        (repeat ((with_reducible refine And.intro ?_ ?_); (focus (exact zS))))
        refine GdO.mk _ (fun hg => by simp only [sxu, ↓exq, ↓zD, Nat.reduceBEq, Nat.reduceAdd, Nat.reduceLT, tysZ4_31, hg]; (all_goals try exact zF)) ?_
        simp only [↓sxd, sxu, ↓zE, Nat.reduceBEq, Nat.reduceLT]
      (repeat ((with_reducible refine And.intro ?_ ?_); (focus (exact zS))))
      refine GdO.mk _ (fun hg => by simp only [sxu, ↓exq, ↓zB, Nat.reduceBEq, hg]; (repeat ((with_reducible refine And.intro ?_ ?_); (focus (exact zS)))); exact CallP.use (filled_c t rows hsr) ⟨rfl, rfl, rfl⟩) ?_
      simp only [↓sxd, sxu, ↓zE, Nat.reduceBEq, Nat.reduceLT]
      (repeat ((with_reducible refine And.intro ?_ ?_); (focus (exact zS))))
      refine GdO.mk _ (fun hg => by simp only [sxu, ↓exq, ↓zK, hg]; (all_goals try exact zF)) ?_
      simp only [↓sxd, sxu, ↓zE, ↓exq, ↓zI, Nat.reduceBEq, Nat.reduceLT]
      (all_goals try exact zF)) ?_
  refine Tr.cond rfl (fun h26 => ?_) (fun h26 => ?_)
  · have hb : t.filled rows = false := by simpa using h26
    rw [hcd, hb]
    refine Tr.reg [6] (by
        simp only [↓sxd, sxu, ↓zE, ↓exq, Nat.reduceLT]
        (all_goals try exact zF)) ?_
    refine Tr.ret ?_
    (refine ⟨.inr rfl, ?_⟩; first | rfl | exact ⟨rfl, rfl, trivial⟩ | exact ⟨rfl, rfl, rfl, trivial⟩ | (simp only [Res, ResL, ResOK, ↓sxd, sxu, ↓zE, ↓zC, zJ, ↓exP, ↓exq, ↓zB, ↓zI, ↓zK, ↓zL, ↓zD, ↓zH, ↓zR, ↓zM, ↓zA, Nat.reduceBEq, Nat.reduceAdd, Nat.reduceLT, Nat.reduceMul, Nat.reduceSub, Nat.reduceLeDiff, Nat.reduceEqDiff, Int.reduceLE, Int.reduceLT, Int.reduceToNat, reduceIte, sxe, tysZ4_31]; (repeat' (first | rfl | exact trivial | exact fun h => h | exact fun h => (by rw [h]; rfl) | apply And.intro | omega | exact Nat.le_of_ble_eq_true rfl))))
  · have hb : t.filled rows = true := by simpa using h26
    obtain ⟨hd, hc⟩ := (HT.filled_iff (n := t.n) (m := t.m) rfl rfl rows).1 hb
    rw [hb, Bool.true_and] at hcd
    rw [hcd]
    have hrs : ∀ r, r < t.n → CallP Tryz.prog G0 65 [SI (rows.getD r [])] (I (sumI (rows.getD r []))) := fun r hr => row_c _ (by rw [hd.2 r hr]; exact hm4) (dim_bnd hcap.2 hd hc hr)
    have hrt : ∀ r, r < t.n → CallP Tryz.prog G0 65 [SI (t.rows.getD r [])] (I (sumI (t.rows.getD r []))) := fun r hr => row_c _ (by rw [ho.dim.2 r hr]; exact hm4) (dim_bnd hcap.2 ho.dim ho.cell hr)
    have hcs : ∀ c, c < t.m → CallP Tryz.prog G0 64 [SL rows, I (c : Nat)] (I (colI rows c)) := fun c hcm => column_c rows c (by rw [hd.1]; exact hn3) (fun r hr => by rw [hd.2 r (by rw [← hd.1]; exact hr)]; exact hcm) (fun r hr => by have := hc r c (by rw [← hd.1]; exact hr) hcm; omega)
    have hct : ∀ c, c < t.m → CallP Tryz.prog G0 64 [SL t.rows, I (c : Nat)] (I (colI t.rows c)) := fun c hcm => column_c t.rows c hn3 (fun r hr => by rw [ho.dim.2 r hr]; exact hcm) (fun r hr => by have := ho.cell r c hr hcm; omega)
    have hwl := hw.hl
    refine Tr.skip ?_
    refine Tr.seq ?_
    refine Tr.imp (st' := ⟨[(2, SL rows), (3, .ptr 0 0 0), (7, .dp (t.w l).d)], [(0, tbx t)], 1, 83, [], 0⟩) (Imp.go (rg 1 1) [(0, _)] rfl rfl (.cons _ (.refl _)) (fun _ h => absurd h (Nat.not_lt_zero _)) (fun id h => by rw [rg_ge h]; show 2 ≤ id + 1; omega) (.cons rfl (TnS.d _) (.cons rfl (TnS.ptr rfl) (.cons rfl (wbx_fz rfl (by simp)) trivial))) (.cons ⟨rfl, TnO.arr zT⟩ .nil) (fun h => h)) ?_
    refine Tr.reg [2, 3, 7, 27, 28, 29] (by
        simp only [↓sxd, sxu, ↓zE, ↓exq, ↓zB, ↓zL, Nat.reduceBEq, Nat.reduceLT, sxe, tysZ4_31]
        (all_goals try exact zF)) ?_
    refine Tr.imp (st' := ⟨[(2, SL rows), (3, .ptr 0 0 0), (7, .dp (t.w l).d), (27, SL rows), (28, I rows.length), (29, I 0)], [(0, tbx t)], 1, 83, [], 0⟩) (Imp.keepAll) (Tr.block (Tr.loopI (fun mm ss => ∃ (r : Nat), (r ≤ rows.length ∧ ∀ j, j < r → (decide (sumI (rows.getD j []) = sumI (t.rows.getD j [])) && (List.range t.m).all fun c => ((t.w l).h j c || decide (cellAt rows j c = cellAt t.rows j c)) && decide (colI rows c = colI t.rows c)) = true) ∧ rows.length - r = mm ∧ ss = ⟨[(2, SL rows), (3, .ptr 0 0 0), (7, .dp (t.w l).d), (27, SL rows), (28, I rows.length), (29, I r)], [(0, tbx t)], 1, 83, [], 0⟩) _ ⟨0, ?_, rfl, rfl⟩ ?_))
    · exact ⟨Nat.zero_le _, fun j hj => by omega⟩
    rintro mm ss ⟨r, hI, rfl, rfl⟩
    obtain ⟨hrl, hall⟩ := hI
    have hdl := hd.1
    refine Tr.reg [2, 3, 7, 27, 28, 29, 30] (by
        simp only [↓sxd, sxu, ↓zE, ↓exq, Nat.reduceBEq, Nat.reduceLT, sxe]
        (all_goals try exact zF)) ?_
    refine Tr.seq ?_
    refine Tr.cond rfl (fun h30 => ?_) (fun h30 => ?_)
    · have hr0 : r < rows.length := by simpa using h30
      have hr : r < t.n := by omega
      have hrt0 : r < t.rows.length := hr
      refine Tr.skip ?_
      refine Tr.seq ?_
      refine Tr.block ?_
      refine Tr.reg [2, 3, 7, 9, 10, 27, 28, 29] (by
          simp only [↓sxd, sxu, ↓zE, ↓exq, ↓zD, Nat.reduceBEq, Nat.reduceLT, sxe, tysZ4_31, hr0]
          (all_goals try exact zF)) ?_
      refine Tr.seq ?_
      refine Tr.reg [2, 3, 7, 9, 10, 27, 28, 29, 34, 35, 36] (by
          simp only [↓sxd, sxu, ↓zE, ↓exq, ↓zB, ↓zL, Nat.reduceBEq, Nat.reduceLT, sxe, tysZ4_31]
          (all_goals try exact zF)) ?_
      refine Tr.imp (st' := ⟨[(2, SL rows), (3, .ptr 0 0 0), (7, .dp (t.w l).d), (9, I r), (10, SI (rows.getD r [])), (27, SL rows), (28, I rows.length), (29, I r), (34, SI (rows.getD r [])), (35, I (rows.getD r []).length), (36, I 0)], [(0, tbx t)], 1, 83, [], 0⟩) (Imp.keepAll) (Tr.block (Tr.loopI (fun mm ss => ∃ (c : Nat), (c ≤ t.m ∧ ∀ j, j < c → (((t.w l).h r j || decide (cellAt rows r j = cellAt t.rows r j)) && decide (colI rows j = colI t.rows j)) = true) ∧ t.m - c = mm ∧ ss = ⟨[(2, SL rows), (3, .ptr 0 0 0), (7, .dp (t.w l).d), (9, I r), (10, SI (rows.getD r [])), (27, SL rows), (28, I rows.length), (29, I r), (34, SI (rows.getD r [])), (35, I (rows.getD r []).length), (36, I c)], [(0, tbx t)], 1, 83, [], 0⟩) _ ⟨0, ?_, rfl, rfl⟩ ?_))
      · exact ⟨Nat.zero_le _, fun j hj => by omega⟩
      rintro mm ss ⟨c, hI, rfl, rfl⟩
      obtain ⟨hcl, hall2⟩ := hI
      have hdr := hd.2 r hr
      have hdt := ho.dim.2 r hr
      refine Tr.reg [2, 3, 7, 9, 10, 27, 28, 29, 34, 35, 36, 37] (by
          simp only [↓sxd, sxu, ↓zE, ↓exq, Nat.reduceBEq, Nat.reduceLT, sxe]
          (all_goals try exact zF)) ?_
      refine Tr.seq ?_
      refine Tr.cond rfl (fun h37 => ?_) (fun h37 => ?_)
      · have hcm : c < t.m := by rw [hdr] at h37; simpa using h37
        have hc0 : c < (rows.getD r []).length := by rw [hdr]; exact hcm
        have hct0 : c < (t.rows.getD r []).length := by rw [hdt]; exact hcm
        have hi3 := i3 hr hn3
        have hj4 := i4 hcm hm4
        have hw0 := wd_hid hwl (show r < 3 by omega) (show c < 4 by omega)
        have hw1 := wd_hid0 hwl (show r < 3 by omega) (show c < 4 by omega)
        refine Tr.skip ?_
        refine Tr.seq ?_
        refine Tr.block ?_
        refine Tr.reg [2, 3, 7, 9, 10, 11, 12, 27, 28, 29, 34, 35, 36] (by
            simp only [↓sxd, sxu, ↓zE, ↓exq, ↓zD, Nat.reduceBEq, Nat.reduceLT, sxe, tysZ4_31, hc0]
            (all_goals try exact zF)) ?_
        refine Tr.regD [0, 1, 2, 3, 4, 5, 6, 7, 8, 9, 10, 11, 12, 13, 14, 15, 16, 17, 18, 19, 20, 21, 22, 23, 24, 25, 26, 27, 28, 29, 30] [] [] [2, 3, 7, 9, 10, 27, 28, 29, 34, 35, 36, 71] mix (by kernel_rfl) (by
            simp (maxSteps := 2000000) only [↓sxd, sxu, ↓zC, zJ, ↓exq, ↓zK, ↓zD, ↓zR, ↓zA, Nat.reduceBEq, Nat.reduceLT, Nat.reduceEqDiff, sxe, tysZ4_31, hi3, hj4, hw0, hw1]
            iterate 12
              (repeat ((with_reducible refine And.intro ?_ ?_); (focus (exact zS))))
              refine GdD.mk _ (fun hg => by simp (maxSteps := 2000000) only [↓sxd, sxu, ↓exP, ↓exq, ↓zD, ↓zA, Nat.reduceBEq, Nat.reduceAdd, Nat.reduceLT, Nat.reduceEqDiff, sxe, tysZ4_31, hrt0, hct0, hg]; (all_goals try exact zF)) ?_
              simp (maxSteps := 2000000) only [↓sxd, sxu, ↓zC, zJ, ↓exq, ↓zI, Nat.reduceBEq, Nat.reduceLT]
            (repeat ((with_reducible refine And.intro ?_ ?_); (focus (exact zS))))
            refine GdD.mk _ (fun hg => by simp (maxSteps := 2000000) only [sxu, ↓exP, Nat.reduceBEq, hg]; first | exact hcs c hcm | exact ⟨hcs c hcm, rfl, rfl⟩ | exact ⟨hcs c hcm, trivial⟩ | exact ⟨hcs c hcm, trivial, trivial⟩) ?_
            simp (maxSteps := 2000000) only [↓sxd, sxu, ↓zC, zJ, Nat.reduceBEq, Nat.reduceLT]
            iterate 3
              (repeat ((with_reducible refine And.intro ?_ ?_); (focus (exact zS))))
              refine GdD.mk _ (fun hg => by simp (maxSteps := 2000000) only [sxu, ↓exP, ↓exq, ↓zD, ↓zA, Nat.reduceBEq, Nat.reduceAdd, Nat.reduceLT, Nat.reduceEqDiff, tysZ4_31, hg]; (all_goals try exact zF)) ?_
              simp (maxSteps := 2000000) only [↓sxd, sxu, ↓zC, zJ, Nat.reduceBEq, Nat.reduceLT]
            (repeat ((with_reducible refine And.intro ?_ ?_); (focus (exact zS))))
            refine GdD.mk _ (fun hg => by simp (maxSteps := 2000000) only [sxu, ↓exP, Nat.reduceBEq, hg]; first | exact hct c hcm | exact ⟨hct c hcm, rfl, rfl⟩ | exact ⟨hct c hcm, trivial⟩ | exact ⟨hct c hcm, trivial, trivial⟩) ?_
            simp (maxSteps := 2000000) only [↓sxd, sxu, ↓zC, zJ, Nat.reduceBEq, Nat.reduceLT]
            (repeat ((with_reducible refine And.intro ?_ ?_); (focus (exact zS))))
            refine GdD.mk _ (fun hg => by simp (maxSteps := 2000000) only [↓sxd, sxu, ↓exP, ↓exq, Nat.reduceBEq, hg]; (all_goals try exact zF)) ?_
            simp (maxSteps := 2000000) only [↓sxd, sxu, ↓zC, ↓exq, ↓zI, Nat.reduceBEq, Nat.reduceLT]
            (all_goals try exact zF)) ?_
        refine Tr.cond rfl (fun h71 => ?_) (fun h71 => ?_)
        · have hbad : (((t.w l).h r c || decide (cellAt rows r c = cellAt t.rows r c)) && decide (colI rows c = colI t.rows c)) = false := by
            revert h71
            show ((!(t.w l).h r c && (cellAt rows r c != cellAt t.rows r c)) || (colI rows c != colI t.rows c)) = true → _
            cases (t.w l).h r c <;> by_cases e1 : cellAt rows r c = cellAt t.rows r c <;> by_cases e2 : colI rows c = colI t.rows c <;> simp [e1, e2]
          refine Tr.reg [6] (by
              simp only [↓sxd, sxu, ↓zE, ↓exq, Nat.reduceLT]
              (all_goals try exact zF)) ?_
          refine Tr.ret ?_
          exact ⟨.inr rfl, congrArg (fun n => some (B n)) (by
          rw [all_rat hr (by rw [all_rat hcm hbad, Bool.and_false])])⟩
        · have hgood : (((t.w l).h r c || decide (cellAt rows r c = cellAt t.rows r c)) && decide (colI rows c = colI t.rows c)) = true := by
            revert h71
            show ((!(t.w l).h r c && (cellAt rows r c != cellAt t.rows r c)) || (colI rows c != colI t.rows c)) = false → _
            cases (t.w l).h r c <;> by_cases e1 : cellAt rows r c = cellAt t.rows r c <;> by_cases e2 : colI rows c = colI t.rows c <;> simp [e1, e2]
          refine Tr.skip ?_
          have w1 := add1 (show c < 4611686018427387904 by omega)
          refine Tr.reg1 [2, 3, 7, 9, 10, 27, 28, 29, 34, 35, 36] (by
              simp only [↓sxd, sxu, ↓zE, ↓exq, Nat.reduceBEq, Nat.reduceLT, w1]
              (all_goals try exact zF)) ?_
          refine ⟨_, _, by omega, Imp.keepAll, ⟨c + 1, ⟨hcm, fun j hj => ?_⟩, rfl, rfl⟩⟩
          by_cases e : j < c
          · exact hall2 j e
          · rw [show j = c by omega]; exact hgood
      · have hcm : c = t.m := by rw [hdr] at h37; have := of_decide_eq_false h37; omega
        refine Tr.exit ?_
        refine Tr.regD [0, 1, 2, 3, 4, 5, 6, 7, 8] [] [] [2, 3, 7, 27, 28, 29, 81] mix (by kernel_rfl) (by
            simp only [↓sxd, sxu, ↓zC, zJ, ↓exq, Nat.reduceBEq, Nat.reduceLT]
            (repeat ((with_reducible refine And.intro ?_ ?_); (focus (exact zS))))
            refine CallD.use (hrs r hr) ?_
            try simp only [↓sxd, sxu, ↓zC, zJ, ↓exq, ↓zD, ↓zA, Nat.reduceBEq, Nat.reduceAdd, Nat.reduceLT, Nat.reduceEqDiff, sxe, tysZ4_31, hrt0]
            (repeat ((with_reducible refine And.intro ?_ ?_); (focus (exact zS))))
            refine CallD.use (hrt r hr) ?_
            try simp only [↓sxd, sxu, ↓zC, ↓exq, Nat.reduceBEq, Nat.reduceLT]
            (all_goals try exact zF)) ?_
        refine Tr.cond rfl (fun h81 => ?_) (fun h81 => ?_)
        · have hne : ¬ sumI (rows.getD r []) = sumI (t.rows.getD r []) := by simpa using h81
          refine Tr.reg [6] (by
              simp only [↓sxd, sxu, ↓zE, ↓exq, Nat.reduceLT]
              (all_goals try exact zF)) ?_
          refine Tr.ret ?_
          exact ⟨.inr rfl, congrArg (fun n => some (B n)) (by
          rw [all_rat hr (by rw [decide_eq_false hne]; rfl)])⟩
        · have heq : sumI (rows.getD r []) = sumI (t.rows.getD r []) := by simpa using h81
          refine Tr.skip ?_
          have w1 := add1 (show r < 4611686018427387904 by omega)
          refine Tr.reg1 [2, 3, 7, 27, 28, 29] (by
              simp only [↓sxd, sxu, ↓zE, ↓exq, Nat.reduceBEq, Nat.reduceLT, w1]
              (all_goals try exact zF)) ?_
          refine ⟨_, _, by omega, Imp.keepAll, ⟨r + 1, ⟨hr0, fun j hj => ?_⟩, rfl, rfl⟩⟩
          by_cases e : j < r
          · exact hall j e
          · rw [show j = r by omega, decide_eq_true heq, Bool.true_and]
            exact all_rfull fun i hi => hall2 i (by omega)
    · have hr : r = t.n := by have := of_decide_eq_false h30; omega
      subst hr
      refine Tr.exit ?_
      refine Tr.reg [6] (by
          simp only [↓sxd, sxu, ↓zE, ↓exq, Nat.reduceLT]
          (all_goals try exact zF)) ?_
      refine Tr.ret ?_
      exact ⟨.inr rfl, congrArg (fun n => some (B n)) (by
      rw [all_rfull hall])⟩
theorem Prove_c (t : HT) (l : List HC) (rows : Rows8) (hs : small8 t.rows) (hl : l.length ≤ 1000) (hsr : small8 rows) : CallP Tryz.prog G0 31 [t.s, SC l, SL rows] (B (decide (t.pub l = 0) && t.candB (t.w l).h rows)) := by
  by_cases h : t.pub l = 0
  · exact ProveO_c t l rows hs hl hsr h
  · exact ProveE_c t l rows hs hl hsr h
end Go.Proofs.YtijechcadlklhaaGreat
