/- Lemmas, part ZGX. Conditions: none. -/
import Derived.Test.YtijechcadlklhaaGreatZGN
set_option linter.unusedVariables false
namespace Go.Proofs.YtijechcadlklhaaGreat
open Go.Sy
set_option maxRecDepth 8000
theorem all_at {α : Type} {p : α → Bool} {l : List α} {i : Nat} (d : α) (h : i < l.length) (hp : p (l.getD i d) = false) : l.all p = false := by
  rw [List.all_eq_false]
  exact ⟨l.getD i d, getD_mem' d h, by rw [hp]; decide⟩
theorem all_full {α : Type} {p : α → Bool} {l : List α} (d : α) (h : ∀ i, i < l.length → p (l.getD i d) = true) : l.all p = true := by
  rw [List.all_eq_true]
  intro x hx
  obtain ⟨i, hi, rfl⟩ := List.getElem_of_mem hx
  have := h i hi
  rwa [List.getD_eq_getElem?_getD, List.getElem?_eq_getElem hi] at this
theorem add1 {k : Nat} (h : k < 4611686018427387904) : IntKind.i64.wrap ((k : Int) + 1) = ((k + 1 : Nat) : Int) := by rw [wr (by omega) (by omega)]; rfl
abbrev tysH22_75 := And.intro ty.sz0 <| And.intro ty.agg0 <| And.intro ty.elem0 <| And.intro ty.sz3 <| And.intro ty.agg3 <| And.intro ty.elem3 <| And.intro ty.zero3 <| And.intro ty.und3 <| And.intro ty.sz4 <| And.intro ty.agg4 <| And.intro ty.elem4 <| And.intro ty.zero4 <| And.intro ty.und4 <| And.intro ty.sz22 <| And.intro ty.agg22 <| And.intro ty.elem22 <| And.intro ty.by22 <| And.intro ty.ez22 <| And.intro ty.zero22 <| And.intro ty.und22 <| And.intro ty.sz24 <| And.intro ty.agg24 <| And.intro ty.fld24_0 <| And.intro ty.fld24_1 <| And.intro ty.elem24 <| And.intro ty.zero24 <| And.intro ty.pl24 <| And.intro ty.sz41 <| And.intro ty.agg41 <| And.intro ty.fld41_0 <| And.intro ty.fld41_1 <| And.intro ty.elem41 <| And.intro ty.zero41 <| And.intro ty.pl41 <| And.intro ty.sz44 <| And.intro ty.agg44 <| And.intro ty.elem44 <| And.intro ty.by44 <| And.intro ty.ez44 <| And.intro ty.zero44 <| ty.und44
theorem IsCell_c (t : HT) (c : HC) (hs : small8 t.rows) (h0 : 0 < t.rows.length) : CallP Tryz.prog G0 75 [t.s, c.s] (B (t.isCell c)) := by
  have w1 : IntKind.i64.wrap ((t.rows.length : Int) - 1) = (t.rows.length : Int) - 1 := wr (by omega) (by have := hs.1; omega)
  have hm := hs.2 _ (getD_mem' (l := t.rows) (i := 0) [] h0)
  have w2 : IntKind.i64.wrap (((t.rows.getD 0 []).length : Int) - 1) = ((t.rows.getD 0 []).length : Int) - 1 := wr (by omega) (by omega)
  refine CallP.body 23 [.tmp 4] Tryz.func75 (by kernel_rfl) rfl rfl rfl zP zP ?_
  refine Tr.reg [2, 3] (by
      simp only [↓sxd, sxu, ↓zE, ↓exq, ↓zM, Nat.reduceBEq, Nat.reduceAdd, Nat.reduceLT, Nat.reduceEqDiff]
      (all_goals try exact zF)) ?_
  refine Tr.regD [0, 1, 2, 3, 4, 5, 6, 7, 8, 9, 10, 11, 12, 13, 14, 15, 16, 17, 18] [] [] [4] mix (by kernel_rfl) (by
      simp only [↓sxd, sxu, ↓zC, zJ, ↓exq, ↓zB, ↓zL, ↓zD, ↓zA, Nat.reduceBEq, Nat.reduceAdd, Nat.reduceLT, Nat.reduceEqDiff, sxe, tysH22_75, w1]
      (repeat ((with_reducible refine And.intro ?_ ?_); (focus (exact zS))))
      refine CallD.use (In_c _ _ _) ?_
      try simp only [↓sxd, sxu, ↓zC, zJ, ↓exq, Nat.reduceLT]
      iterate 8
        (repeat ((with_reducible refine And.intro ?_ ?_); (focus (exact zS))))
        refine GdD.mk _ (fun hg => by simp only [↓sxd, sxu, ↓exP, ↓exq, ↓zB, ↓zL, ↓zD, ↓zA, Nat.reduceBEq, Nat.reduceAdd, Nat.reduceLT, Nat.reduceEqDiff, Int.reduceLE, sxe, tysH22_75, h0, w2, hg]; (all_goals try exact zF)) ?_
        simp only [↓sxd, sxu, ↓zC, zJ, Nat.reduceBEq, Nat.reduceLT]
      (repeat ((with_reducible refine And.intro ?_ ?_); (focus (exact zS))))
      refine GdD.mk _ (fun hg => by simp only [sxu, ↓exP, Nat.reduceBEq, hg]; first | exact In_c _ _ _ | exact ⟨In_c _ _ _, rfl, rfl⟩ | exact ⟨In_c _ _ _, trivial⟩ | exact ⟨In_c _ _ _, trivial, trivial⟩) ?_
      simp only [↓sxd, sxu, ↓zC, zJ, ↓exq, ↓zI, Nat.reduceBEq, Nat.reduceLT]
      (all_goals try exact zF)) ?_
  refine Tr.ret ?_
  (refine ⟨.inr rfl, ?_⟩; first | rfl | exact ⟨rfl, rfl, trivial⟩ | exact ⟨rfl, rfl, rfl, trivial⟩ | (simp only [Res, ResL, ResOK, ↓sxd, sxu, ↓zE, ↓zC, zJ, ↓exP, ↓exq, ↓zB, ↓zI, ↓zK, ↓zL, ↓zD, ↓zM, ↓zA, Nat.reduceBEq, Nat.reduceAdd, Nat.reduceLT, Nat.reduceMul, Nat.reduceSub, Nat.reduceLeDiff, Nat.reduceEqDiff, Int.reduceLE, Int.reduceLT, Int.reduceToNat, reduceIte, sxe, tysH22_75]; (repeat' (first | rfl | exact trivial | exact fun h => h | exact fun h => (by rw [h]; rfl) | apply And.intro | omega | exact Nat.le_of_ble_eq_true rfl))))
abbrev tysH22_59 := And.intro ty.sz0 <| And.intro ty.agg0 <| And.intro ty.elem0 <| And.intro ty.sz3 <| And.intro ty.agg3 <| And.intro ty.elem3 <| And.intro ty.zero3 <| And.intro ty.und3 <| And.intro ty.sz4 <| And.intro ty.agg4 <| And.intro ty.elem4 <| And.intro ty.zero4 <| And.intro ty.und4 <| And.intro ty.sz41 <| And.intro ty.agg41 <| And.intro ty.fld41_0 <| And.intro ty.fld41_1 <| And.intro ty.elem41 <| And.intro ty.zero41 <| ty.pl41
theorem Before_c (a b : HC) : CallP Tryz.prog G0 59 [a.s, b.s] (B (decide (a.cmp b < 0))) := by
  refine CallP.body 24 [.tmp 4] Tryz.func59 (by kernel_rfl) rfl rfl rfl zP zP ?_
  refine Tr.reg [2, 3] (by
      simp only [↓sxd, sxu, ↓zE, ↓exq, ↓zM, Nat.reduceBEq, Nat.reduceAdd, Nat.reduceLT, Nat.reduceEqDiff]
      (all_goals try exact zF)) ?_
  refine Tr.reg [4] (by
      simp only [↓sxd, sxu, ↓zE, ↓exq, ↓zD, ↓zA, Nat.reduceBEq, Nat.reduceAdd, Nat.reduceLT, Nat.reduceEqDiff, tysH22_59]
      iterate 11
        (repeat ((with_reducible refine And.intro ?_ ?_); (focus (exact zS))))
        refine GdO.mk _ (fun hg => by simp only [↓sxd, sxu, ↓exq, ↓zD, ↓zA, Nat.reduceBEq, Nat.reduceAdd, Nat.reduceLT, Nat.reduceEqDiff, tysH22_59, hg]; (all_goals try exact zF)) ?_
        simp only [↓sxd, sxu, ↓zE, Nat.reduceBEq, Nat.reduceLT]
      (repeat ((with_reducible refine And.intro ?_ ?_); (focus (exact zS))))
      first | refine GdO.and (fun hg => by simp only [sxu, Nat.reduceBEq, pickArgs, hg]; (all_goals try exact zF)) ?_ | refine GdO.mk _ (fun hg => by simp only [↓sxd, sxu, ↓zE, ↓zC, zJ, ↓exP, ↓exq, ↓zB, ↓zI, ↓zK, ↓zD, ↓zM, ↓zA, Nat.reduceBEq, Nat.reduceAdd, Nat.reduceLT, Nat.reduceMul, Nat.reduceSub, Nat.reduceLeDiff, Nat.reduceEqDiff, Int.reduceLE, Int.reduceLT, Int.reduceToNat, reduceIte, sxe, tysH22_59, hg, if_true]; (all_goals try exact zF)) ?_
      simp only [↓sxd, sxu, ↓zE, ↓exq, ↓zI, Nat.reduceBEq, Nat.reduceLT]
      (all_goals try exact zF)) ?_
  refine Tr.ret ?_
  exact ⟨.inr rfl, congrArg (fun n => some (B n)) (by
  rw [Bool.eq_iff_iff, decide_eq_true_eq, cmp_neg]
  simp only [Bool.or_eq_true, Bool.and_eq_true, decide_eq_true_eq, beq_iff_eq])⟩
theorem eqRC : EqAgg Tryz.prog 41 2 := eqAgg_two (by kernel_rfl) (by kernel_rfl) (fun op x y w a b a' b' => by cases op <;> kernel_rfl)
theorem cell_beq (a c : HC) : ([a.row, a.col] == [c.row, c.col]) = true ↔ a = c := by
  rw [beq_iff_eq]
  cases a; cases c
  simp
abbrev tysH22_27 := And.intro ty.sz0 <| And.intro ty.agg0 <| And.intro ty.elem0 <| And.intro ty.sz3 <| And.intro ty.agg3 <| And.intro ty.elem3 <| And.intro ty.zero3 <| And.intro ty.und3 <| And.intro ty.sz4 <| And.intro ty.agg4 <| And.intro ty.elem4 <| And.intro ty.zero4 <| And.intro ty.und4 <| And.intro ty.sz25 <| And.intro ty.agg25 <| And.intro ty.elem25 <| And.intro ty.by25 <| And.intro ty.ez25 <| And.intro ty.zero25 <| And.intro ty.und25 <| And.intro ty.sz41 <| And.intro ty.agg41 <| And.intro ty.fld41_0 <| And.intro ty.fld41_1 <| And.intro ty.elem41 <| And.intro ty.zero41 <| ty.pl41
theorem Has_c (l : List HC) (c : HC) (hl : l.length ≤ 1000) : CallP Tryz.prog G0 27 [SC l, c.s] (B (l.contains c)) := by
  refine CallP.body 18 [.tmp 4] Tryz.func27 (by kernel_rfl) rfl rfl rfl zP zP ?_
  refine Tr.reg [0, 3] (by
      simp only [↓sxd, sxu, ↓zE, ↓exq, ↓zM, Nat.reduceBEq, Nat.reduceAdd, Nat.reduceLT, Nat.reduceEqDiff]
      (all_goals try exact zF)) ?_
  refine Tr.seq ?_
  refine Tr.reg [0, 3, 5] (by
      simp only [↓sxd, sxu, ↓zE, ↓exq, Nat.reduceBEq, Nat.reduceLT]
      (all_goals try exact zF)) ?_
  refine Tr.imp (st' := ⟨[(0, SC l), (3, .ptr 0 0 0), (5, I 0)], [(0, .arr 2 [[I c.row, I c.col]])], 1, 18, [], 0⟩) (Imp.keepAll) (Tr.block (Tr.loopI (fun mm ss => ∃ (k : Nat), (k ≤ l.length ∧ ∀ j, j < k → l.getD j default ≠ c) ∧ l.length - k = mm ∧ ss = ⟨[(0, SC l), (3, .ptr 0 0 0), (5, I k)], [(0, .arr 2 [[I c.row, I c.col]])], 1, 18, [], 0⟩) _ ⟨0, ?_, rfl, rfl⟩ ?_))
  · exact ⟨Nat.zero_le _, fun j hj => by omega⟩
  rintro mm ss ⟨k, hI, rfl, rfl⟩
  obtain ⟨hk, hno⟩ := hI
  refine Tr.seq ?_
  refine Tr.reg [0, 3, 5, 9] (by
      simp only [↓sxd, sxu, ↓zE, ↓exq, ↓zB, ↓zL, Nat.reduceBEq, Nat.reduceLT, sxe, tysH22_27]
      (all_goals try exact zF)) ?_
  refine Tr.cond rfl (fun h9 => ?_) (fun h9 => ?_)
  · have hlt : k < l.length := by simpa using h9
    refine Tr.skip ?_
    refine Tr.seq ?_
    refine Tr.block ?_
    refine Tr.regD [0, 1, 2, 3, 4, 5] [] [] [0, 3, 5, 17] mix (by kernel_rfl) (by
        simp only [↓sxd, sxu, ↓zC, zJ, ↓exq, ↓zD, Nat.reduceBEq, Nat.reduceAdd, Nat.reduceLT, sxe, tysH22_27, hlt]
        exact ⟨[(l.getD k default).row, (l.getD k default).col], [c.row, c.col], rfl, rfl, rfl, eqRC, rfl⟩) ?_
    refine Tr.cond rfl (fun h17 => ?_) (fun h17 => ?_)
    · have he : l.getD k default = c := (cell_beq _ _).1 h17
      have hc : l.contains c = true := by rw [List.contains_iff_mem, ← he]; exact getD_mem' default hlt
      refine Tr.reg [4] (by
          simp only [↓sxd, sxu, ↓zE, ↓exq, Nat.reduceLT]
          (all_goals try exact zF)) ?_
      refine Tr.ret ?_
      exact ⟨.inr rfl, by rw [hc]; rfl⟩
    · have he : l.getD k default ≠ c := fun e => by rw [(cell_beq _ _).2 e] at h17; cases h17
      refine Tr.skip ?_
      have w1 := add1 (show k < 4611686018427387904 by omega)
      refine Tr.reg1 [0, 3, 5] (by
          simp only [↓sxd, sxu, ↓zE, ↓exq, Nat.reduceBEq, Nat.reduceLT, w1]
          (all_goals try exact zF)) ?_
      refine ⟨_, _, by omega, Imp.keepAll, ⟨k + 1, ⟨hlt, fun j hj => ?_⟩, rfl, rfl⟩⟩
      by_cases e : j < k
      · exact hno j e
      · rw [show j = k by omega]; exact he
  · have hge : k = l.length := by simp at h9; omega
    refine Tr.exit ?_
    refine Tr.reg [4] (by
        simp only [↓sxd, sxu, ↓zE, ↓exq, Nat.reduceLT]
        (all_goals try exact zF)) ?_
    refine Tr.ret ?_
    have hc : l.contains c = false := by
      cases h : l.contains c with
      | false => rfl
      | true =>
        obtain ⟨j, hj, he⟩ := mem_getD' (List.contains_iff_mem.1 h)
        exact absurd he (hno j (by omega))
    exact ⟨.inr rfl, by rw [hc]; rfl⟩
abbrev tysH22_67 := And.intro ty.sz0 <| And.intro ty.agg0 <| And.intro ty.elem0 <| And.intro ty.sz3 <| And.intro ty.agg3 <| And.intro ty.elem3 <| And.intro ty.zero3 <| And.intro ty.und3 <| And.intro ty.sz4 <| And.intro ty.agg4 <| And.intro ty.elem4 <| And.intro ty.zero4 <| And.intro ty.und4 <| And.intro ty.sz22 <| And.intro ty.agg22 <| And.intro ty.elem22 <| And.intro ty.by22 <| And.intro ty.ez22 <| And.intro ty.zero22 <| And.intro ty.und22 <| And.intro ty.sz24 <| And.intro ty.agg24 <| And.intro ty.fld24_0 <| And.intro ty.fld24_1 <| And.intro ty.elem24 <| And.intro ty.zero24 <| And.intro ty.pl24 <| And.intro ty.sz44 <| And.intro ty.agg44 <| And.intro ty.elem44 <| And.intro ty.by44 <| And.intro ty.ez44 <| And.intro ty.zero44 <| ty.und44
theorem Filled_c (t : HT) (rows : Rows8) (hs : small8 rows) (h0 : 0 < t.rows.length) (ht : small8 t.rows) : CallP Tryz.prog G0 67 [t.s, SL rows] (B (t.filled rows)) := by
  refine CallP.body 50 [.tmp 4] Tryz.func67 (by kernel_rfl) rfl rfl rfl zP zP ?_
  refine Tr.reg [1, 2] (by
      simp only [↓sxd, sxu, ↓zE, ↓exq, ↓zM, Nat.reduceBEq, Nat.reduceAdd, Nat.reduceLT, Nat.reduceEqDiff]
      (all_goals try exact zF)) ?_
  refine Tr.seq ?_
  refine Tr.reg [1, 2, 5] (by
      simp only [↓sxd, sxu, ↓zE, ↓exq, Nat.reduceBEq, Nat.reduceLT]
      (all_goals try exact zF)) ?_
  refine Tr.imp (st' := ⟨[(1, SL rows), (2, .ptr 0 0 0), (5, I 0)], [(0, tbx t)], 1, 50, [], 0⟩) (Imp.keepAll) (Tr.block (Tr.loopI (fun mm ss => ∃ (r : Nat), (r ≤ rows.length ∧ ∀ j, j < r → (decide ((rows.getD j []).length = (t.rows.getD 0 []).length) && (rows.getD j []).all fun n => inR n 0 t.cap) = true) ∧ rows.length - r = mm ∧ ss = ⟨[(1, SL rows), (2, .ptr 0 0 0), (5, I r)], [(0, tbx t)], 1, 50, [], 0⟩) _ ⟨0, ?_, rfl, rfl⟩ ?_))
  · exact ⟨Nat.zero_le _, fun j hj => by omega⟩
  rintro mm ss ⟨r, hI, rfl, rfl⟩
  obtain ⟨hr, hall⟩ := hI
  have hs1 := hs.1
  refine Tr.seq ?_
  refine Tr.reg [1, 2, 5, 10] (by
      simp only [↓sxd, sxu, ↓zE, ↓exq, ↓zB, ↓zL, Nat.reduceBEq, Nat.reduceLT, sxe, tysH22_67]
      (all_goals try exact zF)) ?_
  refine Tr.cond rfl (fun h10 => ?_) (fun h10 => ?_)
  · have hlt : r < rows.length := by simpa using h10
    have hrl := hs.2 _ (getD_mem' (l := rows) [] hlt)
    refine Tr.skip ?_
    refine Tr.seq ?_
    refine Tr.block ?_
    refine Tr.seq ?_
    refine Tr.regD [0, 1, 2, 3, 4, 5, 6, 7, 8, 9, 10] [] [] [1, 2, 5, 23] mix (by kernel_rfl) (by
        simp only [↓sxd, sxu, ↓zC, zJ, ↓exq, ↓zB, ↓zL, ↓zD, ↓zA, Nat.reduceBEq, Nat.reduceAdd, Nat.reduceLT, Nat.reduceEqDiff, Int.reduceLE, sxe, tysH22_67, hlt, h0]
        (all_goals try exact zF)) ?_
    refine Tr.cond rfl (fun h23 => ?_) (fun h23 => ?_)
    · have hne : (rows.getD r []).length ≠ (t.rows.getD 0 []).length := fun e => bne_iff_ne.1 h23 (by rw [e])
      have hf : t.filled rows = false := by
        unfold HT.filled
        rw [all_at [] hlt (by rw [decide_eq_false hne]; rfl), Bool.and_false]
      refine Tr.reg [4] (by
          simp only [↓sxd, sxu, ↓zE, ↓exq, Nat.reduceLT]
          (all_goals try exact zF)) ?_
      refine Tr.ret ?_
      exact ⟨.inr rfl, by rw [hf]; rfl⟩
    · have hne : (rows.getD r []).length = (t.rows.getD 0 []).length := Int.ofNat_inj.1 (bne_eq_false_iff_eq.1 h23)
      refine Tr.skip ?_
      refine Tr.reg [1, 2, 5, 6] (by
          simp only [↓sxd, sxu, ↓zE, ↓exq, Nat.reduceBEq, Nat.reduceLT]
          (all_goals try exact zF)) ?_
      refine Tr.imp (st' := ⟨[(1, SL rows), (2, .ptr 0 0 0), (5, I r), (6, I 0)], [(0, tbx t)], 1, 50, [], 0⟩) (Imp.keepAll) (Tr.block (Tr.loopI (fun mm ss => ∃ (c : Nat), (c ≤ (rows.getD r []).length ∧ ∀ j, j < c → inR ((rows.getD r []).getD j 0) 0 t.cap = true) ∧ (rows.getD r []).length - c = mm ∧ ss = ⟨[(1, SL rows), (2, .ptr 0 0 0), (5, I r), (6, I c)], [(0, tbx t)], 1, 50, [], 0⟩) _ ⟨0, ?_, rfl, rfl⟩ ?_))
      · exact ⟨Nat.zero_le _, fun j hj => by omega⟩
      rintro mm ss ⟨c, hI, rfl, rfl⟩
      obtain ⟨hc, hall2⟩ := hI
      refine Tr.seq ?_
      refine Tr.reg [1, 2, 5, 6, 30] (by
          simp only [↓sxd, sxu, ↓zE, ↓exq, ↓zB, ↓zL, ↓zD, Nat.reduceBEq, Nat.reduceLT, sxe, tysH22_67, hlt]
          (all_goals try exact zF)) ?_
      refine Tr.cond rfl (fun h30 => ?_) (fun h30 => ?_)
      · have hlt2 : c < (rows.getD r []).length := by simpa using h30
        refine Tr.skip ?_
        refine Tr.seq ?_
        refine Tr.block ?_
        refine Tr.regD [0, 1, 2, 3, 4, 5, 6, 7, 8, 9, 10] [] [] [1, 2, 5, 6, 43] mix (by kernel_rfl) (by
            simp only [↓sxd, sxu, ↓zC, zJ, ↓exq, ↓zD, ↓zA, Nat.reduceBEq, Nat.reduceAdd, Nat.reduceLT, Nat.reduceEqDiff, sxe, tysH22_67, hlt, hlt2]
            (repeat ((with_reducible refine And.intro ?_ ?_); (focus (exact zS))))
            refine CallD.use (In_c _ _ _) ?_
            try simp only [↓sxd, sxu, ↓zC, ↓exq, ↓zK, Nat.reduceBEq, Nat.reduceLT]
            (all_goals try exact zF)) ?_
        refine Tr.cond rfl (fun h43 => ?_) (fun h43 => ?_)
        · have hb : inR ((rows.getD r []).getD c 0) 0 t.cap = false := by simpa using h43
          have hf : t.filled rows = false := by
            unfold HT.filled
            rw [all_at [] hlt (by rw [all_at 0 hlt2 hb, Bool.and_false]), Bool.and_false]
          refine Tr.reg [4] (by
              simp only [↓sxd, sxu, ↓zE, ↓exq, Nat.reduceLT]
              (all_goals try exact zF)) ?_
          refine Tr.ret ?_
          exact ⟨.inr rfl, by rw [hf]; rfl⟩
        · have hb : inR ((rows.getD r []).getD c 0) 0 t.cap = true := by simpa using h43
          refine Tr.skip ?_
          have w1 := add1 (show c < 4611686018427387904 by omega)
          refine Tr.reg1 [1, 2, 5, 6] (by
              simp only [↓sxd, sxu, ↓zE, ↓exq, Nat.reduceBEq, Nat.reduceLT, w1]
              (all_goals try exact zF)) ?_
          refine ⟨_, _, by omega, Imp.keepAll, ⟨c + 1, ⟨hlt2, fun j hj => ?_⟩, rfl, rfl⟩⟩
          by_cases e : j < c
          · exact hall2 j e
          · rw [show j = c by omega]; exact hb
      · have hge3 : ¬ c < (rows.getD r []).length := by simpa using h30
        have hge2 : c = (rows.getD r []).length := by omega
        refine Tr.exit ?_
        have w1 := add1 (show r < 4611686018427387904 by omega)
        refine Tr.reg1 [1, 2, 5] (by
            simp only [↓sxd, sxu, ↓zE, ↓exq, Nat.reduceBEq, Nat.reduceLT, w1]
            (all_goals try exact zF)) ?_
        refine ⟨_, _, by omega, Imp.keepAll, ⟨r + 1, ⟨hlt, fun j hj => ?_⟩, rfl, rfl⟩⟩
        by_cases e : j < r
        · exact hall j e
        · rw [show j = r by omega, Bool.and_eq_true]
          exact ⟨decide_eq_true hne, all_full 0 fun i hi => hall2 i (by omega)⟩
  · have hge : r = rows.length := by simp at h10; omega
    refine Tr.exit ?_
    refine Tr.reg [4] (by
        simp only [↓sxd, sxu, ↓zE, ↓exq, ↓zB, ↓zL, ↓zD, ↓zA, Nat.reduceBEq, Nat.reduceAdd, Nat.reduceLT, Nat.reduceEqDiff, sxe, tysH22_67]
        (all_goals try exact zF)) ?_
    refine Tr.ret ?_
    exact ⟨.inr rfl, congrArg (fun n => some (B n)) (by
    unfold HT.filled
    rw [all_full [] fun i hi => hall i (by omega), Bool.and_true, nb])⟩
abbrev tysH22_66 := And.intro ty.sz0 <| And.intro ty.agg0 <| And.intro ty.elem0 <| And.intro ty.sz3 <| And.intro ty.agg3 <| And.intro ty.elem3 <| And.intro ty.zero3 <| And.intro ty.und3 <| And.intro ty.sz4 <| And.intro ty.agg4 <| And.intro ty.elem4 <| And.intro ty.zero4 <| And.intro ty.und4 <| And.intro ty.sz22 <| And.intro ty.agg22 <| And.intro ty.elem22 <| And.intro ty.by22 <| And.intro ty.ez22 <| And.intro ty.zero22 <| And.intro ty.und22 <| And.intro ty.sz24 <| And.intro ty.agg24 <| And.intro ty.fld24_0 <| And.intro ty.fld24_1 <| And.intro ty.elem24 <| And.intro ty.zero24 <| And.intro ty.pl24 <| And.intro ty.sz44 <| And.intro ty.agg44 <| And.intro ty.elem44 <| And.intro ty.by44 <| And.intro ty.ez44 <| And.intro ty.zero44 <| ty.und44
theorem Fault_c (t : HT) (hs : small8 t.rows) : CallP Tryz.prog G0 66 [t.s] (I t.check) := by
  have hs1 := hs.1
  have hck : t.check = if (decide (t.rows.length > 3) || !(t.rows.all fun l => decide (l.length ≤ 4))) = true then 3 else if (decide (t.rows.length = 0) || decide ((t.rows.getD 0 []).length = 0) || !inR t.cap 0 1000 || !t.filled t.rows) = true then 1 else 0 := rfl
  have e0 : ((t.rows.length : Int) == 0) = decide (t.rows.length = 0) := nb _ 0
  have e1 : (((t.rows.getD 0 []).length : Int) == 0) = decide ((t.rows.getD 0 []).length = 0) := nb _ 0
  refine CallP.body 47 [.tmp 2] Tryz.func66 (by kernel_rfl) rfl rfl rfl zP zP ?_
  refine Tr.reg [1] (by
      simp only [↓sxd, sxu, ↓zE, ↓exq, ↓zM, Nat.reduceBEq, Nat.reduceAdd, Nat.reduceLT, Nat.reduceEqDiff]
      (all_goals try exact zF)) ?_
  refine Tr.seq ?_
  refine Tr.reg [1, 7] (by
      simp only [↓sxd, sxu, ↓zE, ↓exq, ↓zB, ↓zL, ↓zD, ↓zA, Nat.reduceBEq, Nat.reduceAdd, Nat.reduceLT, Nat.reduceEqDiff, sxe, tysH22_66]
      (all_goals try exact zF)) ?_
  refine Tr.cond rfl (fun h7 => ?_) (fun h7 => ?_)
  · have hgt : t.rows.length > 3 := by have := of_decide_eq_true h7; omega
    have hck : t.check = 3 := by rw [hck, if_pos (by rw [decide_eq_true hgt]; rfl)]
    refine Tr.reg [2] (by
        simp only [↓sxd, sxu, ↓zE, ↓exq, Nat.reduceLT]
        (all_goals try exact zF)) ?_
    refine Tr.ret ?_
    exact ⟨.inr rfl, by rw [hck]; rfl⟩
  · have hle : ¬ t.rows.length > 3 := by have := of_decide_eq_false h7; omega
    refine Tr.skip ?_
    refine Tr.seq ?_
    refine Tr.reg [1, 3] (by
        simp only [↓sxd, sxu, ↓zE, ↓exq, Nat.reduceBEq, Nat.reduceLT]
        (all_goals try exact zF)) ?_
    refine Tr.imp (st' := ⟨[(1, .ptr 0 0 0), (3, I 0)], [(0, tbx t)], 1, 47, [], 0⟩) (Imp.keepAll) (Tr.block (Tr.loopI (fun mm ss => ∃ (k : Nat), (k ≤ t.rows.length ∧ ∀ j, j < k → decide ((t.rows.getD j []).length ≤ 4) = true) ∧ t.rows.length - k = mm ∧ ss = ⟨[(1, .ptr 0 0 0), (3, I k)], [(0, tbx t)], 1, 47, [], 0⟩) _ ⟨0, ?_, rfl, rfl⟩ ?_))
    · exact ⟨Nat.zero_le _, fun j hj => by omega⟩
    rintro mm ss ⟨k, hI, rfl, rfl⟩
    obtain ⟨hk, hall⟩ := hI
    refine Tr.seq ?_
    refine Tr.reg [1, 3, 12] (by
        simp only [↓sxd, sxu, ↓zE, ↓exq, ↓zB, ↓zL, ↓zD, ↓zA, Nat.reduceBEq, Nat.reduceAdd, Nat.reduceLT, Nat.reduceEqDiff, sxe, tysH22_66]
        (all_goals try exact zF)) ?_
    refine Tr.cond rfl (fun h12 => ?_) (fun h12 => ?_)
    · have hlt : k < t.rows.length := by simpa using h12
      have hrl := hs.2 _ (getD_mem' (l := t.rows) [] hlt)
      refine Tr.skip ?_
      refine Tr.seq ?_
      refine Tr.block ?_
      refine Tr.reg [1, 3, 21] (by
          simp only [↓sxd, sxu, ↓zE, ↓exq, ↓zB, ↓zL, ↓zD, ↓zA, Nat.reduceBEq, Nat.reduceAdd, Nat.reduceLT, Nat.reduceEqDiff, sxe, tysH22_66, hlt]
          (all_goals try exact zF)) ?_
      refine Tr.cond rfl (fun h21 => ?_) (fun h21 => ?_)
      · have hgt : (t.rows.getD k []).length > 4 := by have := of_decide_eq_true h21; omega
        have hck : t.check = 3 := by rw [hck, if_pos (by rw [all_at [] hlt (decide_eq_false (by omega))]; simp)]
        refine Tr.reg [2] (by
            simp only [↓sxd, sxu, ↓zE, ↓exq, Nat.reduceLT]
            (all_goals try exact zF)) ?_
        refine Tr.ret ?_
        exact ⟨.inr rfl, by rw [hck]; rfl⟩
      · have hgt : ¬ (t.rows.getD k []).length > 4 := by have := of_decide_eq_false h21; omega
        refine Tr.skip ?_
        have w1 := add1 (show k < 4611686018427387904 by omega)
        refine Tr.reg1 [1, 3] (by
            simp only [↓sxd, sxu, ↓zE, ↓exq, Nat.reduceBEq, Nat.reduceLT, w1]
            (all_goals try exact zF)) ?_
        refine ⟨_, _, by omega, Imp.keepAll, ⟨k + 1, ⟨hlt, fun j hj => ?_⟩, rfl, rfl⟩⟩
        by_cases e : j < k
        · exact hall j e
        · rw [show j = k by omega]; exact decide_eq_true (by omega)
    · have hge : k = t.rows.length := by simp at h12; omega
      have hal : (t.rows.all fun l => decide (l.length ≤ 4)) = true := all_full [] fun i hi => hall i (by omega)
      refine Tr.exit ?_
      refine Tr.seq ?_
      refine Tr.reg [46] (by
          simp only [↓sxd, sxu, ↓zE, ↓exq, ↓zB, ↓zL, ↓zD, ↓zA, Nat.reduceAdd, Nat.reduceLT, Nat.reduceEqDiff, sxe, tysH22_66, e0]
          iterate 2
            (repeat ((with_reducible refine And.intro ?_ ?_); (focus (exact zS))))
            refine GdO.mk _ (fun hg => by simp only [sxu, ↓exq, ↓zD, ↓zA, Nat.reduceBEq, Nat.reduceAdd, Nat.reduceLT, Nat.reduceEqDiff, tysH22_66, hg]; (all_goals try exact zF)) ?_
            simp only [↓sxd, sxu, ↓zE, Nat.reduceBEq, Nat.reduceLT]
          (repeat ((with_reducible refine And.intro ?_ ?_); (focus (exact zS))))
          refine GdO.mk (.dp [.sl (dI (t.rows.getD 0 []))]) (fun hg => by
            have h0 : 0 < t.rows.length := by
              have : ¬ t.rows.length = 0 := by simpa using hg
              omega
            simp only [↓sxd, sxu, ↓exq, Int.reduceLE, sxe, tysH22_66, hg, h0]
            (all_goals try exact zF)) ?_
          try simp only [↓sxd, sxu, ↓zE, Nat.reduceBEq, Nat.reduceLT]
          iterate 5
            (repeat ((with_reducible refine And.intro ?_ ?_); (focus (exact zS))))
            refine GdO.mk _ (fun hg => by simp only [↓sxd, sxu, ↓exq, ↓zB, ↓zL, ↓zD, ↓zA, Nat.reduceBEq, Nat.reduceAdd, Nat.reduceLT, Nat.reduceEqDiff, sxe, tysH22_66, e1, hg]; (all_goals try exact zF)) ?_
            simp only [↓sxd, sxu, ↓zE, ↓exq, ↓zI, Nat.reduceBEq, Nat.reduceLT]
          (repeat ((with_reducible refine And.intro ?_ ?_); (focus (exact zS))))
          refine GdO.mk _ (fun hg => by simp only [sxu, ↓exq, ↓zB, hg]; (repeat ((with_reducible refine And.intro ?_ ?_); (focus (exact zS)))); exact CallP.use (In_c _ _ _) ⟨rfl, rfl, rfl⟩) ?_
          simp only [↓sxd, sxu, ↓zE, Nat.reduceBEq, Nat.reduceLT]
          iterate 4
            (repeat ((with_reducible refine And.intro ?_ ?_); (focus (exact zS))))
            refine GdO.mk _ (fun hg => by simp only [sxu, ↓exq, ↓zK, ↓zD, ↓zA, Nat.reduceBEq, Nat.reduceAdd, Nat.reduceLT, Nat.reduceEqDiff, tysH22_66, hg]; (all_goals try exact zF)) ?_
            simp only [↓sxd, sxu, ↓zE, ↓exq, ↓zI, Nat.reduceBEq, Nat.reduceLT]
          (repeat ((with_reducible refine And.intro ?_ ?_); (focus (exact zS))))
          refine GdO.mk (B (t.filled t.rows)) (fun hg => by
            have h0 : 0 < t.rows.length := by
              rcases Nat.eq_zero_or_pos t.rows.length with h | h
              · simp [h] at hg
              · exact h
            simp only [sxu, ↓exq, ↓zB, Nat.reduceBEq, hg]
            (repeat ((with_reducible refine And.intro ?_ ?_); (focus (exact zS))))
            exact CallP.use (Filled_c t t.rows hs h0 hs) ⟨rfl, rfl, rfl⟩) ?_
          try simp only [↓sxd, sxu, ↓zE, Nat.reduceBEq, Nat.reduceLT]
          (repeat ((with_reducible refine And.intro ?_ ?_); (focus (exact zS))))
          refine GdO.mk _ (fun hg => by simp only [sxu, ↓exq, ↓zK, hg]; (all_goals try exact zF)) ?_
          simp only [↓sxd, sxu, ↓zE, ↓exq, ↓zI, Nat.reduceBEq, Nat.reduceLT]
          (all_goals try exact zF)) ?_
      refine Tr.cond rfl (fun h46 => ?_) (fun h46 => ?_)
      · rw [if_neg (by rw [hal]; simp [hle]), if_pos h46] at hck
        rw [hck]
        refine Tr.reg [2] (by
            simp only [↓sxd, sxu, ↓zE, ↓exq, Nat.reduceLT]
            (all_goals try exact zF)) ?_
        refine Tr.ret ?_
        (refine ⟨.inr rfl, ?_⟩; first | rfl | exact ⟨rfl, rfl, trivial⟩ | exact ⟨rfl, rfl, rfl, trivial⟩ | (simp only [Res, ResL, ResOK, ↓sxd, sxu, ↓zE, ↓zC, zJ, ↓exP, ↓exq, ↓zB, ↓zI, ↓zK, ↓zL, ↓zD, ↓zM, ↓zA, Nat.reduceBEq, Nat.reduceAdd, Nat.reduceLT, Nat.reduceMul, Nat.reduceSub, Nat.reduceLeDiff, Nat.reduceEqDiff, Int.reduceLE, Int.reduceLT, Int.reduceToNat, reduceIte, sxe, tysH22_66]; (repeat' (first | rfl | exact trivial | exact fun h => h | exact fun h => (by rw [h]; rfl) | apply And.intro | omega | exact Nat.le_of_ble_eq_true rfl))))
      · rw [if_neg (by rw [hal]; simp [hle]), if_neg (by rw [h46]; decide)] at hck
        rw [hck]
        refine Tr.skip ?_
        refine Tr.reg [2] (by
            simp only [↓sxd, sxu, ↓zE, ↓exq, Nat.reduceLT]
            (all_goals try exact zF)) ?_
        refine Tr.ret ?_
        (refine ⟨.inr rfl, ?_⟩; first | rfl | exact ⟨rfl, rfl, trivial⟩ | exact ⟨rfl, rfl, rfl, trivial⟩ | (simp only [Res, ResL, ResOK, ↓sxd, sxu, ↓zE, ↓zC, zJ, ↓exP, ↓exq, ↓zB, ↓zI, ↓zK, ↓zL, ↓zD, ↓zM, ↓zA, Nat.reduceBEq, Nat.reduceAdd, Nat.reduceLT, Nat.reduceMul, Nat.reduceSub, Nat.reduceLeDiff, Nat.reduceEqDiff, Int.reduceLE, Int.reduceLT, Int.reduceToNat, reduceIte, sxe, tysH22_66]; (repeat' (first | rfl | exact trivial | exact fun h => h | exact fun h => (by rw [h]; rfl) | apply And.intro | omega | exact Nat.le_of_ble_eq_true rfl))))
abbrev tysH22_58 := And.intro ty.sz0 <| And.intro ty.agg0 <| And.intro ty.elem0 <| And.intro ty.sz3 <| And.intro ty.agg3 <| And.intro ty.elem3 <| And.intro ty.zero3 <| And.intro ty.und3 <| And.intro ty.sz4 <| And.intro ty.agg4 <| And.intro ty.elem4 <| And.intro ty.zero4 <| And.intro ty.und4 <| And.intro ty.sz24 <| And.intro ty.agg24 <| And.intro ty.fld24_0 <| And.intro ty.fld24_1 <| And.intro ty.elem24 <| And.intro ty.zero24 <| And.intro ty.pl24 <| And.intro ty.sz25 <| And.intro ty.agg25 <| And.intro ty.elem25 <| And.intro ty.by25 <| And.intro ty.ez25 <| And.intro ty.zero25 <| And.intro ty.und25 <| And.intro ty.sz41 <| And.intro ty.agg41 <| And.intro ty.fld41_0 <| And.intro ty.fld41_1 <| And.intro ty.elem41 <| And.intro ty.zero41 <| ty.pl41
theorem IsHidden_c (t : HT) (l : List HC) (hs : small8 t.rows) (h0 : 0 < t.rows.length) (hl : l.length ≤ 1000) : CallP Tryz.prog G0 58 [t.s, SC l] (B (l.all t.isCell && sortedTo l l.length)) := by
  refine CallP.body 36 [.tmp 4] Tryz.func58 (by kernel_rfl) rfl rfl rfl zP zP ?_
  refine Tr.reg [1, 2] (by
      simp only [↓sxd, sxu, ↓zE, ↓exq, ↓zM, Nat.reduceBEq, Nat.reduceAdd, Nat.reduceLT, Nat.reduceEqDiff]
      (all_goals try exact zF)) ?_
  refine Tr.seq ?_
  refine Tr.reg [1, 2, 5] (by
      simp only [↓sxd, sxu, ↓zE, ↓exq, Nat.reduceBEq, Nat.reduceLT]
      (all_goals try exact zF)) ?_
  refine Tr.imp (st' := ⟨[(1, SC l), (2, .ptr 0 0 0), (5, I 0)], [(0, tbx t)], 1, 36, [], 0⟩) (Imp.keepAll) (Tr.block (Tr.loopI (fun mm ss => ∃ (k : Nat), (k ≤ l.length ∧ (∀ j, j < k → t.isCell (l.getD j default) = true) ∧ sortedTo l k = true) ∧ l.length - k = mm ∧ ss = ⟨[(1, SC l), (2, .ptr 0 0 0), (5, I k)], [(0, tbx t)], 1, 36, [], 0⟩) _ ⟨0, ?_, rfl, rfl⟩ ?_))
  · exact ⟨Nat.zero_le _, fun j hj => by omega, rfl⟩
  rintro mm ss ⟨k, hI, rfl, rfl⟩
  obtain ⟨hk, hall, hsort⟩ := hI
  refine Tr.seq ?_
  refine Tr.reg [1, 2, 5, 9] (by
      simp only [↓sxd, sxu, ↓zE, ↓exq, ↓zB, ↓zL, Nat.reduceBEq, Nat.reduceLT, sxe, tysH22_58]
      (all_goals try exact zF)) ?_
  refine Tr.cond rfl (fun h9 => ?_) (fun h9 => ?_)
  · have hlt : k < l.length := by simpa using h9
    refine Tr.skip ?_
    refine Tr.seq ?_
    refine Tr.block ?_
    have hj1 : k - 1 < l.length := by omega
    refine Tr.regD [0, 1, 2, 3, 4, 5, 6, 7, 8, 9, 10, 11, 12, 13, 14, 15, 16, 17, 18, 19, 20, 21, 22, 23] [] [] [1, 2, 5, 35] mix (by kernel_rfl) (by
        simp only [↓sxd, sxu, ↓zC, zJ, ↓exq, ↓zD, Nat.reduceBEq, Nat.reduceAdd, Nat.reduceLT, sxe, tysH22_58, hlt]
        (repeat ((with_reducible refine And.intro ?_ ?_); (focus (exact zS))))
        refine CallD.use (IsCell_c t (l.getD k default) hs h0) ?_
        try simp only [↓sxd, sxu, ↓zC, zJ, ↓exq, ↓zK, Nat.reduceLT]
        iterate 5
          (repeat ((with_reducible refine And.intro ?_ ?_); (focus (exact zS))))
          refine GdD.mk _ (fun hg => by simp only [↓sxd, sxu, ↓exP, ↓exq, Nat.reduceBEq, hg]; (all_goals try exact zF)) ?_
          simp only [↓sxd, sxu, ↓zC, zJ, Nat.reduceBEq, Nat.reduceLT]
        (repeat ((with_reducible refine And.intro ?_ ?_); (focus (exact zS))))
        refine GdD.mk (I ((k - 1 : Nat) : Int)) (fun hg => by
          have h0 : 0 < k := by
            have := (Bool.and_eq_true _ _ ▸ hg).2
            simpa using this
          have hw : IntKind.i64.wrap ((k : Int) - 1) = ((k - 1 : Nat) : Int) := by rw [wr (by omega) (by omega)]; omega
          simp only [↓sxd, sxu, ↓exP, ↓exq, hg, hw]
          (all_goals try exact zF)) ?_
        try simp only [↓sxd, sxu, ↓zC, zJ, Nat.reduceBEq, Nat.reduceLT]
        iterate 6
          (repeat ((with_reducible refine And.intro ?_ ?_); (focus (exact zS))))
          refine GdD.mk _ (fun hg => by simp only [↓sxd, sxu, ↓exP, ↓exq, ↓zD, Nat.reduceBEq, Nat.reduceAdd, sxe, tysH22_58, hlt, hj1, hg]; (all_goals try exact zF)) ?_
          simp only [↓sxd, sxu, ↓zC, zJ, Nat.reduceBEq, Nat.reduceLT]
        (repeat ((with_reducible refine And.intro ?_ ?_); (focus (exact zS))))
        refine GdD.mk _ (fun hg => by simp only [sxu, ↓exP, Nat.reduceBEq, hg]; first | exact Before_c (l.getD (k - 1) default) (l.getD k default) | exact ⟨Before_c (l.getD (k - 1) default) (l.getD k default), rfl, rfl⟩ | exact ⟨Before_c (l.getD (k - 1) default) (l.getD k default), trivial⟩ | exact ⟨Before_c (l.getD (k - 1) default) (l.getD k default), trivial, trivial⟩) ?_
        simp only [↓sxd, sxu, ↓zC, zJ, Nat.reduceBEq, Nat.reduceLT]
        (repeat ((with_reducible refine And.intro ?_ ?_); (focus (exact zS))))
        refine GdD.mk _ (fun hg => by simp only [sxu, ↓exP, ↓exq, ↓zK, hg]; (all_goals try exact zF)) ?_
        simp only [↓sxd, sxu, ↓zC, zJ, Nat.reduceBEq, Nat.reduceLT]
        (repeat ((with_reducible refine And.intro ?_ ?_); (focus (exact zS))))
        first | refine GdD.and (fun hg => by simp only [sxu, Nat.reduceBEq, pickArgs, hg]; (all_goals try exact zF)) ?_ | refine GdD.mk _ (fun hg => by simp only [↓sxd, sxu, ↓zE, ↓zC, zJ, ↓exP, ↓exq, ↓zB, ↓zI, ↓zK, ↓zL, ↓zD, ↓zM, Nat.reduceBEq, Nat.reduceAdd, Nat.reduceLT, Nat.reduceMul, Nat.reduceSub, Nat.reduceLeDiff, Nat.reduceEqDiff, Int.reduceLE, Int.reduceLT, Int.reduceToNat, reduceIte, sxe, tysH22_58, hlt, hj1, hg, if_true]; (all_goals try exact zF)) ?_
        simp only [↓sxd, sxu, ↓zC, ↓exq, ↓zI, Nat.reduceBEq, Nat.reduceLT]
        (all_goals try exact zF)) ?_
    refine Tr.cond rfl (fun h35 => ?_) (fun h35 => ?_)
    · have hbad : (l.all t.isCell && sortedTo l l.length) = false := by
        cases hcl : t.isCell (l.getD k default) with
        | false => rw [all_at default hlt hcl, Bool.false_and]
        | true =>
          rw [hcl] at h35
          have hk0 : 0 < k ∧ ¬ (l.getD (k - 1) default).cmp (l.getD k default) < 0 := by simpa using h35
          have hb : sortedTo l (k + 1) = false := by
            rw [sortedTo, decide_eq_false hk0.2, decide_eq_false (by omega), Bool.or_false, Bool.and_false]
          have := sorted_false hb (l.length - (k + 1))
          rw [show k + 1 + (l.length - (k + 1)) = l.length by omega] at this
          rw [this, Bool.and_false]
      refine Tr.reg [4] (by
          simp only [↓sxd, sxu, ↓zE, ↓exq, Nat.reduceLT]
          (all_goals try exact zF)) ?_
      refine Tr.ret ?_
      exact ⟨.inr rfl, by rw [hbad]; rfl⟩
    · have hgood : t.isCell (l.getD k default) = true ∧ sortedTo l (k + 1) = true := by
        cases hcl : t.isCell (l.getD k default) with
        | false => rw [hcl] at h35; simp at h35
        | true =>
          rw [hcl] at h35
          refine ⟨rfl, ?_⟩
          rw [sortedTo, hsort, Bool.true_and, Bool.or_eq_true, decide_eq_true_eq, decide_eq_true_eq]
          by_cases hk0 : k = 0
          · exact .inl hk0
          · right
            have : 0 < k := by omega
            simpa [this] using h35
      refine Tr.skip ?_
      have w1 := add1 (show k < 4611686018427387904 by omega)
      refine Tr.reg1 [1, 2, 5] (by
          simp only [↓sxd, sxu, ↓zE, ↓exq, Nat.reduceBEq, Nat.reduceLT, w1]
          (all_goals try exact zF)) ?_
      refine ⟨_, _, by omega, Imp.keepAll, ⟨k + 1, ⟨hlt, fun j hj => ?_, hgood.2⟩, rfl, rfl⟩⟩
      by_cases e : j < k
      · exact hall j e
      · rw [show j = k by omega]; exact hgood.1
  · have hge : k = l.length := by simp at h9; omega
    refine Tr.exit ?_
    refine Tr.reg [4] (by
        simp only [↓sxd, sxu, ↓zE, ↓exq, Nat.reduceLT]
        (all_goals try exact zF)) ?_
    refine Tr.ret ?_
    subst hge
    exact ⟨.inr rfl, by rw [all_full default fun i hi => hall i hi, hsort]; rfl⟩
end Go.Proofs.YtijechcadlklhaaGreat
