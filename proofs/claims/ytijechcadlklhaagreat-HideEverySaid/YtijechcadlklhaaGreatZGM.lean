/- Lemmas, part ZGM. Conditions: none. -/
import Derived.Test.YtijechcadlklhaaGreatZGK
import Derived.Test.YtijechcadlklhaaGreatZGL
set_option linter.unusedVariables false
namespace Go.Proofs.YtijechcadlklhaaGreat
open Go.Sy
set_option maxRecDepth 4000
abbrev HT.d (t : HT) : List D := [.sl (dL t.rows), cI t.cap]
def small8 (rows : Rows8) : Prop := rows.length ≤ 1000 ∧ ∀ l ∈ rows, l.length ≤ 1000
theorem nd (a b : Nat) : decide ((a : Int) = (b : Int)) = decide (a = b) := decide_eq_decide.2 (by omega)
theorem nb (a b : Nat) : ((a : Int) == (b : Int)) = decide (a = b) := by
  by_cases h : a = b
  · subst h; simp
  · rw [decide_eq_false h]; exact beq_eq_false_iff_ne.2 (by omega)
abbrev tysH4_90 := And.intro ty.sz0 <| And.intro ty.agg0 <| And.intro ty.elem0 <| And.intro ty.sz3 <| And.intro ty.agg3 <| And.intro ty.elem3 <| And.intro ty.zero3 <| And.intro ty.und3 <| And.intro ty.sz4 <| And.intro ty.agg4 <| And.intro ty.elem4 <| And.intro ty.zero4 <| And.intro ty.und4 <| And.intro ty.sz32 <| And.intro ty.agg32 <| And.intro ty.fld32_0 <| And.intro ty.fld32_1 <| And.intro ty.elem32 <| And.intro ty.zero32 <| ty.pl32
theorem filled11_c (t : HT) (n : Int) : CallP Tryz.prog G0 90 [I n, .dp t.d] (B (inR n 0 t.cap)) := by
  refine CallP.body 8 [.tmp 3] Tryz.func90 (by kernel_rfl) rfl rfl rfl zP zP ?_
  refine Tr.reg [0, 1] (by
      simp only [↓sxd, sxu, ↓zE, ↓exq, Nat.reduceBEq, Nat.reduceAdd, Nat.reduceLT]
      (all_goals try exact zF)) ?_
  refine Tr.reg [3] (by
      simp only [↓sxd, sxu, ↓zE, ↓exq, ↓zD, ↓zA, Nat.reduceBEq, Nat.reduceLT, Nat.reduceEqDiff, tysH4_90]
      (repeat ((with_reducible refine And.intro ?_ ?_); (focus (exact zS))))
      refine CallO.use (within_c _ _ _) ?_
      try simp only [↓sxd, sxu, ↓zE, ↓exq, Nat.reduceLT]
      (all_goals try exact zF)) ?_
  refine Tr.ret ?_
  (refine ⟨.inr rfl, ?_⟩; first | rfl | exact ⟨rfl, rfl, trivial⟩ | exact ⟨rfl, rfl, rfl, trivial⟩ | (simp only [Res, ResL, ResOK, ↓sxd, sxu, ↓zE, ↓zC, zJ, ↓exP, ↓exq, ↓zB, ↓zK, ↓zD, ↓zA, Nat.reduceBEq, Nat.reduceAdd, Nat.reduceLT, Nat.reduceMul, Nat.reduceSub, Nat.reduceLeDiff, Nat.reduceEqDiff, Int.reduceLE, Int.reduceLT, Int.reduceToNat, reduceIte, sxe, tysH4_90]; (repeat' (first | rfl | exact trivial | exact fun h => h | exact fun h => (by rw [h]; rfl) | apply And.intro | omega | exact Nat.le_of_ble_eq_true rfl))))
abbrev tysH4_88 := And.intro ty.sz0 <| And.intro ty.agg0 <| And.intro ty.elem0 <| And.intro ty.sz3 <| And.intro ty.agg3 <| And.intro ty.elem3 <| And.intro ty.zero3 <| And.intro ty.und3 <| And.intro ty.sz4 <| And.intro ty.agg4 <| And.intro ty.elem4 <| And.intro ty.zero4 <| And.intro ty.und4 <| And.intro ty.sz22 <| And.intro ty.agg22 <| And.intro ty.elem22 <| And.intro ty.by22 <| And.intro ty.ez22 <| And.intro ty.zero22 <| And.intro ty.und22 <| And.intro ty.sz32 <| And.intro ty.agg32 <| And.intro ty.fld32_0 <| And.intro ty.fld32_1 <| And.intro ty.elem32 <| And.intro ty.zero32 <| And.intro ty.pl32 <| And.intro ty.sz44 <| And.intro ty.agg44 <| And.intro ty.elem44 <| And.intro ty.by44 <| And.intro ty.ez44 <| And.intro ty.zero44 <| And.intro ty.und44 <| And.intro ty.sz131 <| And.intro ty.agg131 <| And.intro ty.elem131 <| ty.zero131
theorem filled1_c (t : HT) (l : List Int) (h0 : 0 < t.rows.length) (hl : l.length ≤ 1000) : CallP Tryz.prog G0 88 [SI l, .dp t.d] (B (decide (l.length = (t.rows.getD 0 []).length) && l.all fun n => inR n 0 t.cap)) := by
  refine CallP.body 17 [.tmp 3] Tryz.func88 (by kernel_rfl) rfl rfl rfl zP zP ?_
  refine Tr.reg [0, 1] (by
      simp only [↓sxd, sxu, ↓zE, ↓exq, Nat.reduceBEq, Nat.reduceAdd, Nat.reduceLT]
      (all_goals try exact zF)) ?_
  refine Tr.reg [3] (by
      simp only [↓sxd, sxu, ↓zE, ↓exq, ↓zB, ↓zL, ↓zD, ↓zA, Nat.reduceBEq, Nat.reduceAdd, Nat.reduceLT, Nat.reduceEqDiff, Int.reduceLE, sxe, tysH4_88, h0]
      iterate 2
        (repeat ((with_reducible refine And.intro ?_ ?_); (focus (exact zS))))
        refine GdO.mk _ (fun hg => by simp only [sxu, ↓exq, Nat.reduceBEq, hg]; (all_goals try exact zF)) ?_
        simp only [↓sxd, sxu, ↓zE, Nat.reduceBEq, Nat.reduceLT]
      (repeat ((with_reducible refine And.intro ?_ ?_); (focus (exact zS))))
      refine GdO.mk _ (fun hg => by simp only [sxu, ↓exq, ↓zB, Nat.reduceBEq, hg]; (repeat ((with_reducible refine And.intro ?_ ?_); (focus (exact zS)))); exact CallP.use (allI_c (fun n => inR n 0 t.cap) l (by omega) 90 [] [.dp t.d] zP zP (fun x _ => filled11_c t x)) ⟨rfl, rfl, rfl⟩) ?_
      simp only [↓sxd, sxu, ↓zE, ↓exq, ↓zI, Nat.reduceBEq, Nat.reduceLT]
      (all_goals try exact zF)) ?_
  refine Tr.ret ?_
  exact ⟨.inr rfl, congrArg (fun n => some (B n)) (by rw [nb])⟩
abbrev tysH4_63 := And.intro ty.sz0 <| And.intro ty.agg0 <| And.intro ty.elem0 <| And.intro ty.sz3 <| And.intro ty.agg3 <| And.intro ty.elem3 <| And.intro ty.zero3 <| And.intro ty.und3 <| And.intro ty.sz4 <| And.intro ty.agg4 <| And.intro ty.elem4 <| And.intro ty.zero4 <| And.intro ty.und4 <| And.intro ty.sz22 <| And.intro ty.agg22 <| And.intro ty.elem22 <| And.intro ty.by22 <| And.intro ty.ez22 <| And.intro ty.zero22 <| And.intro ty.und22 <| And.intro ty.sz32 <| And.intro ty.agg32 <| And.intro ty.fld32_0 <| And.intro ty.fld32_1 <| And.intro ty.elem32 <| And.intro ty.zero32 <| And.intro ty.pl32 <| And.intro ty.sz104 <| And.intro ty.agg104 <| And.intro ty.elem104 <| ty.zero104
theorem filled_c (t : HT) (rows : Rows8) (hs : small8 rows) : CallP Tryz.prog G0 63 [t.s, SL rows] (B (t.filled rows)) := by
  refine CallP.body 16 [.tmp 4] Tryz.func63 (by kernel_rfl) rfl rfl rfl zP zP ?_
  refine Tr.reg [1, 2] (by
      simp only [↓sxd, sxu, ↓zE, ↓exq, ↓zM, Nat.reduceBEq, Nat.reduceAdd, Nat.reduceLT, Nat.reduceEqDiff]
      (all_goals try exact zF)) ?_
  refine Tr.reg [4] (by
      simp only [↓sxd, sxu, ↓zE, ↓exq, ↓zB, ↓zL, ↓zD, ↓zA, Nat.reduceBEq, Nat.reduceAdd, Nat.reduceLT, Nat.reduceEqDiff, sxe, tysH4_63]
      iterate 2
        (repeat ((with_reducible refine And.intro ?_ ?_); (focus (exact zS))))
        refine GdO.mk _ (fun hg => by simp only [sxu, ↓exq, Nat.reduceBEq, hg]; (all_goals try exact zF)) ?_
        simp only [↓sxd, sxu, ↓zE, Nat.reduceBEq, Nat.reduceLT]
      (repeat ((with_reducible refine And.intro ?_ ?_); (focus (exact zS))))
      refine GdO.mk (B (rows.all fun l => decide (l.length = (t.rows.getD 0 []).length) && l.all fun n => inR n 0 t.cap)) (fun hg => by
        simp only [sxu, ↓exq, ↓zB, Nat.reduceBEq, hg]
        (repeat ((with_reducible refine And.intro ?_ ?_); (focus (exact zS))))
        refine CallP.useB [] (allL_c (fun l => decide (l.length = (t.rows.getD 0 []).length) && l.all fun n => inR n 0 t.cap) rows (by have := hs.1; omega) 88 [] [.dp t.d] zP zP (fun x hx => filled1_c t x ?_ (hs.2 x hx))) (List.nil_sublist _) ?_ (by repeat' (first | exact Rigid.lit _ | exact Rigid.nil | exact ra_nil | refine ra_cons ?_ ?_ | refine Rigid.agg ?_ | refine Rigid.tup ?_ | exact Rigid.unk | assumption)) ⟨rfl, rfl, rfl⟩
        · have := List.length_pos_of_mem hx
          have hg2 : rows.length = t.rows.length := by simpa [nb] using hg
          omega
        · refine .cons (TnS.d _) (.cons (TnS.clo .nil (.cons (TnS.frzp rfl (by simp) (by simp) (by simp) (.cons (TnS.d _) (.cons (TnS.d _) .nil))) .nil)) .nil)) ?_
      try simp only [↓sxd, sxu, ↓zE, ↓exq, ↓zI, Nat.reduceBEq, Nat.reduceLT]
      (all_goals try exact zF)) ?_
  refine Tr.ret ?_
  exact ⟨.inr rfl, congrArg (fun n => some (B n)) (by rw [nb]; rfl)⟩
abbrev tysH4_61 := And.intro ty.sz3 <| And.intro ty.agg3 <| And.intro ty.elem3 <| And.intro ty.zero3 <| And.intro ty.und3 <| And.intro ty.sz4 <| And.intro ty.agg4 <| And.intro ty.elem4 <| And.intro ty.zero4 <| And.intro ty.und4 <| And.intro ty.sz44 <| And.intro ty.agg44 <| And.intro ty.elem44 <| And.intro ty.by44 <| And.intro ty.ez44 <| And.intro ty.zero44 <| ty.und44
theorem check1_c (l : List Int) : CallP Tryz.prog G0 61 [SI l] (B (decide (l.length ≤ 4))) := by
  refine CallP.body 6 [.tmp 2] Tryz.func61 (by kernel_rfl) rfl rfl rfl zP zP ?_
  refine Tr.reg [0] (by
      simp only [↓sxd, sxu, ↓zE, ↓exq, Nat.reduceBEq, Nat.reduceLT]
      (all_goals try exact zF)) ?_
  refine Tr.reg [2] (by
      simp only [↓sxd, sxu, ↓zE, ↓exq, ↓zB, ↓zL, Nat.reduceLT, sxe, tysH4_61]
      (all_goals try exact zF)) ?_
  refine Tr.ret ?_
  exact ⟨.inr rfl, congrArg (fun n => some (B n)) (decide_eq_decide.2 (by omega))⟩
abbrev tysH4_30 := And.intro ty.sz0 <| And.intro ty.agg0 <| And.intro ty.elem0 <| And.intro ty.sz3 <| And.intro ty.agg3 <| And.intro ty.elem3 <| And.intro ty.zero3 <| And.intro ty.und3 <| And.intro ty.sz4 <| And.intro ty.agg4 <| And.intro ty.elem4 <| And.intro ty.zero4 <| And.intro ty.und4 <| And.intro ty.sz22 <| And.intro ty.agg22 <| And.intro ty.elem22 <| And.intro ty.by22 <| And.intro ty.ez22 <| And.intro ty.zero22 <| And.intro ty.und22 <| And.intro ty.sz29 <| And.intro ty.agg29 <| And.intro ty.elem29 <| And.intro ty.zero29 <| And.intro ty.und29 <| And.intro ty.sz32 <| And.intro ty.agg32 <| And.intro ty.fld32_0 <| And.intro ty.fld32_1 <| And.intro ty.elem32 <| And.intro ty.zero32 <| And.intro ty.pl32 <| And.intro ty.sz44 <| And.intro ty.agg44 <| And.intro ty.elem44 <| And.intro ty.by44 <| And.intro ty.ez44 <| And.intro ty.zero44 <| ty.und44
theorem CheckTable_c (t : HT) (hs : small8 t.rows) : CallP Tryz.prog G0 30 [t.s] (I t.check) := by
  have hck : t.check = if (decide (t.rows.length > 3) || !(t.rows.all fun l => decide (l.length ≤ 4))) = true then 3 else if (decide (t.rows.length = 0) || decide ((t.rows.getD 0 []).length = 0) || !inR t.cap 0 1000 || !t.filled t.rows) = true then 1 else 0 := rfl
  have e3 : decide ((t.rows.length : Int) > 3) = decide (t.rows.length > 3) := decide_eq_decide.2 (by omega)
  have e0 : ((t.rows.length : Int) == 0) = decide (t.rows.length = 0) := nb _ 0
  have e1 : (((t.rows.getD 0 []).length : Int) == 0) = decide ((t.rows.getD 0 []).length = 0) := nb _ 0
  refine CallP.body 38 [.tmp 2] Tryz.func30 (by kernel_rfl) rfl rfl rfl zP zP ?_
  refine Tr.reg [1] (by
      simp only [↓sxd, sxu, ↓zE, ↓exq, ↓zM, Nat.reduceBEq, Nat.reduceAdd, Nat.reduceLT, Nat.reduceEqDiff]
      (all_goals try exact zF)) ?_
  refine Tr.seq ?_
  refine Tr.reg [1, 12] (by
      simp only [↓sxd, sxu, ↓zE, ↓exq, ↓zB, ↓zL, ↓zD, ↓zA, Nat.reduceAdd, Nat.reduceLT, Nat.reduceEqDiff, sxe, tysH4_30, e3]
      iterate 2
        (repeat ((with_reducible refine And.intro ?_ ?_); (focus (exact zS))))
        refine GdO.mk _ (fun hg => by simp only [sxu, ↓exq, ↓zD, ↓zA, Nat.reduceBEq, Nat.reduceAdd, Nat.reduceLT, Nat.reduceEqDiff, tysH4_30, hg]; (all_goals try exact zF)) ?_
        simp only [↓sxd, sxu, ↓zE, Nat.reduceBEq, Nat.reduceLT]
      (repeat ((with_reducible refine And.intro ?_ ?_); (focus (exact zS))))
      refine GdO.mk _ (fun hg => by simp only [sxu, ↓exq, ↓zB, hg]; (repeat ((with_reducible refine And.intro ?_ ?_); (focus (exact zS)))); exact CallP.use (allL_c (fun l => decide (l.length ≤ 4)) t.rows (by have := hs.1; omega) 61 [] [] zP zP (fun x _ => check1_c x)) ⟨rfl, rfl, rfl⟩) ?_
      simp only [↓sxd, sxu, ↓zE, Nat.reduceBEq, Nat.reduceLT]
      (repeat ((with_reducible refine And.intro ?_ ?_); (focus (exact zS))))
      refine GdO.mk _ (fun hg => by simp only [sxu, ↓exq, ↓zK, hg]; (all_goals try exact zF)) ?_
      simp only [↓sxd, sxu, ↓zE, ↓exq, ↓zI, Nat.reduceBEq, Nat.reduceLT]
      (all_goals try exact zF)) ?_
  refine Tr.cond rfl (fun h12 => ?_) (fun h12 => ?_)
  · rw [if_pos h12] at hck
    rw [hck]
    refine Tr.reg [2] (by
        simp only [↓sxd, sxu, ↓zE, ↓exq, Nat.reduceLT]
        (all_goals try exact zF)) ?_
    refine Tr.ret ?_
    (refine ⟨.inr rfl, ?_⟩; first | rfl | exact ⟨rfl, rfl, trivial⟩ | exact ⟨rfl, rfl, rfl, trivial⟩ | (simp only [Res, ResL, ResOK, ↓sxd, sxu, ↓zE, ↓zC, zJ, ↓exP, ↓exq, ↓zB, ↓zI, ↓zK, ↓zL, ↓zD, ↓zM, ↓zA, Nat.reduceBEq, Nat.reduceAdd, Nat.reduceLT, Nat.reduceMul, Nat.reduceSub, Nat.reduceLeDiff, Nat.reduceEqDiff, Int.reduceLE, Int.reduceLT, Int.reduceToNat, reduceIte, sxe, tysH4_30]; (repeat' (first | rfl | exact trivial | exact fun h => h | exact fun h => (by rw [h]; rfl) | apply And.intro | omega | exact Nat.le_of_ble_eq_true rfl))))
  · rw [if_neg (by rw [h12]; decide)] at hck
    refine Tr.skip ?_
    refine Tr.seq ?_
    refine Tr.reg [37] (by
        simp only [↓sxd, sxu, ↓zE, ↓exq, ↓zB, ↓zL, ↓zD, ↓zA, Nat.reduceAdd, Nat.reduceLT, Nat.reduceEqDiff, sxe, tysH4_30, e0]
        iterate 2
          (repeat ((with_reducible refine And.intro ?_ ?_); (focus (exact zS))))
          refine GdO.mk _ (fun hg => by simp only [sxu, ↓exq, ↓zD, ↓zA, Nat.reduceBEq, Nat.reduceAdd, Nat.reduceLT, Nat.reduceEqDiff, tysH4_30, hg]; (all_goals try exact zF)) ?_
          simp only [↓sxd, sxu, ↓zE, Nat.reduceBEq, Nat.reduceLT]
        (repeat ((with_reducible refine And.intro ?_ ?_); (focus (exact zS))))
        refine GdO.mk (.dp [.sl (dI (t.rows.getD 0 []))]) (fun hg => by
          have h0 : 0 < t.rows.length := by
            have : ¬ t.rows.length = 0 := by simpa using hg
            omega
          simp only [↓sxd, sxu, ↓exq, Int.reduceLE, sxe, tysH4_30, hg, h0]
          (all_goals try exact zF)) ?_
        try simp only [↓sxd, sxu, ↓zE, Nat.reduceBEq, Nat.reduceLT]
        iterate 5
          (repeat ((with_reducible refine And.intro ?_ ?_); (focus (exact zS))))
          refine GdO.mk _ (fun hg => by simp only [↓sxd, sxu, ↓exq, ↓zB, ↓zL, ↓zD, ↓zA, Nat.reduceBEq, Nat.reduceAdd, Nat.reduceLT, Nat.reduceEqDiff, sxe, tysH4_30, e1, hg]; (all_goals try exact zF)) ?_
          simp only [↓sxd, sxu, ↓zE, ↓exq, ↓zI, Nat.reduceBEq, Nat.reduceLT]
        (repeat ((with_reducible refine And.intro ?_ ?_); (focus (exact zS))))
        refine GdO.mk _ (fun hg => by simp only [sxu, ↓exq, ↓zB, hg]; (repeat ((with_reducible refine And.intro ?_ ?_); (focus (exact zS)))); exact CallP.use (within_c _ _ _) ⟨rfl, rfl, rfl⟩) ?_
        simp only [↓sxd, sxu, ↓zE, Nat.reduceBEq, Nat.reduceLT]
        iterate 4
          (repeat ((with_reducible refine And.intro ?_ ?_); (focus (exact zS))))
          refine GdO.mk _ (fun hg => by simp only [sxu, ↓exq, ↓zK, ↓zD, ↓zA, Nat.reduceBEq, Nat.reduceAdd, Nat.reduceLT, Nat.reduceEqDiff, tysH4_30, hg]; (all_goals try exact zF)) ?_
          simp only [↓sxd, sxu, ↓zE, ↓exq, ↓zI, Nat.reduceBEq, Nat.reduceLT]
        (repeat ((with_reducible refine And.intro ?_ ?_); (focus (exact zS))))
        refine GdO.mk _ (fun hg => by simp only [sxu, ↓exq, ↓zB, Nat.reduceBEq, hg]; (repeat ((with_reducible refine And.intro ?_ ?_); (focus (exact zS)))); exact CallP.use (filled_c t t.rows hs) ⟨rfl, rfl, rfl⟩) ?_
        simp only [↓sxd, sxu, ↓zE, Nat.reduceBEq, Nat.reduceLT]
        (repeat ((with_reducible refine And.intro ?_ ?_); (focus (exact zS))))
        refine GdO.mk _ (fun hg => by simp only [sxu, ↓exq, ↓zK, hg]; (all_goals try exact zF)) ?_
        simp only [↓sxd, sxu, ↓zE, ↓exq, ↓zI, Nat.reduceBEq, Nat.reduceLT]
        (all_goals try exact zF)) ?_
    refine Tr.cond rfl (fun h37 => ?_) (fun h37 => ?_)
    · rw [if_pos h37] at hck
      rw [hck]
      refine Tr.reg [2] (by
          simp only [↓sxd, sxu, ↓zE, ↓exq, Nat.reduceLT]
          (all_goals try exact zF)) ?_
      refine Tr.ret ?_
      (refine ⟨.inr rfl, ?_⟩; first | rfl | exact ⟨rfl, rfl, trivial⟩ | exact ⟨rfl, rfl, rfl, trivial⟩ | (simp only [Res, ResL, ResOK, ↓sxd, sxu, ↓zE, ↓zC, zJ, ↓exP, ↓exq, ↓zB, ↓zI, ↓zK, ↓zL, ↓zD, ↓zM, ↓zA, Nat.reduceBEq, Nat.reduceAdd, Nat.reduceLT, Nat.reduceMul, Nat.reduceSub, Nat.reduceLeDiff, Nat.reduceEqDiff, Int.reduceLE, Int.reduceLT, Int.reduceToNat, reduceIte, sxe, tysH4_30]; (repeat' (first | rfl | exact trivial | exact fun h => h | exact fun h => (by rw [h]; rfl) | apply And.intro | omega | exact Nat.le_of_ble_eq_true rfl))))
    · rw [if_neg (by rw [h37]; decide)] at hck
      rw [hck]
      refine Tr.skip ?_
      refine Tr.reg [2] (by
          simp only [↓sxd, sxu, ↓zE, ↓exq, Nat.reduceLT]
          (all_goals try exact zF)) ?_
      refine Tr.ret ?_
      (refine ⟨.inr rfl, ?_⟩; first | rfl | exact ⟨rfl, rfl, trivial⟩ | exact ⟨rfl, rfl, rfl, trivial⟩ | (simp only [Res, ResL, ResOK, ↓sxd, sxu, ↓zE, ↓zC, zJ, ↓exP, ↓exq, ↓zB, ↓zI, ↓zK, ↓zL, ↓zD, ↓zM, ↓zA, Nat.reduceBEq, Nat.reduceAdd, Nat.reduceLT, Nat.reduceMul, Nat.reduceSub, Nat.reduceLeDiff, Nat.reduceEqDiff, Int.reduceLE, Int.reduceLT, Int.reduceToNat, reduceIte, sxe, tysH4_30]; (repeat' (first | rfl | exact trivial | exact fun h => h | exact fun h => (by rw [h]; rfl) | apply And.intro | omega | exact Nat.le_of_ble_eq_true rfl))))
abbrev tysH4_70 := And.intro ty.sz0 <| And.intro ty.agg0 <| And.intro ty.elem0 <| And.intro ty.sz3 <| And.intro ty.agg3 <| And.intro ty.elem3 <| And.intro ty.zero3 <| And.intro ty.und3 <| And.intro ty.sz4 <| And.intro ty.agg4 <| And.intro ty.elem4 <| And.intro ty.zero4 <| And.intro ty.und4 <| And.intro ty.sz22 <| And.intro ty.agg22 <| And.intro ty.elem22 <| And.intro ty.by22 <| And.intro ty.ez22 <| And.intro ty.zero22 <| And.intro ty.und22 <| And.intro ty.sz32 <| And.intro ty.agg32 <| And.intro ty.fld32_0 <| And.intro ty.fld32_1 <| And.intro ty.elem32 <| And.intro ty.zero32 <| And.intro ty.pl32 <| And.intro ty.sz44 <| And.intro ty.agg44 <| And.intro ty.elem44 <| And.intro ty.by44 <| And.intro ty.ez44 <| And.intro ty.zero44 <| And.intro ty.und44 <| And.intro ty.sz79 <| And.intro ty.agg79 <| And.intro ty.fld79_0 <| And.intro ty.fld79_1 <| And.intro ty.elem79 <| And.intro ty.zero79 <| ty.pl79
theorem cell_c (t : HT) (c : HC) (hs : small8 t.rows) (h0 : 0 < t.rows.length) : CallP Tryz.prog G0 70 [t.s, c.s] (B (t.isCell c)) := by
  have w1 : IntKind.i64.wrap ((t.rows.length : Int) - 1) = (t.rows.length : Int) - 1 := wr (by omega) (by have := hs.1; omega)
  have hm := hs.2 _ (getD_mem' (l := t.rows) (i := 0) [] h0)
  have w2 : IntKind.i64.wrap (((t.rows.getD 0 []).length : Int) - 1) = ((t.rows.getD 0 []).length : Int) - 1 := wr (by omega) (by omega)
  refine CallP.body 23 [.tmp 4] Tryz.func70 (by kernel_rfl) rfl rfl rfl zP zP ?_
  refine Tr.reg [2, 3] (by
      simp only [↓sxd, sxu, ↓zE, ↓exq, ↓zM, Nat.reduceBEq, Nat.reduceAdd, Nat.reduceLT, Nat.reduceEqDiff]
      (all_goals try exact zF)) ?_
  refine Tr.regD [0, 1, 2, 3, 4, 5, 6, 7, 8, 9, 10, 11, 12, 13, 14, 15, 16, 17, 18] [] [] [4] mix (by kernel_rfl) (by
      simp only [↓sxd, sxu, ↓zC, zJ, ↓exq, ↓zB, ↓zL, ↓zD, ↓zA, Nat.reduceBEq, Nat.reduceAdd, Nat.reduceLT, Nat.reduceEqDiff, sxe, tysH4_70, w1]
      (repeat ((with_reducible refine And.intro ?_ ?_); (focus (exact zS))))
      refine CallD.use (within_c _ _ _) ?_
      try simp only [↓sxd, sxu, ↓zC, zJ, ↓exq, Nat.reduceLT]
      iterate 8
        (repeat ((with_reducible refine And.intro ?_ ?_); (focus (exact zS))))
        refine GdD.mk _ (fun hg => by simp only [↓sxd, sxu, ↓exP, ↓exq, ↓zB, ↓zL, ↓zD, ↓zA, Nat.reduceBEq, Nat.reduceAdd, Nat.reduceLT, Nat.reduceEqDiff, Int.reduceLE, sxe, tysH4_70, h0, w2, hg]; (all_goals try exact zF)) ?_
        simp only [↓sxd, sxu, ↓zC, zJ, Nat.reduceBEq, Nat.reduceLT]
      (repeat ((with_reducible refine And.intro ?_ ?_); (focus (exact zS))))
      refine GdD.mk _ (fun hg => by simp only [sxu, ↓exP, Nat.reduceBEq, hg]; first | exact within_c _ _ _ | exact ⟨within_c _ _ _, rfl, rfl⟩ | exact ⟨within_c _ _ _, trivial⟩ | exact ⟨within_c _ _ _, trivial, trivial⟩) ?_
      simp only [↓sxd, sxu, ↓zC, zJ, ↓exq, ↓zI, Nat.reduceBEq, Nat.reduceLT]
      (all_goals try exact zF)) ?_
  refine Tr.ret ?_
  (refine ⟨.inr rfl, ?_⟩; first | rfl | exact ⟨rfl, rfl, trivial⟩ | exact ⟨rfl, rfl, rfl, trivial⟩ | (simp only [Res, ResL, ResOK, ↓sxd, sxu, ↓zE, ↓zC, zJ, ↓exP, ↓exq, ↓zB, ↓zI, ↓zK, ↓zL, ↓zD, ↓zM, ↓zA, Nat.reduceBEq, Nat.reduceAdd, Nat.reduceLT, Nat.reduceMul, Nat.reduceSub, Nat.reduceLeDiff, Nat.reduceEqDiff, Int.reduceLE, Int.reduceLT, Int.reduceToNat, reduceIte, sxe, tysH4_70]; (repeat' (first | rfl | exact trivial | exact fun h => h | exact fun h => (by rw [h]; rfl) | apply And.intro | omega | exact Nat.le_of_ble_eq_true rfl))))
abbrev tysH4_74 := And.intro ty.sz0 <| And.intro ty.agg0 <| And.intro ty.elem0 <| And.intro ty.sz3 <| And.intro ty.agg3 <| And.intro ty.elem3 <| And.intro ty.zero3 <| And.intro ty.und3 <| And.intro ty.sz4 <| And.intro ty.agg4 <| And.intro ty.elem4 <| And.intro ty.zero4 <| And.intro ty.und4 <| And.intro ty.sz32 <| And.intro ty.agg32 <| And.intro ty.fld32_0 <| And.intro ty.fld32_1 <| And.intro ty.elem32 <| And.intro ty.zero32 <| And.intro ty.pl32 <| And.intro ty.sz79 <| And.intro ty.agg79 <| And.intro ty.fld79_0 <| And.intro ty.fld79_1 <| And.intro ty.elem79 <| And.intro ty.zero79 <| And.intro ty.pl79 <| And.intro ty.sz88 <| And.intro ty.agg88 <| And.intro ty.fld88_0 <| And.intro ty.fld88_1 <| And.intro ty.fld88_2 <| And.intro ty.elem88 <| And.intro ty.zero88 <| ty.pl88
theorem request_c (t : HT) (q : HQ) (hs : small8 t.rows) (h0 : 0 < t.rows.length) : CallP Tryz.prog G0 74 [t.s, q.s] (B (t.okQ q)) := by
  refine CallP.body 19 [.tmp 4] Tryz.func74 (by kernel_rfl) rfl rfl rfl zP zP ?_
  refine Tr.reg [2, 3] (by
      simp only [↓sxd, sxu, ↓zE, ↓exq, ↓zM, Nat.reduceBEq, Nat.reduceAdd, Nat.reduceLT, Nat.reduceEqDiff]
      (all_goals try exact zF)) ?_
  refine Tr.reg [4] (by
      simp only [↓sxd, sxu, ↓zE, ↓exq, ↓zD, ↓zA, Nat.reduceBEq, Nat.reduceAdd, Nat.reduceLT, Nat.reduceLeDiff, Nat.reduceEqDiff, tysH4_74]
      (repeat ((with_reducible refine And.intro ?_ ?_); (focus (exact zS))))
      refine CallO.use (cell_c t q.cell hs h0) ?_
      try simp only [↓sxd, sxu, ↓zE, ↓exq, Nat.reduceLT]
      iterate 2
        (repeat ((with_reducible refine And.intro ?_ ?_); (focus (exact zS))))
        refine GdO.mk _ (fun hg => by simp only [sxu, ↓exq, ↓zD, ↓zA, Nat.reduceBEq, Nat.reduceAdd, Nat.reduceLT, Nat.reduceEqDiff, tysH4_74, hg]; (all_goals try exact zF)) ?_
        simp only [↓sxd, sxu, ↓zE, Nat.reduceBEq, Nat.reduceLT]
      (repeat ((with_reducible refine And.intro ?_ ?_); (focus (exact zS))))
      refine GdO.mk _ (fun hg => by simp only [sxu, ↓exq, ↓zB, hg]; (repeat ((with_reducible refine And.intro ?_ ?_); (focus (exact zS)))); exact CallP.use (within_c _ _ _) ⟨rfl, rfl, rfl⟩) ?_
      simp only [↓sxd, sxu, ↓zE, ↓exq, ↓zI, Nat.reduceBEq, Nat.reduceLT]
      iterate 2
        (repeat ((with_reducible refine And.intro ?_ ?_); (focus (exact zS))))
        refine GdO.mk _ (fun hg => by simp only [sxu, ↓exq, ↓zD, ↓zA, Nat.reduceBEq, Nat.reduceAdd, Nat.reduceLT, Nat.reduceEqDiff, tysH4_74, hg]; (all_goals try exact zF)) ?_
        simp only [↓sxd, sxu, ↓zE, Nat.reduceBEq, Nat.reduceLT]
      (repeat ((with_reducible refine And.intro ?_ ?_); (focus (exact zS))))
      refine GdO.mk _ (fun hg => by simp only [sxu, ↓exq, ↓zB, hg]; (repeat ((with_reducible refine And.intro ?_ ?_); (focus (exact zS)))); exact CallP.use (within_c _ _ _) ⟨rfl, rfl, rfl⟩) ?_
      simp only [↓sxd, sxu, ↓zE, ↓exq, ↓zI, Nat.reduceBEq, Nat.reduceLT]
      (all_goals try exact zF)) ?_
  refine Tr.ret ?_
  (refine ⟨.inr rfl, ?_⟩; first | rfl | exact ⟨rfl, rfl, trivial⟩ | exact ⟨rfl, rfl, rfl, trivial⟩ | (simp only [Res, ResL, ResOK, ↓sxd, sxu, ↓zE, ↓zC, zJ, ↓exP, ↓exq, ↓zB, ↓zI, ↓zK, ↓zD, ↓zM, ↓zA, Nat.reduceBEq, Nat.reduceAdd, Nat.reduceLT, Nat.reduceMul, Nat.reduceSub, Nat.reduceLeDiff, Nat.reduceEqDiff, Int.reduceLE, Int.reduceLT, Int.reduceToNat, reduceIte, sxe, tysH4_74]; (repeat' (first | rfl | exact trivial | exact fun h => h | exact fun h => (by rw [h]; rfl) | apply And.intro | omega | exact Nat.le_of_ble_eq_true rfl))))
end Go.Proofs.YtijechcadlklhaaGreat
namespace Go.Sy
section
variable {P : Program} {G : Nat → Option (List D)} {ro : Option Nat} {ops : Array Oper} {ul louds : List Nat}
def crossB (m : List Nat) (L1 L2 : List (Nat × Oper × Bool)) : Bool := L1.all fun x => L2.all fun y => !(y.2.2 && isRd x.2.1) || Bf m x.1 y.1
theorem RunL_append : ∀ {e1 e2 : List Ev} {a b c : St}, RunL a e1 b → RunL b e2 c → RunL a (e1 ++ e2) c
  | [], _, _, _, _, h1, h2 => by
    have h1 : _ = _ := h1
    subst h1; exact h2
  | _ :: _, _, _, _, _, ⟨h1, h2, h3⟩, h => ⟨h1, h2, RunL_append h3 h⟩
theorem mkL_append (ops : List Oper) : ∀ (a b : List Nat), mkL louds ops (a ++ b) = mkL louds ops a ++ mkL louds ops b
  | [], _ => rfl
  | i :: a, b => by
    simp only [List.cons_append, mkL, mkL_append ops a b]
    cases ops[i]? <;> rfl
theorem Tr.draw2 {id : Nat} {L1 L2 : List (Nat × Oper × Bool)} {st : St} {Q : Exit → St → Prop} (hmix : P.follows .mixedOrders = true) (hc : dChk (Region.before ops).toList ops ul (L1 ++ L2) = true) (hx : crossB (Region.before ops).toList L1 L2 = true)
    (hg : ∀ x ∈ L1 ++ L2, ops[x.1]? = some x.2.1) (h : exD P G ops ul L1 st [] fun s => exD P G ops ul L2 s [] (Q .normal)) : Tr P G ro (.region id ops true) st Q := by
  intro O M pb pl a w hR
  obtain ⟨ev1, st1, a1, a2, a3, a4, a5, a6⟩ := yP L1 st [] h
  obtain ⟨ev2, stf, b1, b2, b3, b4, b5, b6⟩ := yP L2 st1 [] a6
  have h1 := RunL_append a1 b1
  have h2 : (ev1 ++ ev2).map (fun e => (e.i, e.o, e.ld)) = L1 ++ L2 := by rw [List.map_append, a2, b2]
  have h3 : ∀ e ∈ ev1 ++ ev2, EvAt P G ops e.ld e.o e.st e.r e.hp e.nx := fun e he => by
    rcases List.mem_append.1 he with he | he
    · exact a3 e he
    · exact b3 e he
  obtain ⟨d1, d2, d3, d4⟩ := DOk_of hc hg h2
  refine wpIn_region_any hmix ?_
  have hst : Step (ownOf pl st.hp) (ownOf pl st.hp) w { w with drawn := w.drawn + 1 } := ⟨Nat.le_refl _, fun _ _ _ => rfl, rfl, rfl, fun _ h => .inl h⟩
  have hadd : Add w { w with drawn := w.drawn + 1 } := ⟨Nat.le_refl _, fun _ _ => rfl, rfl, rfl⟩
  have h5 : (ev1 ++ ev2).Pairwise (fun x y => y.ld = true → isRd x.o = true → Bf (Region.before ops).toList x.i y.i = true ∨ (ul.contains x.i = true → ∀ id, rdEv G x.o x.st = some id → y.hp.lookup id = y.st.hp.lookup id)) := by
    refine List.pairwise_append.2 ⟨a5.imp fun h hl _ => .inr (h hl), b5.imp fun h hl _ => .inr (h hl), fun x hx1 y hy1 hl hr => .inl ?_⟩
    have hx2 : (x.i, x.o, x.ld) ∈ L1 := by rw [← a2]; exact List.mem_map_of_mem (f := fun e : Ev => (e.i, e.o, e.ld)) hx1
    have hy2 : (y.i, y.o, y.ld) ∈ L2 := by rw [← b2]; exact List.mem_map_of_mem (f := fun e : Ev => (e.i, e.o, e.ld)) hy1
    have := List.all_eq_true.1 (List.all_eq_true.1 hx _ hx2) _ hy2
    simpa [hl, hr] using this
  refine draw_sim (own0 := ownOf pl st.hp) (w0 := w) d1 h1 (fun e he => ⟨h3 e he, d2 e he⟩) ?_ ?_ (fun pl' a' w' hR' hs' => ⟨pl', stf, b6, hR', hs'⟩) ops.size (Array.replicate ops.size false) pl st a _ ?_ ?_
  · refine (d4.and h5).imp fun {x y} ⟨h1, h2⟩ hl => ?_
    by_cases hr : isRd x.o = true
    · rcases h1 hl hr with h | h
      · exact .inl h
      · rcases h2 hl hr with h' | h'
        · exact .inl h'
        · exact .inr fun id hid => h' h id hid
    · exact .inr fun id hid => absurd (rdEv_isRd (by rw [hid]; rfl)) hr
  · exact d3.imp fun h hl hr => h hl (rdEv_isRd hr)
  · have hlen : (L1 ++ L2).length = ops.size := by
      simp only [dChk, Bool.and_eq_true] at hc
      simpa using hc.1.1.1.1
    have : ∀ e : Ev, (!(Array.replicate ops.size false).getD e.i false) = true := fun e => by
      by_cases hlt : e.i < ops.size <;> simp [hlt]
    rw [List.filter_eq_self.2 fun e _ => this e, ← hlen, ← h2, List.length_map]
  · have h0 : ∀ i, (Array.replicate ops.size false).getD i false = false := fun i => by
      by_cases hlt : i < ops.size <;> simp [hlt]
    refine ⟨by simp, fun i o hi => ?_, ⟨hR.hs.add hadd, hR.tm.ext hadd.ext (fun _ _ h => h), hR.nt, hR.dfStep hst, hR.bd⟩, hst, fun t => ?_, ?_, rfl, rfl, rfl⟩
    · rw [h0] at hi; cases hi
    · rw [foldT_none (ev1 ++ ev2) _ fun e _ _ => h0 e.i]
    · rw [foldH_none (ev1 ++ ev2) _ fun e _ _ => h0 e.i]
theorem Tr.regD2 {id : Nat} {y : Code} {st : St} {Q : Exit → St → Prop} (is1 is2 louds ul ks : List Nat) {st' : St} (hmix : P.follows .mixedOrders = true)
    (hc : (dChk (Region.before ops).toList ops ul (mkL louds ops.toList (is1 ++ is2)) && crossB (Region.before ops).toList (mkL louds ops.toList is1) (mkL louds ops.toList is2)) = true)
    (h : exY P G ops ul louds is1 st [] fun s1 => exY P G ops ul louds is2 s1 [] fun s => s.keep ks = st') (hy : Tr P G ro y st' Q) : Tr P G ro (.seq (.region id ops true) y) st Q := by
  rw [Bool.and_eq_true, mkL_append] at hc
  refine Tr.seq ((Tr.draw2 (Q := fun x s => match x with | .normal => s.keep ks = st' | _ => False) hmix hc.1 hc.2 (fun x hx => ?_) h).mono ?_)
  · rw [← mkL_append] at hx
    have := mkL_get hx
    simpa using this
  · intro x s hx
    cases x with
    | normal => exact Tr.imp (hx ▸ Imp.keep ks) hy
    | _ => exact hx.elim
end
end Go.Sy
namespace Go.Sy
section
variable {P : Program} {G : Nat → Option (List D)} {O : Nat → Prop} {pb pl pl' : Nat → Option Pl} {w w' : World} {hp hp' : HpT} {nx nx' : Nat} {ok ok' : Nat → Prop}
theorem run_buildOwn {t : TypeId} {n sz : Nat} {parts : List (Nat × SV)} {vparts : Array (Nat × Value)} {K : KT} (hs : HS G O pb pl w hp nx)
    (htl : telem P t = some sz) (hsz : sz ≠ 0) (hby : (tby P t).isSome = true) (hidx : parts.map (·.1) = List.range (n + 1)) (hall : (parts.all fun p => svOk p.2 && ((svCells p.2).length == sz)) = true) (hsmall : (n + 1) * sz ≤ 16777216)
    (hl : vparts.size = parts.length) (hf : vparts.toList.map (·.1) = parts.map (·.1))
    (hr : ∀ i (h : i < parts.length), SR pl (okOf O pl hp) w (parts[i]).2 ((vparts.getD i (0, undef)).2)) (h : K (.slc nx sz 0 (n + 1) (n + 1)) ((nx, .arr sz (parts.map fun p => svCells p.2)) :: hp) (nx + 1)) :
    ∃ u w', (Instr.buildSlice t (n + 1) vparts).run P w = .ok u w' ∧ Fin G O pb pl w hp K u w' := by
  obtain ⟨b, hb⟩ := Option.isSome_iff_exists.1 hby
  obtain ⟨e, ie, z, hu, hi, hz, hbb⟩ := tby_some hb
  obtain ⟨e', hu', htsz⟩ := telem_some htl
  rw [hu] at hu'
  cases hu'
  have hisz : ie.size = sz := by simpa [tsz, hi] using htsz
  have hlen : parts.length = n + 1 := by simpa using congrArg List.length hidx
  have hpt : ∀ i (h : i < parts.length), svOk (parts[i]).2 = true ∧ (svCells (parts[i]).2).length = sz := by
    intro i hi
    have := List.all_eq_true.1 hall _ (List.getElem_mem hi)
    simpa using this
  have hvs : ∀ v ∈ vparts.toList.map (·.2), v.cells.size = sz := by
    intro v hv
    obtain ⟨k, hk, rfl⟩ := List.getElem_of_mem hv
    have hk' : k < parts.length := by simp at hk; omega
    have hk'' : k < vparts.size := by omega
    have h1 := (hr k hk').cells (hpt k hk').1
    have h2 := (hpt k hk').2
    simp only [Array.getD_eq_getD_getElem?, Array.getElem?_eq_getElem hk'', Option.getD_some] at h1
    simp only [List.getElem_map, Array.getElem_toList]
    omega
  have hzip := parts_zip vparts.toList (n + 1) (by rw [hf, hidx])
  have hmade : ((Array.range ((n + 1) * ie.size)).map (z.cells[· % z.cells.size]!)).size = (n + 1) * sz := by simp [hisz]
  have hfill := Great.fill_whole (s := sz) (by omega) (vparts.toList.map (·.2)) ((Array.range ((n + 1) * ie.size)).map (z.cells[· % z.cells.size]!)) hvs (by rw [hmade]; simp; rw [hl, hlen])
  rw [← hzip] at hfill
  have hrun := run_buildSlice (P := P) w t e (n + 1) vparts _ ie z hu hi hz (by rw [hisz]; omega) (by rw [hisz]; exact Nat.mul_ne_zero (by omega) hsz) (by rw [hisz] at hfill ⊢; exact hfill)
  generalize hcs : ((vparts.toList.map (·.2)).flatMap fun v => v.cells.toList).toArray = c at hrun
  have hget : ∀ i (h : i < parts.length) j, j < sz → c.getD (i * sz + j) undef = ((vparts.getD i (0, undef)).2).cells.getD j undef ∧ i * sz + j < c.size := by
    intro i hi j hj
    have e1 : c[i * sz + j]? = some (((vparts.getD i (0, undef)).2).cells.getD j undef) := by
      rw [← hcs, List.getElem?_toArray, Great.flat_get (s := sz) (by omega) _ hvs]
      have hd : (i * sz + j) / sz = i := by rw [Nat.mul_comm, Nat.mul_add_div (by omega), Nat.div_eq_of_lt hj]; omega
      have hm : (i * sz + j) % sz = j := by rw [Nat.mul_comm, Nat.mul_add_mod, Nat.mod_eq_of_lt hj]
      rw [hd, hm]
      have hiv : i < vparts.size := by omega
      have hsz' := hvs (vparts[i]).2 (List.mem_map.2 ⟨vparts[i], by simp, rfl⟩)
      simp only [List.getElem?_map, Array.getElem?_toList, Array.getElem?_eq_getElem hiv, Option.map_some, Option.bind_some, Array.getD_eq_getD_getElem?, Option.getD_some]
      rw [Array.getElem?_eq_getElem (by omega)]
      rfl
    refine ⟨by rw [Array.getD_eq_getD_getElem?, e1]; rfl, (Array.getElem?_eq_some_iff.1 e1).1⟩
  have hcsz : c.size = (n + 1) * sz := by
    have hfl : ∀ (l : List Value), (∀ v ∈ l, v.cells.size = sz) → (l.flatMap fun v => v.cells.toList).length = l.length * sz := by
      intro l
      induction l with
      | nil => intro _; simp
      | cons v l ih =>
        intro hv
        simp only [List.flatMap_cons, List.length_append, Array.length_toList, List.length_cons, Nat.add_mul, Nat.one_mul]
        rw [ih fun u hu => hv u (List.mem_cons_of_mem _ hu), hv v List.mem_cons_self]
        omega
    rw [← hcs]
    simp only [List.size_toArray]
    rw [hfl _ hvs]
    simp [hl, hlen]
  have hcell : ∀ i (h : i < parts.length) j (hj : j < (svCells (parts[i]).2).length), SR pl (okOf O pl hp) w ((svCells (parts[i]).2)[j]) (c.getD (i * sz + j) undef) := by
    intro i hi j hj
    have := (hpt i hi).2
    rw [(hget i hi j (by omega)).1]
    exact ((hr i hi).cells (hpt i hi).1).2 j hj
  obtain ⟨g1, g2, g3⟩ := hs.newArr rfl rfl rfl c e sz (parts.map fun p => svCells p.2) (by rw [hcsz]; exact Nat.mul_ne_zero (by omega) hsz) (by simp [hcsz, hlen])
    (by intro i hi; simp only [List.getElem_map]; exact (hpt i (by simpa using hi)).2)
    (by intro i hi j hj
        simp only [List.getElem_map] at hj ⊢
        exact hcell i (by simpa using hi) j hj)
  refine ⟨_, _, hrun, _, _, _, _, h, g1, ?_, g2, g3⟩
  have := SR.slc (ok := okOf O (plUp pl nx ⟨w.heap.size, sz, c.size⟩) ((nx, Obj.arr sz (parts.map fun p => svCells p.2)) :: hp)) (w := w.alloc (.cells c e)) nx sz 0 (n + 1) (n + 1) (n + 1) _ (plUp_self pl nx ⟨w.heap.size, sz, c.size⟩) rfl (Nat.le_refl _) (Nat.le_refl _) (by simp [hcsz])
  simpa using this
end
section
variable {P : Program} {G : Nat → Option (List D)} {ro : Option Nat} {Q : Exit → St → Prop} {st : St}
end
end Go.Sy
namespace Go.Sy
section
variable {P : Program} {G : Nat → Option (List D)} {ro : Option Nat} {M : Nat} {O : Nat → Prop} {pb pl pl' : Nat → Option Pl} {w w' : World} {hp hp' : HpT} {nx nx' : Nat} {ok ok' : Nat → Prop}
def RegT (P : Program) (G : Nat → Option (List D)) (ro : Option Nat) (ops : Array Oper) (k m : Nat) (st : St) (Q : St → Prop) : Prop :=
  ∀ O M pb pl a w (X : Exit → Act → World → Prop), R G O M pb pl st a w →
    (∀ pl' st' a' w', Q st' → R G O M pb pl' st' a' w' → Step (ownOf pl st.hp) (ownOf pl' st'.hp) w w' → X .normal a' w') →
    wpOpsIn (Fw ro) 0 P ops X (List.range' k m) a w
theorem RegT.nil {ops : Array Oper} {k : Nat} {st : St} {Q : St → Prop} (h : Q st) : RegT P G ro ops k 0 st Q :=
  fun _ _ _ pl a w _ hR hX => hX pl st a w h hR (.refl _ _)
theorem RegT.ex {ops : Array Oper} {Q K : St → Prop} {m : Nat} : ∀ (os rest : List Oper) (k : Nat) (st : St),
    ops.toList.drop k = os ++ rest → z8 P G ops.toList os st K → (∀ st', K st' → RegT P G ro ops (k + os.length) m st' Q) → RegT P G ro ops k (os.length + m) st Q
  | [], rest, k, st, _, h, hK => by
    have : RegT P G ro ops k m st Q := hK _ h
    simpa using this
  | o :: os, rest, k, st, hk, h, hKK => by
    intro O M pb pl a w X hR hX
    have hget : ops[k]? = some o := by
      have : (ops.toList.drop k)[0]? = some o := by rw [hk]; rfl
      simpa using this
    have hk' : ops.toList.drop (k + 1) = os ++ rest := by
      rw [← List.drop_drop, hk]; rfl
    have hlen : (o :: os).length + m = (os.length + m) + 1 := by simp; omega
    rw [hlen]
    simp only [List.range'_succ, wpOpsIn, hget]
    have hkk : k + (o :: os).length = (k + 1) + os.length := by simp; omega
    obtain ⟨hd, h⟩ := h
    simp only [hkk] at hKK
    have hev := ev_sound hR.hs hR.tm
    have ih := fun st' h' => RegT.ex (m := m) (Q := Q) os rest (k + 1) st' hk' h' hKK
    split at h
    · rename_i hg
      have hw : Region.wanted o (yielded ops a.tmps) = true := by simp [Region.wanted, hg]
      rw [if_pos hw]
      refine (exq_sound hR.hs hev h).wpIn (exq_defer h) ?_
      rintro v w' ⟨pl', r, hp', nx', hK, hs', hv, hst, hpl⟩
      exact ih _ hK O M pb pl' _ w' X (hR.put hd hs' hst hpl hv) fun pl₂ st₂ a₂ w₂ h1 h2 h3 => hX pl₂ st₂ a₂ w₂ h1 h2 (hst.trans h3)
    · rename_i j want hg
      split at h
      · rename_i g hgd
        split at h
        · rename_i b hb
          have hgv : SR pl (okOf (Ox O a) pl st.hp) w ((st.tm.lookup g).getD .unk) (a.tmps.getD g undef) := by
            have := hev (.tmp g)
            simpa [ev, Act.eval] using this
          have hgs := gcond_sound hgv hb
          have hwanted : Region.wanted o (yielded ops a.tmps) = b := by
            have hy : yielded ops a.tmps j = bval (a.tmps.getD g undef) := by
              unfold yielded
              have : (ops[j]?).bind (·.dst) = some g := by simpa using hgd
              rw [this]
              simp only [Option.bind_some, Array.getD_eq_getD_getElem?]
              cases a.tmps[g]? with
              | none => simp [undef, bval]
              | some v => cases v <;> rfl
            simp only [Region.wanted, hg, hy]
            cases hbb : b
            · cases hv : (bval (a.tmps.getD g undef) == some want)
              · rfl
              · rw [hgs.1 hv] at hbb; cases hbb
            · exact hgs.2 hbb
          rw [hwanted]
          rcases h with ⟨r, hex, hK⟩ | ⟨rfl, hex⟩
          · cases b
            · simp only [Bool.false_eq_true, if_false]
              refine ⟨fun _ _ => trivial, ?_⟩
              exact ih _ hK O M pb pl _ w X (hR.put hd hR.hs (.refl _ _) (fun _ _ h => h) (.whn false r undef (fun h => by cases h) (fun _ => rfl))) hX
            · simp only [if_true]
              have hex' := hex rfl
              refine (exq_sound hR.hs (fun x => gstrip_sound (hev x)) hex').wpIn (exq_defer hex') ?_
              rintro v w' ⟨pl', r', hp', nx', ⟨rfl, rfl, rfl⟩, hs', hv, hst, hpl⟩
              exact ih _ hK O M pb pl' _ w' X (hR.put hd hs' hst hpl (.whn true _ v (fun _ => hv) (fun h => by cases h))) fun pl₂ st₂ a₂ w₂ h1 h2 h3 => hX pl₂ st₂ a₂ w₂ h1 h2 (hst.trans h3)
          · simp only [if_true]
            refine (exq_sound hR.hs (fun x => gstrip_sound (hev x)) hex).wpIn (exq_defer hex) ?_
            rintro v w' ⟨pl', r', hp', nx', hK, hs', hv, hst, hpl⟩
            exact ih _ hK O M pb pl' _ w' X (hR.put hd hs' hst hpl (.whn true _ v (fun _ => hv) (fun h => by cases h))) fun pl₂ st₂ a₂ w₂ h1 h2 h3 => hX pl₂ st₂ a₂ w₂ h1 h2 (hst.trans h3)
        · exact h.elim
      · exact h.elim
theorem RegT.imp {ops : Array Oper} {k m : Nat} {st st' : St} {Q : St → Prop} (hi : Imp st st') (h : RegT P G ro ops k m st' Q) : RegT P G ro ops k m st Q := by
  intro O M pb pl a w X hR hX
  obtain ⟨pl₁, hR₁, hown⟩ := hi G O M pb pl a w hR
  exact h O M pb pl₁ a w X hR₁ fun pl' s' a' w' q r s => hX pl' s' a' w' q r ((Step.less w hown).trans s)
theorem RegT.cut {ops : Array Oper} {k : Nat} {st st1 : St} {Q : St → Prop} (n m : Nat) (ks : List Nat) (hn : k + n ≤ ops.size) (h : z8 P G ops.toList ((ops.toList.drop k).take n) st fun s => s.keep ks = st1) (h2 : RegT P G ro ops (k + n) m st1 Q) : RegT P G ro ops k (n + m) st Q := by
  have hl : ((ops.toList.drop k).take n).length = n := by simp; omega
  have := RegT.ex (P := P) (G := G) (ro := ro) (ops := ops) (Q := Q) (m := m) ((ops.toList.drop k).take n) ((ops.toList.drop k).drop n) k st (List.take_append_drop _ _).symm h
    (fun s hs => RegT.imp (hs ▸ Imp.keep ks) (by rw [hl]; exact h2))
  rwa [hl] at this
def rowsOf (ρ : Operand → SV) (parts : List (Nat × Operand)) : List (List SV) := parts.map fun p => svCells (ρ p.2)
theorem RegT.own {ops : Array Oper} {k m n sz : Nat} {st : St} {Q : St → Prop} {o : Oper} {T : TypeId} {parts : List (Nat × Operand)} {d : Nat} {es : List (List SV)} (ho : ops[k]? = some o) (hop : o.op = .buildSlice T (n + 1) parts.toArray) (hd : o.dst = some d) (hg : o.guard = none)
    (hdn : d < st.nt) (htl : telem P T = some sz) (hsz : sz ≠ 0) (hby : (tby P T).isSome = true) (hidx : parts.map (·.1) = List.range (n + 1)) (hes : rowsOf (ev G st.tm) parts = es)
    (hall : (parts.all fun p => svOk (ev G st.tm p.2)) = true) (hw : (es.all fun e => e.length == sz) = true) (hsmall : (n + 1) * sz ≤ 16777216)
    (h : RegT P G ro ops (k + 1) m ⟨(d, .slc st.nx sz 0 (n + 1) (n + 1)) :: st.tm, (st.nx, .arr sz es) :: st.hp, st.nx + 1, st.nt, st.df, st.nb⟩ Q) : RegT P G ro ops k (m + 1) st Q := by
  intro O M pb pl a w X hR hX
  simp only [List.range'_succ, wpOpsIn, ho]
  have hwt : Region.wanted o (yielded ops a.tmps) = true := by simp [Region.wanted, hg]
  rw [if_pos hwt]
  have hev := ev_sound hR.hs hR.tm
  subst hes
  obtain ⟨v2, w2, hrun, pl2, r2, hp2, nx2, ⟨rfl, rfl, rfl⟩, f1, f2, f3, f4⟩ := run_buildOwn (P := P) (t := T) (n := n) (sz := sz) (parts := parts.map fun p => (p.1, ev G st.tm p.2)) (vparts := (parts.map fun p => (p.1, a.eval p.2)).toArray)
    (K := fun r hp' nx' => r = .slc st.nx sz 0 (n + 1) (n + 1) ∧ hp' = (st.nx, .arr sz (rowsOf (ev G st.tm) parts)) :: st.hp ∧ nx' = st.nx + 1) hR.hs htl hsz hby (by rw [List.map_map]; exact hidx)
    (by
      rw [List.all_eq_true] at hall hw ⊢
      intro p hp
      obtain ⟨q, hq, rfl⟩ := List.mem_map.1 hp
      have h1 := hall q hq
      have h2 := hw (svCells (ev G st.tm q.2)) (List.mem_map.2 ⟨q, hq, rfl⟩)
      simp only [h1, h2, Bool.and_self])
    hsmall (by simp) (by simp) (by
      intro i hi
      have hi' : i < parts.length := by simpa using hi
      simp only [List.getElem_map, Array.getD_eq_getD_getElem?, List.getElem?_toArray, List.getElem?_map, List.getElem?_eq_getElem hi', Option.map_some, Option.getD_some]
      exact hev _) ⟨rfl, by simp [rowsOf, Function.comp_def], rfl⟩
  refine RunOp.wpIn (K := fun u' w' => u' = v2 ∧ w' = w2) (fun c hc => by rw [hop] at hc; cases hc) (RunOp.value (v := v2) (by
    have e : (parts.toArray.map fun (i, x) => (i, a.eval x)) = (parts.map fun p => (p.1, a.eval p.2)).toArray := by simp
    simp only [execOp, hop]
    rw [Sem.run_bind]
    rw [e, show Sem.run P (Instr.buildSlice T (n + 1) (parts.map fun p => (p.1, a.eval p.2)).toArray) w = Result.ok v2 w2 from hrun]
    rfl) ⟨rfl, rfl⟩) ?_
  rintro u2 w3 ⟨rfl, rfl⟩
  have hR2 := hR.put (dst := o.dst) (r := .slc st.nx sz 0 (n + 1) (n + 1)) (v := u2) (by rw [hd]; exact hdn) f1 f3 f4 f2
  rw [hd] at hR2
  rw [hd]
  exact h O M pb pl2 _ w3 X hR2 fun pl₂ st₂ a₂ w₂ h1 h2 h3 => hX pl₂ st₂ a₂ w₂ h1 h2 (f3.trans h3)
theorem Tr.regT {id : Nat} {ops : Array Oper} {st : St} {Q : Exit → St → Prop} (m : Nat) (hm : ops.size = m) (h : RegT P G ro ops 0 m st (Q .normal)) : Tr P G ro (.region id ops false) st Q := by
  intro O M pb pl a w hR
  refine wpIn_region ?_
  rw [List.range_eq_range', hm]
  exact h O M pb pl a w _ hR fun pl' st' a' w' h1 h2 h3 => ⟨pl', st', h1, h2, h3⟩
theorem Tr.regTs {id : Nat} {ops : Array Oper} {st st' : St} {y : Code} {Q : Exit → St → Prop} (m : Nat) (ks : List Nat) (hm : ops.size = m) (h : RegT P G ro ops 0 m st (fun s => s.keep ks = st')) (hy : Tr P G ro y st' Q) : Tr P G ro (.seq (.region id ops false) y) st Q := by
  refine Tr.seq (Tr.mono (Tr.regT (Q := fun e s => match e with | .normal => s.keep ks = st' | _ => False) m hm h) ?_)
  intro x s hx
  cases x with
  | normal => exact Tr.imp (hx ▸ Imp.keep ks) hy
  | _ => exact hx.elim
theorem Tr.regT1 {id : Nat} {ops : Array Oper} {st st' : St} {Q : Exit → St → Prop} (m : Nat) (ks : List Nat) (hm : ops.size = m) (h : RegT P G ro ops 0 m st (fun s => s.keep ks = st')) (hq : Q .normal st') : Tr P G ro (.region id ops false) st Q := by
  refine Tr.post (Tr.mono (Tr.regT (Q := fun e s => match e with | .normal => s.keep ks = st' | _ => False) m hm h) ?_)
  intro x s hx
  cases x with
  | normal => exact ⟨st', hx ▸ Imp.keep ks, hq⟩
  | _ => exact hx.elim
end
end Go.Sy
namespace Go.Sy
def TnFix (n : Nat) (hp : HpT) : Prop := ∀ p ∈ hp, p.1 < n ∧ ∀ (r : Nat → Nat) (h h' : HpT), (∀ i, i < n → r i = i) → TnO r h h' p.2 p.2
theorem TnFix.nil (n : Nat) : TnFix n [] := fun p hp => by cases hp
theorem TnFix.cons {n k : Nat} {o : Obj} {hp : HpT} (hk : k < n) (h : ∀ (r : Nat → Nat) (h h' : HpT), (∀ i, i < n → r i = i) → TnO r h h' o o) (ht : TnFix n hp) : TnFix n ((k, o) :: hp) := fun p hp => by
  rcases List.mem_cons.1 hp with rfl | h'
  · exact ⟨hk, h⟩
  · exact ht p h'
theorem TnFix.append {n : Nat} {a b : HpT} (ha : TnFix n a) (hb : TnFix n b) : TnFix n (a ++ b) := fun p hp => by
  rcases List.mem_append.1 hp with h | h
  · exact ha p h
  · exact hb p h
theorem TnFix.mono {n m : Nat} {hp : HpT} (h : TnFix n hp) (hm : n ≤ m) : TnFix m hp := fun p hp => ⟨Nat.lt_of_lt_of_le (h p hp).1 hm, fun r h1 h2 hr => (h p hp).2 r h1 h2 fun i hi => hr i (Nat.lt_of_lt_of_le hi hm)⟩
theorem TnFix.f2 {n : Nat} {hp h1 h2 : HpT} (h : TnFix n hp) {r : Nat → Nat} (hr : ∀ i, i < n → r i = i) : F2 (fun p p' => p.1 = r p'.1 ∧ TnO r h1 h2 p.2 p'.2) hp hp :=
  F2.refl fun p hp => ⟨(hr _ (h p hp).1).symm, (h p hp).2 r h1 h2 hr⟩
def rg (n d i : Nat) : Nat := if i < n then i else i + d
theorem rg_lt {n d i : Nat} (h : i < n) : rg n d i = i := if_pos h
theorem rg_ge {n d i : Nat} (h : n ≤ i) : rg n d i = i + d := if_neg (by omega)
end Go.Sy
