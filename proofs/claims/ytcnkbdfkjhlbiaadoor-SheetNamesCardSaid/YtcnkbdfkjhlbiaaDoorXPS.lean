/- Lemmas, part XPS. Conditions: none. -/
import Derived.Test.YtcnkbdfkjhlbiaaDoorXPM
set_option linter.unusedVariables false
namespace Go.Proofs.YtcnkbdfkjhlbiaaDoor
open Go.Sy
set_option maxRecDepth 8000
abbrev xP := And.intro ty.sz0 <| And.intro ty.agg0 <| And.intro ty.elem0 <| And.intro ty.sz3 <| And.intro ty.agg3 <| And.intro ty.elem3 <| And.intro ty.zero3 <| And.intro ty.und3 <| And.intro ty.sz4 <| And.intro ty.agg4 <| And.intro ty.elem4 <| And.intro ty.zero4 <| And.intro ty.und4 <| And.intro ty.sz104 <| And.intro ty.agg104 <| And.intro ty.fld104_0 <| And.intro ty.fld104_1 <| And.intro ty.elem104 <| And.intro ty.zero104 <| And.intro ty.pl104 <| And.intro ty.sz114 <| And.intro ty.agg114 <| And.intro ty.elem114 <| And.intro ty.zero114 <| ty.und114
theorem keeps1_c (p : Pair) (s : Nat) (hs : s < 18446744073709551616) (h1 : 0 ≤ p.fst) (h2 : 0 ≤ p.snd) : CallP Tryd.prog G0 89 [p.s, .fp [U s]] (B (s.testBit p.fst.toNat == s.testBit p.snd.toNat)) := by
  obtain ⟨a, b⟩ := p
  obtain ⟨a, rfl⟩ := Int.eq_ofNat_of_zero_le h1
  obtain ⟨b, rfl⟩ := Int.eq_ofNat_of_zero_le h2
  refine CallP.body 13 [.tmp 3] Tryd.func89 (by kernel_rfl) rfl rfl rfl zP zP ?_
  refine Tr.reg [1, 2] (by
      simp only [↓sxd, sxu, ↓zE, ↓exq, ↓zI, Nat.reduceBEq, Nat.reduceAdd, Nat.reduceLT, Nat.reduceEqDiff]
      (all_goals try exact zF)) ?_
  refine Tr.regD [0, 1, 2, 3, 4, 5, 6, 7, 8, 9] [] [] [3] mix (by kernel_rfl) (by
      simp only [↓sxd, sxu, ↓zC, zK, ↓exq, ↓zD, ↓zA, Nat.reduceBEq, Nat.reduceAdd, Nat.reduceLT, Nat.reduceEqDiff, xP]
      (repeat ((with_reducible refine And.intro ?_ ?_); (focus (exact zS))))
      refine CallD.use (has_c s a hs) ?_
      try simp only [↓sxd, sxu, ↓zC, zK, ↓exq, ↓zD, ↓zA, Nat.reduceBEq, Nat.reduceAdd, Nat.reduceLT, Nat.reduceEqDiff, xP]
      (repeat ((with_reducible refine And.intro ?_ ?_); (focus (exact zS))))
      refine CallD.use (has_c s b hs) ?_
      try simp only [↓sxd, sxu, ↓zC, zK, ↓exq, Nat.reduceBEq, Nat.reduceLT, xP]
      (all_goals try exact zF)) ?_
  refine Tr.ret ?_
  (refine ⟨.inr rfl, ?_⟩; first | rfl | exact ⟨rfl, rfl, trivial⟩ | exact ⟨rfl, rfl, rfl, trivial⟩ | (simp only [Res, ResL, ResOK, ↓sxd, sxu, ↓zE, ↓zC, zK, ↓exP, ↓exq, ↓zB, ↓zL, ↓zD, ↓zI, ↓zA, Nat.reduceBEq, Nat.reduceAdd, Nat.reduceLT, Nat.reduceMul, Nat.reduceSub, Nat.reduceLeDiff, Nat.reduceEqDiff, Int.reduceLE, Int.reduceLT, Int.reduceToNat, reduceIte, sxe, xP]; (repeat' (first | rfl | exact trivial | exact fun h => h | exact fun h => (by rw [h]; rfl) | apply And.intro | omega | exact Nat.le_of_ble_eq_true rfl))))
def isCode (n : Int) : Bool := decide (0 ≤ n) && decide (n ≤ 9)
def Coding.cols (c : Coding) : Nat := (c.codes.getD 0 []).length
def Coding.row (c : Coding) (k : Nat) : Bool := decide ((c.codes.getD k []).length = c.cols) && (c.codes.getD k []).all isCode && within (c.wrong.getD k 0) 0 10
def Coding.check (c : Coding) : Int :=
  if (decide ((c.codes.length : Int) > 3) || !(c.codes.all fun l => decide ((l.length : Int) ≤ 10))) = true then 3
  else if c.codes.length = 0 ∨ c.wrong.length ≠ c.codes.length ∨ c.cols = 0 then 1
  else if (List.range c.codes.length).all c.row then 0 else 1
theorem coding_t {c : Coding} (h : ((((c.codes.length : Int) == 0) || ((c.wrong.length : Int) != (c.codes.length : Int))) || (((c.codes.getD 0 []).length : Int) == 0)) = true) : c.codes.length = 0 ∨ c.wrong.length ≠ c.codes.length ∨ c.cols = 0 := by
  simp only [Bool.or_eq_true, beq_iff_eq, bne_iff_ne, ne_eq] at h
  unfold Coding.cols
  omega
theorem coding_f {c : Coding} (h : ((((c.codes.length : Int) == 0) || ((c.wrong.length : Int) != (c.codes.length : Int))) || (((c.codes.getD 0 []).length : Int) == 0)) = false) : ¬ (c.codes.length = 0 ∨ c.wrong.length ≠ c.codes.length ∨ c.cols = 0) := by
  intro h2
  have : ((((c.codes.length : Int) == 0) || ((c.wrong.length : Int) != (c.codes.length : Int))) || (((c.codes.getD 0 []).length : Int) == 0)) = true := by
    simp only [Bool.or_eq_true, beq_iff_eq, bne_iff_ne, ne_eq]
    unfold Coding.cols at h2
    omega
  rw [this] at h; cases h
theorem coding_row {c : Coding} {k : Nat} : c.row k = !((((c.codes.getD k []).length : Int) != ((c.codes.getD 0 []).length : Int)) || !((c.codes.getD k []).all isCode) || !(decide (0 ≤ c.wrong.getD k 0) && decide (c.wrong.getD k 0 ≤ 10))) := by
  unfold Coding.row Coding.cols within
  cases h1 : decide ((c.codes.getD k []).length = (c.codes.getD 0 []).length) <;> simp at h1 <;> simp [h1, Int.ofNat_inj]
abbrev zU := And.intro ty.sz0 <| And.intro ty.agg0 <| And.intro ty.elem0 <| And.intro ty.sz3 <| And.intro ty.agg3 <| And.intro ty.elem3 <| And.intro ty.zero3 <| And.intro ty.und3 <| And.intro ty.sz4 <| And.intro ty.agg4 <| And.intro ty.elem4 <| And.intro ty.zero4 <| And.intro ty.und4 <| And.intro ty.sz31 <| And.intro ty.agg31 <| And.intro ty.elem31 <| And.intro ty.zero31 <| And.intro ty.und31 <| And.intro ty.sz39 <| And.intro ty.agg39 <| And.intro ty.elem39 <| And.intro ty.by39 <| And.intro ty.ez39 <| And.intro ty.zero39 <| And.intro ty.und39 <| And.intro ty.sz43 <| And.intro ty.agg43 <| And.intro ty.elem43 <| And.intro ty.by43 <| And.intro ty.ez43 <| And.intro ty.zero43 <| And.intro ty.und43 <| And.intro ty.sz59 <| And.intro ty.agg59 <| And.intro ty.fld59_0 <| And.intro ty.fld59_1 <| And.intro ty.elem59 <| And.intro ty.zero59 <| ty.pl59
theorem CheckCoding_c (c : Coding) (hs : c.codes.length < 4611686018427387904) (hw : c.wrong.length < 4611686018427387904) : CallP Tryd.prog G0 46 [c.s] (I c.check) := by
  refine CallP.body 67 [.tmp 2] Tryd.func46 (by kernel_rfl) rfl rfl rfl zP zP ?_
  refine Tr.reg [1] (by
      simp only [↓sxd, sxu, ↓zE, ↓exq, ↓zI, Nat.reduceBEq, Nat.reduceAdd, Nat.reduceLT, Nat.reduceEqDiff]
      (all_goals try exact zF)) ?_
  refine Tr.seq ?_
  refine Tr.reg [1, 14] (by
      simp only [↓sxd, sxu, ↓zE, ↓exq, ↓zB, ↓zJ, ↓zD, ↓zA, Nat.reduceAdd, Nat.reduceLT, Nat.reduceEqDiff, sxe, zU]
      (repeat ((with_reducible refine And.intro ?_ ?_); (focus (exact zS))))
      refine GdO.mk _ (fun hg => by simp only [sxu, ↓exq, ↓zA, Nat.reduceBEq, Nat.reduceEqDiff, zU]; (all_goals try exact zF)) ?_
      simp only [↓sxd, sxu, ↓zE, Nat.reduceBEq, Nat.reduceLT]
      (repeat ((with_reducible refine And.intro ?_ ?_); (focus (exact zS))))
      refine GdO.mk _ (fun hg => by simp only [sxu, ↓exq, ↓zD, Nat.reduceAdd, Nat.reduceLT, zU, hg]; (all_goals try exact zF)) ?_
      simp only [↓sxd, sxu, ↓zE, Nat.reduceBEq, Nat.reduceLT]
      (repeat ((with_reducible refine And.intro ?_ ?_); (focus (exact zS))))
      refine GdO.mk _ (fun hg => by simp only [sxu, ↓exq, ↓zB, hg]; (repeat ((with_reducible refine And.intro ?_ ?_); (focus (exact zS)))); exact CallP.use (allL_c (fun l => decide ((l.length : Int) ≤ 10)) c.codes hs 78 [] [] fa_nil fa_nil (fun x _ => checkCoding1_c x)) ⟨rfl, rfl, rfl⟩) ?_
      simp only [↓sxd, sxu, ↓zE, Nat.reduceBEq, Nat.reduceLT]
      (repeat ((with_reducible refine And.intro ?_ ?_); (focus (exact zS))))
      refine GdO.mk _ (fun hg => by simp only [sxu, ↓exq, ↓zL, hg]; (all_goals try exact zF)) ?_
      simp only [↓sxd, sxu, ↓zE, ↓exq, ↓zH, Nat.reduceBEq, Nat.reduceLT]
      (all_goals try exact zF)) ?_
  refine Tr.cond rfl (fun h14 => ?_) (fun h14 => ?_)
  · rw [show c.check = 3 from if_pos h14]
    refine Tr.reg [2] (by
        simp only [↓sxd, sxu, ↓zE, ↓exq, Nat.reduceLT]
        (all_goals try exact zF)) ?_
    refine Tr.ret ?_
    (refine ⟨.inr rfl, ?_⟩; first | rfl | exact ⟨rfl, rfl, trivial⟩ | exact ⟨rfl, rfl, rfl, trivial⟩ | (simp only [Res, ResL, ResOK, ↓sxd, sxu, ↓zE, ↓zC, zK, ↓exP, ↓exq, ↓zB, ↓zH, ↓zL, ↓zJ, ↓zD, ↓zI, ↓zA, Nat.reduceBEq, Nat.reduceAdd, Nat.reduceLT, Nat.reduceMul, Nat.reduceSub, Nat.reduceLeDiff, Nat.reduceEqDiff, Int.reduceLE, Int.reduceLT, Int.reduceToNat, reduceIte, sxe, zU]; (repeat' (first | rfl | exact trivial | exact fun h => h | exact fun h => (by rw [h]; rfl) | apply And.intro | omega | exact Nat.le_of_ble_eq_true rfl))))
  · have hall : (c.codes.all fun l => decide ((l.length : Int) ≤ 10)) = true := by
      simp only [Bool.or_eq_false_iff, Bool.not_eq_false'] at h14; exact h14.2
    have hl10 : ∀ k, k < c.codes.length → (c.codes.getD k []).length ≤ 10 := fun k hk => by
      have := List.all_eq_true.1 hall _ (getD_mem (d := []) hk)
      rw [decide_eq_true_eq] at this; omega
    refine Tr.skip ?_
    refine Tr.seq ?_
    refine Tr.reg [1, 35] (by
        simp only [↓sxd, sxu, ↓zE, ↓exq, ↓zB, ↓zJ, ↓zD, ↓zA, Nat.reduceAdd, Nat.reduceLT, Nat.reduceEqDiff, sxe, zU]
        (repeat ((with_reducible refine And.intro ?_ ?_); (focus (exact zS))))
        refine GdO.mk _ (fun hg => by simp only [sxu, ↓exq, ↓zA, Nat.reduceBEq, Nat.reduceEqDiff, zU]; (all_goals try exact zF)) ?_
        simp only [↓sxd, sxu, ↓zE, Nat.reduceBEq, Nat.reduceLT]
        (repeat ((with_reducible refine And.intro ?_ ?_); (focus (exact zS))))
        refine GdO.mk _ (fun hg => by simp only [sxu, ↓exq, ↓zD, Nat.reduceAdd, Nat.reduceLT, zU, hg]; (all_goals try exact zF)) ?_
        simp only [↓sxd, sxu, ↓zE, Nat.reduceBEq, Nat.reduceLT]
        (repeat ((with_reducible refine And.intro ?_ ?_); (focus (exact zS))))
        refine GdO.mk _ (fun hg => by simp only [sxu, ↓exq, ↓zB, ↓zJ, sxe, zU, hg]; (all_goals try exact zF)) ?_
        simp only [↓sxd, sxu, ↓zE, Nat.reduceBEq, Nat.reduceLT]
        (repeat ((with_reducible refine And.intro ?_ ?_); (focus (exact zS))))
        refine GdO.mk _ (fun hg => by simp only [sxu, ↓exq, ↓zA, Nat.reduceBEq, Nat.reduceEqDiff, zU, hg]; (all_goals try exact zF)) ?_
        simp only [↓sxd, sxu, ↓zE, Nat.reduceBEq, Nat.reduceLT]
        (repeat ((with_reducible refine And.intro ?_ ?_); (focus (exact zS))))
        refine GdO.mk _ (fun hg => by simp only [sxu, ↓exq, ↓zD, Nat.reduceAdd, Nat.reduceLT, zU, hg]; (all_goals try exact zF)) ?_
        simp only [↓sxd, sxu, ↓zE, Nat.reduceBEq, Nat.reduceLT]
        (repeat ((with_reducible refine And.intro ?_ ?_); (focus (exact zS))))
        refine GdO.mk _ (fun hg => by simp only [sxu, ↓exq, ↓zB, ↓zJ, sxe, zU, hg]; (all_goals try exact zF)) ?_
        simp only [↓sxd, sxu, ↓zE, Nat.reduceBEq, Nat.reduceLT]
        (repeat ((with_reducible refine And.intro ?_ ?_); (focus (exact zS))))
        refine GdO.mk _ (fun hg => by simp only [↓sxd, sxu, ↓exq, Nat.reduceBEq, hg]; (all_goals try exact zF)) ?_
        simp only [↓sxd, sxu, ↓zE, ↓exq, ↓zH, Nat.reduceBEq, Nat.reduceLT]
        (repeat ((with_reducible refine And.intro ?_ ?_); (focus (exact zS))))
        refine GdO.mk _ (fun hg => by simp only [sxu, ↓exq, ↓zA, Nat.reduceBEq, Nat.reduceEqDiff, zU]; (all_goals try exact zF)) ?_
        simp only [↓sxd, sxu, ↓zE, Nat.reduceBEq, Nat.reduceLT]
        (repeat ((with_reducible refine And.intro ?_ ?_); (focus (exact zS))))
        refine GdO.mk _ (fun hg => by simp only [sxu, ↓exq, ↓zD, Nat.reduceAdd, Nat.reduceLT, zU, hg]; (all_goals try exact zF)) ?_
        simp only [↓sxd, sxu, ↓zE, Nat.reduceBEq, Nat.reduceLT]
        (repeat ((with_reducible refine And.intro ?_ ?_); (focus (exact zS))))
        refine GdO.mk _ (fun hg => by
          have h0 : 0 < c.codes.length := by
            by_cases h : c.codes.length = 0
            · rw [h] at hg; simp at hg
            · omega
          simp only [↓sxd, sxu, ↓exq, Int.reduceLE, sxe, zU, hg, h0]
          (all_goals try exact zF)) ?_
        try simp only [↓sxd, sxu, ↓zE, Nat.reduceBEq, Nat.reduceLT]
        (repeat ((with_reducible refine And.intro ?_ ?_); (focus (exact zS))))
        refine GdO.mk _ (fun hg => by
          have h0 : 0 < c.codes.length := by
            by_cases h : c.codes.length = 0
            · rw [h] at hg; simp at hg
            · omega
          simp only [sxu, ↓exq, ↓zD, Nat.reduceLT, zU, hg]
          (all_goals try exact zF)) ?_
        try simp only [↓sxd, sxu, ↓zE, Nat.reduceBEq, Nat.reduceLT]
        (repeat ((with_reducible refine And.intro ?_ ?_); (focus (exact zS))))
        refine GdO.mk _ (fun hg => by simp only [sxu, ↓exq, ↓zB, ↓zJ, sxe, zU, hg]; (all_goals try exact zF)) ?_
        simp only [↓sxd, sxu, ↓zE, Nat.reduceBEq, Nat.reduceLT]
        (repeat ((with_reducible refine And.intro ?_ ?_); (focus (exact zS))))
        refine GdO.mk _ (fun hg => by simp only [↓sxd, sxu, ↓exq, hg]; (all_goals try exact zF)) ?_
        simp only [↓sxd, sxu, ↓zE, ↓exq, ↓zH, Nat.reduceBEq, Nat.reduceLT]
        (all_goals try exact zF)) ?_
    refine Tr.cond rfl (fun h35 => ?_) (fun h35 => ?_)
    · have h1 : c.check = 1 := by
        unfold Coding.check
        rw [if_neg (by rw [h14]; decide), if_pos (coding_t h35)]
      rw [h1]
      refine Tr.reg [2] (by
          simp only [↓sxd, sxu, ↓zE, ↓exq, Nat.reduceLT]
          (all_goals try exact zF)) ?_
      refine Tr.ret ?_
      (refine ⟨.inr rfl, ?_⟩; first | rfl | exact ⟨rfl, rfl, trivial⟩ | exact ⟨rfl, rfl, rfl, trivial⟩ | (simp only [Res, ResL, ResOK, ↓sxd, sxu, ↓zE, ↓zC, zK, ↓exP, ↓exq, ↓zB, ↓zH, ↓zL, ↓zJ, ↓zD, ↓zI, ↓zA, Nat.reduceBEq, Nat.reduceAdd, Nat.reduceLT, Nat.reduceMul, Nat.reduceSub, Nat.reduceLeDiff, Nat.reduceEqDiff, Int.reduceLE, Int.reduceLT, Int.reduceToNat, reduceIte, sxe, zU]; (repeat' (first | rfl | exact trivial | exact fun h => h | exact fun h => (by rw [h]; rfl) | apply And.intro | omega | exact Nat.le_of_ble_eq_true rfl))))
    · have h2 := coding_f h35
      have h3 : c.check = if (List.range c.codes.length).all c.row then 0 else 1 := by
        unfold Coding.check
        rw [if_neg (by rw [h14]; decide), if_neg h2]
      rw [not_or, not_or] at h2
      have h0 : 0 < c.codes.length := by omega
      have hwe : c.wrong.length = c.codes.length := Decidable.not_not.1 h2.2.1
      refine Tr.skip ?_
      refine Tr.seq ?_
      refine Tr.reg [1, 37, 38, 39] (by
          simp only [↓sxd, sxu, ↓zE, ↓exq, ↓zB, ↓zJ, ↓zD, ↓zA, Nat.reduceBEq, Nat.reduceAdd, Nat.reduceLT, Nat.reduceEqDiff, sxe, zU]
          (all_goals try exact zF)) ?_
      refine Tr.imp (st' := ⟨[(1, .ptr 0 0 0), (37, SL c.codes), (38, I c.codes.length), (39, I 0)], [(0, .arr 2 [[SL c.codes, SI c.wrong]])], 1, 67, [], 0⟩) (Imp.keepAll) (Tr.block (Tr.loopI (fun mm ss => ∃ (k : Nat), (k ≤ c.codes.length ∧ ∀ j, j < k → c.row j = true) ∧ c.codes.length - k = mm ∧ ss = ⟨[(1, .ptr 0 0 0), (37, SL c.codes), (38, I c.codes.length), (39, I k)], [(0, .arr 2 [[SL c.codes, SI c.wrong]])], 1, 67, [], 0⟩) _ ⟨0, ?_, rfl, rfl⟩ ?_))
      · exact ⟨Nat.zero_le _, fun j hj => absurd hj (Nat.not_lt_zero _)⟩
      rintro mm ss ⟨k, hI, rfl, rfl⟩
      obtain ⟨hI, hall2⟩ := hI
      refine Tr.reg [1, 37, 38, 39, 40] (by
          simp only [↓sxd, sxu, ↓zE, ↓exq, Nat.reduceBEq, Nat.reduceLT, sxe]
          (all_goals try exact zF)) ?_
      refine Tr.seq ?_
      refine Tr.cond rfl (fun h40 => ?_) (fun h40 => ?_)
      · have hlt : k < c.codes.length := by simpa using h40
        have hlw : k < c.wrong.length := by omega
        have hk10 := hl10 k hlt
        refine Tr.skip ?_
        refine Tr.seq ?_
        refine Tr.block ?_
        refine Tr.reg [1, 3, 4, 37, 38, 39] (by
            simp only [↓sxd, sxu, ↓zE, ↓exq, ↓zD, Nat.reduceBEq, Nat.reduceLT, sxe, zU, hlt]
            (all_goals try exact zF)) ?_
        refine Tr.reg [1, 37, 38, 39, 65] (by
            simp only [↓sxd, sxu, ↓zE, ↓exq, ↓zB, ↓zJ, ↓zD, ↓zA, Nat.reduceBEq, Nat.reduceAdd, Nat.reduceLT, Nat.reduceEqDiff, Int.reduceLE, sxe, zU, h0]
            (repeat ((with_reducible refine And.intro ?_ ?_); (focus (exact zS))))
            refine GdO.mk _ (fun hg => by simp only [sxu, ↓exq, Nat.reduceBEq]; (all_goals try exact zF)) ?_
            simp only [↓sxd, sxu, ↓zE, Nat.reduceBEq, Nat.reduceLT]
            (repeat ((with_reducible refine And.intro ?_ ?_); (focus (exact zS))))
            refine GdO.mk _ (fun hg => by simp only [sxu, ↓exq, ↓zB, hg]; (repeat ((with_reducible refine And.intro ?_ ?_); (focus (exact zS)))); exact CallP.use (allI_c isCode (c.codes.getD k []) (by omega) 80 [] [] fa_nil fa_nil (fun x _ => code_c _ x)) ⟨rfl, rfl, rfl⟩) ?_
            simp only [↓sxd, sxu, ↓zE, Nat.reduceBEq, Nat.reduceLT]
            (repeat ((with_reducible refine And.intro ?_ ?_); (focus (exact zS))))
            refine GdO.mk _ (fun hg => by simp only [sxu, ↓exq, ↓zL, hg]; (all_goals try exact zF)) ?_
            simp only [↓sxd, sxu, ↓zE, ↓exq, ↓zH, Nat.reduceBEq, Nat.reduceLT]
            (repeat ((with_reducible refine And.intro ?_ ?_); (focus (exact zS))))
            refine GdO.mk _ (fun hg => by simp only [sxu, ↓exq, ↓zA, Nat.reduceBEq, Nat.reduceEqDiff, zU]; (all_goals try exact zF)) ?_
            simp only [↓sxd, sxu, ↓zE, Nat.reduceBEq, Nat.reduceLT]
            (repeat ((with_reducible refine And.intro ?_ ?_); (focus (exact zS))))
            refine GdO.mk _ (fun hg => by simp only [sxu, ↓exq, ↓zD, Nat.reduceAdd, Nat.reduceLT, zU, hg]; (all_goals try exact zF)) ?_
            simp only [↓sxd, sxu, ↓zE, Nat.reduceBEq, Nat.reduceLT]
            (repeat ((with_reducible refine And.intro ?_ ?_); (focus (exact zS))))
            refine GdO.mk _ (fun hg => by simp only [sxu, ↓exq, Nat.reduceBEq, hg]; (all_goals try exact zF)) ?_
            simp only [↓sxd, sxu, ↓zE, Nat.reduceBEq, Nat.reduceLT]
            (repeat ((with_reducible refine And.intro ?_ ?_); (focus (exact zS))))
            refine GdO.mk _ (fun hg => by simp only [↓sxd, sxu, ↓exq, Nat.reduceBEq, sxe, zU, hlw, hg]; (all_goals try exact zF)) ?_
            simp only [↓sxd, sxu, ↓zE, Nat.reduceBEq, Nat.reduceLT]
            (repeat ((with_reducible refine And.intro ?_ ?_); (focus (exact zS))))
            refine GdO.mk _ (fun hg => by simp only [sxu, ↓exq, ↓zD, Nat.reduceLT, zU, hg]; (all_goals try exact zF)) ?_
            simp only [↓sxd, sxu, ↓zE, Nat.reduceBEq, Nat.reduceLT]
            (repeat ((with_reducible refine And.intro ?_ ?_); (focus (exact zS))))
            refine GdO.mk _ (fun hg => by simp only [sxu, ↓exq, ↓zB, hg]; (repeat ((with_reducible refine And.intro ?_ ?_); (focus (exact zS)))); exact CallP.use (within_c _ _ _ _) ⟨rfl, rfl, rfl⟩) ?_
            simp only [↓sxd, sxu, ↓zE, Nat.reduceBEq, Nat.reduceLT]
            (repeat ((with_reducible refine And.intro ?_ ?_); (focus (exact zS))))
            refine GdO.mk _ (fun hg => by simp only [sxu, ↓exq, ↓zL, hg]; (all_goals try exact zF)) ?_
            simp only [↓sxd, sxu, ↓zE, ↓exq, ↓zH, Nat.reduceBEq, Nat.reduceLT]
            (all_goals try exact zF)) ?_
        refine Tr.cond rfl (fun h65 => ?_) (fun h65 => ?_)
        · have hr : c.row k = false := by rw [coding_row]; rw [h65]; rfl
          have h4 : c.check = 1 := by
            rw [h3, all_upto hlt hr]; rfl
          rw [h4]
          refine Tr.reg [2] (by
              simp only [↓sxd, sxu, ↓zE, ↓exq, Nat.reduceLT]
              (all_goals try exact zF)) ?_
          refine Tr.ret ?_
          (refine ⟨.inr rfl, ?_⟩; first | rfl | exact ⟨rfl, rfl, trivial⟩ | exact ⟨rfl, rfl, rfl, trivial⟩ | (simp only [Res, ResL, ResOK, ↓sxd, sxu, ↓zE, ↓zC, zK, ↓exP, ↓exq, ↓zB, ↓zH, ↓zL, ↓zJ, ↓zD, ↓zI, ↓zA, Nat.reduceBEq, Nat.reduceAdd, Nat.reduceLT, Nat.reduceMul, Nat.reduceSub, Nat.reduceLeDiff, Nat.reduceEqDiff, Int.reduceLE, Int.reduceLT, Int.reduceToNat, reduceIte, sxe, zU]; (repeat' (first | rfl | exact trivial | exact fun h => h | exact fun h => (by rw [h]; rfl) | apply And.intro | omega | exact Nat.le_of_ble_eq_true rfl))))
        · have hr : c.row k = true := by rw [coding_row]; rw [h65]; rfl
          refine Tr.skip ?_
          have w1 : IntKind.i64.wrap ((k : Int) + 1) = ((k + 1 : Nat) : Int) := by rw [wr (by omega) (by omega)]; rfl
          refine Tr.reg1 [1, 37, 38, 39] (by
              simp only [↓sxd, sxu, ↓zE, ↓exq, Nat.reduceBEq, Nat.reduceLT, w1]
              (all_goals try exact zF)) ?_
          exact ⟨_, _, by omega, Imp.keepAll, ⟨k + 1, ⟨hlt, fun j hj => by
            by_cases hjk : j = k
            · subst hjk; exact hr
            · exact hall2 j (by omega)⟩, rfl, rfl⟩⟩
      · have hge : k = c.codes.length := by simp at h40; omega
        refine Tr.exit ?_
        have h5 : c.check = 0 := by
          rw [h3, if_pos]
          rw [List.all_eq_true]
          intro x hx
          exact hall2 x (by rw [hge]; exact List.mem_range.1 hx)
        rw [h5]
        refine Tr.reg [2] (by
            simp only [↓sxd, sxu, ↓zE, ↓exq, Nat.reduceLT]
            (all_goals try exact zF)) ?_
        refine Tr.ret ?_
        (refine ⟨.inr rfl, ?_⟩; first | rfl | exact ⟨rfl, rfl, trivial⟩ | exact ⟨rfl, rfl, rfl, trivial⟩ | (simp only [Res, ResL, ResOK, ↓sxd, sxu, ↓zE, ↓zC, zK, ↓exP, ↓exq, ↓zB, ↓zH, ↓zL, ↓zJ, ↓zD, ↓zI, ↓zA, Nat.reduceBEq, Nat.reduceAdd, Nat.reduceLT, Nat.reduceMul, Nat.reduceSub, Nat.reduceLeDiff, Nat.reduceEqDiff, Int.reduceLE, Int.reduceLT, Int.reduceToNat, reduceIte, sxe, zU]; (repeat' (first | rfl | exact trivial | exact fun h => h | exact fun h => (by rw [h]; rfl) | apply And.intro | omega | exact Nat.le_of_ble_eq_true rfl))))
end Go.Proofs.YtcnkbdfkjhlbiaaDoor
namespace Go.Proofs.YtcnkbdfkjhlbiaaDoor
open Go.Sy
set_option maxRecDepth 8000
abbrev sol (p : Int) (es : List Int) : List SV := I p :: es.map I
theorem sol_set {p : Int} {es : List Int} {k : Nat} (v : Int) : (sol p es).set (1 + k) (I v) = sol p (es.set k v) := by
  rw [Nat.add_comm]; simp only [sol, List.set_cons_succ, List.map_set]
theorem sol_get {p : Int} {es : List Int} {k : Nat} (h : k < es.length) : (sol p es).getD (1 + k) .unk = I (es.getD k 0) := by
  rw [Nat.add_comm]
  simp [sol, List.getD_eq_getElem?_getD, h]
def Coding.nextStep (c : Coding) (p : Nat) (code : Int) (x : List Int × Int) (k : Nat) : List Int × Int :=
  if (c.codes.getD k []).getD p 0 ≠ code then (x.1.set k (wr64 (x.1.getD k 0 + 1)), wr64 (x.2 + 1)) else x
def Coding.nextTo (c : Coding) (p : Nat) (es : List Int) (code : Int) (n : Nat) : List Int × Int := (List.range n).foldl (c.nextStep p code) (es, 0)
theorem nextTo_succ (c : Coding) (p : Nat) (es : List Int) (code : Int) (n : Nat) : c.nextTo p es code (n + 1) = c.nextStep p code (c.nextTo p es code n) n := by
  simp [Coding.nextTo, List.range_succ]
def Coding.nextOk (c : Coding) (p : Nat) (es : List Int) (code : Int) (k : Nat) : Bool := decide ((c.nextTo p es code (k + 1)).1.getD k 0 ≤ c.wrong.getD k 0)
def Coding.next (c : Coding) (p : Nat) (es : List Int) (code : Int) : (Int × List Int) × Int × Bool :=
  if (List.range c.codes.length).all (c.nextOk p es code) then (((p : Int) + 1, (c.nextTo p es code c.codes.length).1), (c.nextTo p es code c.codes.length).2, true) else ((0, [0, 0, 0]), 0, false)
theorem nextTo_len (c : Coding) (p : Nat) (es : List Int) (code : Int) : ∀ n, (c.nextTo p es code n).1.length = es.length
  | 0 => rfl
  | n + 1 => by
    rw [nextTo_succ]
    unfold Coding.nextStep
    split
    · simp [nextTo_len c p es code n]
    · exact nextTo_len c p es code n
structure CodingOk (c : Coding) : Prop where
  n3 : c.codes.length ≤ 3
  hw : c.wrong.length = c.codes.length
  cols : ∀ k, k < c.codes.length → (c.codes.getD k []).length = c.cols
  c10 : c.cols ≤ 10
theorem three {l : List Int} (h : l.length = 3) : ∃ a b c, l = [a, b, c] := by
  match l, h with
  | [a, b, c], _ => exact ⟨a, b, c, rfl⟩
theorem pure_sol (p : Int) (es : List Int) : Pure (.agg (sol p es)) := Pure.agg fun x hx => by
  rcases List.mem_cons.1 hx with rfl | hx
  · exact Pure.d _
  · obtain ⟨n, _, rfl⟩ := List.mem_map.1 hx; exact Pure.d _
abbrev yH := And.intro ty.sz0 <| And.intro ty.agg0 <| And.intro ty.elem0 <| And.intro ty.sz3 <| And.intro ty.agg3 <| And.intro ty.elem3 <| And.intro ty.zero3 <| And.intro ty.und3 <| And.intro ty.sz4 <| And.intro ty.agg4 <| And.intro ty.elem4 <| And.intro ty.zero4 <| And.intro ty.und4 <| And.intro ty.sz39 <| And.intro ty.agg39 <| And.intro ty.elem39 <| And.intro ty.by39 <| And.intro ty.ez39 <| And.intro ty.zero39 <| And.intro ty.und39 <| And.intro ty.sz43 <| And.intro ty.agg43 <| And.intro ty.elem43 <| And.intro ty.by43 <| And.intro ty.ez43 <| And.intro ty.zero43 <| And.intro ty.und43 <| And.intro ty.sz59 <| And.intro ty.agg59 <| And.intro ty.fld59_0 <| And.intro ty.fld59_1 <| And.intro ty.elem59 <| And.intro ty.zero59 <| And.intro ty.pl59 <| And.intro ty.sz126 <| And.intro ty.agg126 <| And.intro ty.elem126 <| And.intro ty.arr126 <| And.intro ty.zero126 <| And.intro ty.und126 <| And.intro ty.sz128 <| And.intro ty.agg128 <| And.intro ty.fld128_0 <| And.intro ty.fld128_1 <| And.intro ty.elem128 <| And.intro ty.zero128 <| ty.pl128
theorem next_c (c : Coding) (hc : CodingOk c) (p : Nat) (hp : p < c.cols) (e0 e1 e2 : Int) (code : Int) : CallP Tryd.prog G0 74 [c.s, .agg (sol p [e0, e1, e2]), I code] (.tup [.agg (sol (c.next p [e0, e1, e2] code).1.1 (c.next p [e0, e1, e2] code).1.2), I (c.next p [e0, e1, e2] code).2.1, B (c.next p [e0, e1, e2] code).2.2]) := by
  obtain ⟨n3, hw, hcols, c10⟩ := hc
  obtain ⟨es, hes⟩ : ∃ es, es = [e0, e1, e2] := ⟨_, rfl⟩
  have wp : IntKind.i64.wrap ((p : Int) + 1) = (p : Int) + 1 := wr (by omega) (by omega)
  refine CallP.body 55 [.cell 6 128, .tmp 7, .tmp 8] Tryd.func74 (by kernel_rfl) rfl rfl rfl zP (Pure.tup (fa_cons (pure_sol _ _) zP)) ?_
  refine Tr.reg [2, 3, 4, 6, 7] (by
      simp only [↓sxd, sxu, ↓zE, ↓exq, ↓zM, ↓zI, Nat.reduceBEq, Nat.reduceAdd, Nat.reduceLT, Nat.reduceEqDiff, yH]
      (all_goals try exact zF)) ?_
  refine Tr.reg [2, 3, 4, 6, 7] (by
      simp only [↓sxd, sxu, ↓zE, ↓exq, ↓zD, ↓zO, ↓zA, Nat.reduceBEq, Nat.reduceAdd, Nat.reduceLT, Nat.reduceLeDiff, Nat.reduceEqDiff, yH, wp]
      (all_goals try exact zF)) ?_
  refine Tr.seq ?_
  refine Tr.reg [2, 3, 4, 6, 7, 18, 19, 20] (by
      simp only [↓sxd, sxu, ↓zE, ↓exq, ↓zB, ↓zJ, ↓zD, ↓zA, Nat.reduceBEq, Nat.reduceAdd, Nat.reduceLT, Nat.reduceEqDiff, sxe, yH]
      (all_goals try exact zF)) ?_
  refine Tr.imp (st' := ⟨[(2, I code), (3, .ptr 0 0 0), (4, .ptr 1 0 0), (6, .ptr 2 0 0), (7, I (c.nextTo p [e0, e1, e2] code 0).2), (18, SL c.codes), (19, I c.codes.length), (20, I 0)], [(2, .arr 4 [sol (p + 1) (c.nextTo p [e0, e1, e2] code 0).1]), (1, .arr 4 [sol p [e0, e1, e2]]), (0, .arr 2 [[SL c.codes, SI c.wrong]])], 3, 55, [], 0⟩) (Imp.keepAll) (Tr.block (Tr.loopI (fun mm ss => ∃ (k : Nat), (k ≤ c.codes.length ∧ ∀ j, j < k → c.nextOk p [e0, e1, e2] code j = true) ∧ c.codes.length - k = mm ∧ ss = ⟨[(2, I code), (3, .ptr 0 0 0), (4, .ptr 1 0 0), (6, .ptr 2 0 0), (7, I (c.nextTo p [e0, e1, e2] code k).2), (18, SL c.codes), (19, I c.codes.length), (20, I k)], [(2, .arr 4 [sol (p + 1) (c.nextTo p [e0, e1, e2] code k).1]), (1, .arr 4 [sol p [e0, e1, e2]]), (0, .arr 2 [[SL c.codes, SI c.wrong]])], 3, 55, [], 0⟩) _ ⟨0, ?_, rfl, rfl⟩ ?_))
  · exact ⟨Nat.zero_le _, fun j hj => absurd hj (Nat.not_lt_zero _)⟩
  rintro mm ss ⟨k, hI, rfl, rfl⟩
  obtain ⟨hI, hall⟩ := hI
  refine Tr.reg [2, 3, 4, 6, 7, 18, 19, 20, 21] (by
      simp only [↓sxd, sxu, ↓zE, ↓exq, Nat.reduceBEq, Nat.reduceLT, sxe]
      (all_goals try exact zF)) ?_
  refine Tr.seq ?_
  refine Tr.cond rfl (fun h21 => ?_) (fun h21 => ?_)
  · have hlt : k < c.codes.length := by simpa using h21
    have hlw : k < c.wrong.length := by omega
    have hpk : p < (c.codes.getD k []).length := by rw [hcols k hlt]; exact hp
    have hL := nextTo_len c p [e0, e1, e2] code k
    have hX := nextTo_succ c p [e0, e1, e2] code k
    have hO : c.nextOk p [e0, e1, e2] code k = decide ((c.nextTo p [e0, e1, e2] code (k + 1)).1.getD k 0 ≤ c.wrong.getD k 0) := rfl
    generalize c.nextTo p [e0, e1, e2] code k = X at hL hX
    obtain ⟨L, er⟩ := X
    simp only [List.length_cons, List.length_nil] at hL
    have hL : L.length = 3 := hL
    have hkL : k < L.length := by omega
    refine Tr.skip ?_
    refine Tr.seq ?_
    refine Tr.block ?_
    refine Tr.reg [2, 3, 4, 6, 7, 9, 10, 18, 19, 20] (by
        simp only [↓sxd, sxu, ↓zE, ↓exq, ↓zD, Nat.reduceBEq, Nat.reduceLT, sxe, yH, hlt]
        (all_goals try exact zF)) ?_
    refine Tr.seq ?_
    refine Tr.reg [2, 3, 4, 6, 7, 9, 18, 19, 20, 31] (by
        simp only [↓sxd, sxu, ↓zE, ↓exq, ↓zD, ↓zA, Nat.reduceBEq, Nat.reduceAdd, Nat.reduceLT, Nat.reduceEqDiff, sxe, yH, hpk]
        (all_goals try exact zF)) ?_
    refine Tr.cond rfl (fun h31 => ?_) (fun h31 => ?_)
    · have hX2 : c.nextTo p [e0, e1, e2] code (k + 1) = (L.set k (IntKind.i64.wrap (L.getD k 0 + 1)), IntKind.i64.wrap (er + 1)) := by
        rw [hX]; exact if_pos (by simpa using h31)
      refine Tr.reg [2, 3, 4, 6, 7, 9, 18, 19, 20] (by
          simp only [↓sxd, sxu, ↓zE, ↓exq, ↓zD, ↓zA, Nat.reduceBEq, Nat.reduceAdd, Nat.reduceLT, Nat.reduceLeDiff, Nat.reduceEqDiff, sxe, yH, hL, sol_get hkL, sol_set]
          (all_goals try exact zF)) ?_
      refine Tr.reg1 [2, 3, 4, 6, 7, 9, 18, 19, 20] (by
          simp only [↓sxd, sxu, ↓zE, ↓exq, Nat.reduceBEq, Nat.reduceLT]
          (all_goals try exact zF)) ?_
      have hkL2 : k < (L.set k (IntKind.i64.wrap (L.getD k 0 + 1))).length := by rw [List.length_set]; exact hkL
      refine Tr.regD [0, 1, 2, 3, 4, 5, 6, 7, 8, 9] [] [] [2, 3, 4, 6, 7, 18, 19, 20, 50] mix (by kernel_rfl) (by
          simp only [↓sxd, sxu, ↓zC, zK, ↓exq, ↓zD, ↓zA, Nat.reduceBEq, Nat.reduceAdd, Nat.reduceLT, Nat.reduceEqDiff, sxe, yH, hL, hlw, List.length_set, sol_get hkL2]
          (all_goals try exact zF)) ?_
      refine Tr.cond rfl (fun h50 => ?_) (fun h50 => ?_)
      · have hf : c.nextOk p [e0, e1, e2] code k = false := by rw [hO, hX2]; simpa using h50
        have hn : c.next p [e0, e1, e2] code = ((0, [0, 0, 0]), 0, false) := if_neg (by rw [all_upto hlt hf]; decide)
        rw [hn]
        refine Tr.reg [6, 7, 8] (by
            simp only [↓sxd, sxu, ↓zE, ↓exq, ↓zO, Nat.reduceBEq, Nat.reduceAdd, Nat.reduceLT, Nat.reduceEqDiff, yH, hL, List.length_set]
            (all_goals try exact zF)) ?_
        refine Tr.ret ?_
        (refine ⟨.inr rfl, ?_⟩; first | rfl | exact ⟨rfl, rfl, trivial⟩ | exact ⟨rfl, rfl, rfl, trivial⟩ | (simp only [Res, ResL, ResOK, sxu, ↓zD, Nat.reduceBEq, Nat.reduceLT, Nat.reduceLeDiff, yH]; (repeat' (first | rfl | exact trivial | exact fun h => h | exact fun h => (by rw [h]; rfl) | apply And.intro | omega | exact Nat.le_of_ble_eq_true rfl))))
      · have hf : c.nextOk p [e0, e1, e2] code k = true := by rw [hO, hX2]; simpa using h50
        refine Tr.skip ?_
        have w1 : IntKind.i64.wrap ((k : Int) + 1) = ((k + 1 : Nat) : Int) := by rw [wr (by omega) (by omega)]; rfl
        refine Tr.reg1 [2, 3, 4, 6, 7, 18, 19, 20] (by
            simp only [↓sxd, sxu, ↓zE, ↓exq, Nat.reduceBEq, Nat.reduceLT, w1]
            (all_goals try exact zF)) ?_
        refine ⟨_, _, ?_, Imp.keepAll, ⟨k + 1, ⟨hlt, fun j hj => ?_⟩, rfl, ?_⟩⟩
        · omega
        · by_cases hjk : j = k
          · subst hjk; exact hf
          · exact hall j (by omega)
        · rw [hX2]
          try rfl
    · have hX2 : c.nextTo p [e0, e1, e2] code (k + 1) = (L, er) := by
        rw [hX]; exact if_neg (by simpa using h31)
      refine Tr.skip ?_
      have hkL2 : k < (L.set k (IntKind.i64.wrap (L.getD k 0 + 1))).length := by rw [List.length_set]; exact hkL
      refine Tr.regD [0, 1, 2, 3, 4, 5, 6, 7, 8, 9] [] [] [2, 3, 4, 6, 7, 18, 19, 20, 50] mix (by kernel_rfl) (by
          simp only [↓sxd, sxu, ↓zC, zK, ↓exq, ↓zD, ↓zA, Nat.reduceBEq, Nat.reduceAdd, Nat.reduceLT, Nat.reduceEqDiff, sxe, yH, hL, hlw, sol_get hkL]
          (all_goals try exact zF)) ?_
      refine Tr.cond rfl (fun h50 => ?_) (fun h50 => ?_)
      · have hf : c.nextOk p [e0, e1, e2] code k = false := by rw [hO, hX2]; simpa using h50
        have hn : c.next p [e0, e1, e2] code = ((0, [0, 0, 0]), 0, false) := if_neg (by rw [all_upto hlt hf]; decide)
        rw [hn]
        refine Tr.reg [6, 7, 8] (by
            simp only [↓sxd, sxu, ↓zE, ↓exq, ↓zO, Nat.reduceBEq, Nat.reduceAdd, Nat.reduceLT, Nat.reduceEqDiff, yH, hL]
            (all_goals try exact zF)) ?_
        refine Tr.ret ?_
        (refine ⟨.inr rfl, ?_⟩; first | rfl | exact ⟨rfl, rfl, trivial⟩ | exact ⟨rfl, rfl, rfl, trivial⟩ | (simp only [Res, ResL, ResOK, sxu, ↓zD, Nat.reduceBEq, Nat.reduceLT, Nat.reduceLeDiff, yH]; (repeat' (first | rfl | exact trivial | exact fun h => h | exact fun h => (by rw [h]; rfl) | apply And.intro | omega | exact Nat.le_of_ble_eq_true rfl))))
      · have hf : c.nextOk p [e0, e1, e2] code k = true := by rw [hO, hX2]; simpa using h50
        refine Tr.skip ?_
        have w1 : IntKind.i64.wrap ((k : Int) + 1) = ((k + 1 : Nat) : Int) := by rw [wr (by omega) (by omega)]; rfl
        refine Tr.reg1 [2, 3, 4, 6, 7, 18, 19, 20] (by
            simp only [↓sxd, sxu, ↓zE, ↓exq, Nat.reduceBEq, Nat.reduceLT, w1]
            (all_goals try exact zF)) ?_
        refine ⟨_, _, ?_, Imp.keepAll, ⟨k + 1, ⟨hlt, fun j hj => ?_⟩, rfl, ?_⟩⟩
        · omega
        · by_cases hjk : j = k
          · subst hjk; exact hf
          · exact hall j (by omega)
        · rw [hX2]
          try rfl
  · have hge : k = c.codes.length := by simp at h21; omega
    have hn : c.next p [e0, e1, e2] code = (((p : Int) + 1, (c.nextTo p [e0, e1, e2] code c.codes.length).1), (c.nextTo p [e0, e1, e2] code c.codes.length).2, true) := if_pos (by
      rw [List.all_eq_true]
      intro x hx
      exact hall x (by rw [hge]; exact List.mem_range.1 hx))
    subst hge
    have hL := nextTo_len c p [e0, e1, e2] code c.codes.length
    rw [hn]
    clear hn
    generalize c.nextTo p [e0, e1, e2] code c.codes.length = X at hL
    obtain ⟨L, er⟩ := X
    obtain ⟨a0, a1, a2, rfl⟩ := three hL
    refine Tr.exit ?_
    refine Tr.reg [6, 7, 8] (by
        simp only [↓sxd, sxu, ↓zE, ↓exq, ↓zD, Nat.reduceBEq, Nat.reduceAdd, Nat.reduceLT, Nat.reduceEqDiff, yH]
        (all_goals try exact zF)) ?_
    refine Tr.ret ?_
    (refine ⟨.inr rfl, ?_⟩; first | rfl | exact ⟨rfl, rfl, trivial⟩ | exact ⟨rfl, rfl, rfl, trivial⟩ | (simp only [Res, ResL, ResOK, sxu, ↓zD, Nat.reduceBEq, Nat.reduceAdd, Nat.reduceLT, yH]; (repeat' (first | rfl | exact trivial | exact fun h => h | exact fun h => (by rw [h]; rfl) | apply And.intro | omega | exact Nat.le_of_ble_eq_true rfl))))
end Go.Proofs.YtcnkbdfkjhlbiaaDoor
namespace Go.Proofs.YtcnkbdfkjhlbiaaDoor
open Go.Sy
set_option maxRecDepth 8000
theorem coding_ok {c : Coding} (h : c.check = 0) : CodingOk c ∧ 0 < c.codes.length ∧ 0 < c.cols := by
  unfold Coding.check at h
  split at h
  · cases h
  · rename_i g1
    split at h
    · cases h
    · rename_i g2
      split at h
      · rename_i g3
        rw [not_or, not_or] at g2
        simp only [Bool.or_eq_true, decide_eq_true_eq, Bool.not_eq_true', not_or, Bool.not_eq_false] at g1
        have h0 : 0 < c.codes.length := by omega
        have hr := List.all_eq_true.1 g3
        refine ⟨⟨by omega, Decidable.not_not.1 g2.2.1, fun k hk => ?_, ?_⟩, h0, by omega⟩
        · have := hr k (List.mem_range.2 hk)
          simp only [Coding.row, Bool.and_eq_true, decide_eq_true_eq] at this
          exact this.1.1
        · have := List.all_eq_true.1 g1.2 _ (getD_mem (d := []) h0)
          rw [decide_eq_true_eq] at this
          unfold Coding.cols; omega
      · cases h
theorem next_len (c : Coding) (p : Nat) (es : List Int) (he : es.length = 3) (code : Int) : (c.next p es code).1.2.length = 3 := by
  unfold Coding.next
  split
  · exact (nextTo_len c p es code _).trans he
  · rfl
theorem next_at (c : Coding) (p : Nat) (es : List Int) (code : Int) (h : (c.next p es code).2.2 = true) : (c.next p es code).1.1 = ((p + 1 : Nat) : Int) := by
  unfold Coding.next at h ⊢
  split
  · simp
  · rename_i g; rw [if_neg g] at h; cases h
end Go.Proofs.YtcnkbdfkjhlbiaaDoor
