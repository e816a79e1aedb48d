/- Lemmas, part ZGT. Conditions: none. -/
import Derived.Test.YtijechcadlklhaaGreatZGS
set_option linter.unusedVariables false
namespace Go.Proofs.YtijechcadlklhaaGreat
open Go.Sy
set_option maxRecDepth 8000
def lenB (n : Nat) : Nat := if n = 0 then 0 else Nat.log2 n + 1
abbrev tysH16_115 := And.intro ty.sz3 <| And.intro ty.agg3 <| And.intro ty.elem3 <| And.intro ty.zero3 <| And.intro ty.und3 <| And.intro ty.sz4 <| And.intro ty.agg4 <| And.intro ty.elem4 <| And.intro ty.zero4 <| And.intro ty.und4 <| And.intro ty.sz5 <| And.intro ty.agg5 <| And.intro ty.elem5 <| And.intro ty.zero5 <| And.intro ty.und5 <| And.intro ty.sz9 <| And.intro ty.agg9 <| And.intro ty.elem9 <| And.intro ty.zero9 <| And.intro ty.und9 <| And.intro ty.sz54 <| And.intro ty.agg54 <| And.intro ty.elem54 <| And.intro ty.zero54 <| And.intro ty.und54 <| And.intro ty.sz156 <| And.intro ty.agg156 <| And.intro ty.elem156 <| And.intro ty.zero156 <| ty.und156
theorem Len64_c (n : Nat) (h : n ≤ 12) : CallP Tryz.prog G0 115 [U n] (I (lenB n)) := by
  refine CallP.body 25 [.tmp 2] Tryz.func115 (by kernel_rfl) rfl rfl rfl zP zP ?_
  refine Tr.reg [0, 2] (by
      simp only [↓sxd, sxu, ↓zE, ↓exq, Nat.reduceBEq, Nat.reduceLT]
      (all_goals try exact zF)) ?_
  refine Tr.seq ?_
  refine Tr.reg [0, 2, 4] (by
      simp only [↓sxd, sxu, ↓zE, ↓exq, Nat.reduceBEq, Nat.reduceLT]
      (all_goals try exact zF)) ?_
  refine Tr.cond rfl (fun h4 => ?_) (fun h4 => ?_)
  · exact absurd (of_decide_eq_true h4) (by omega)
  · refine Tr.skip ?_
    refine Tr.seq ?_
    refine Tr.reg [0, 2, 8] (by
        simp only [↓sxd, sxu, ↓zE, ↓exq, Nat.reduceBEq, Nat.reduceLT]
        (all_goals try exact zF)) ?_
    refine Tr.cond rfl (fun h8 => ?_) (fun h8 => ?_)
    · exact absurd (of_decide_eq_true h8) (by omega)
    · refine Tr.skip ?_
      refine Tr.seq ?_
      refine Tr.reg [0, 2, 14] (by
          simp only [↓sxd, sxu, ↓zE, ↓exq, Nat.reduceBEq, Nat.reduceLT]
          (all_goals try exact zF)) ?_
      refine Tr.cond rfl (fun h14 => ?_) (fun h14 => ?_)
      · exact absurd (of_decide_eq_true h14) (by omega)
      · refine Tr.skip ?_
        have hw8 : IntKind.u8.wrap (n : Int) = (n : Int) := by
          have e : IntKind.u8.bits = 8 := rfl
          have sg : IntKind.u8.signed = false := rfl
          simp only [IntKind.wrap, e, sg, Bool.false_and, Bool.false_eq_true, if_false]
          omega
        have hwi : IntKind.i64.wrap (0 + ((lenB n : Nat) : Int)) = (lenB n : Int) := by
          have h1 : Nat.log2 n ≤ 12 := Nat.le_trans (Nat.log2_le_self n) h
          have h2 : lenB n ≤ 13 := by unfold lenB; split <;> omega
          rw [wr (by omega) (by omega)]; omega
        have hwj : IntKind.i64.wrap ((lenB n : Nat) : Int) = (lenB n : Int) := by
          have h1 : Nat.log2 n ≤ 12 := Nat.le_trans (Nat.log2_le_self n) h
          have h2 : lenB n ≤ 13 := by unfold lenB; split <;> omega
          rw [wr (by omega) (by omega)]
        have hu : (((UInt8.ofNat (lenB n)).toNat : Nat) : Int) = (lenB n : Int) := by
          have h1 : Nat.log2 n ≤ 12 := Nat.le_trans (Nat.log2_le_self n) h
          have h2 : lenB n ≤ 13 := by unfold lenB; split <;> omega
          have h3 : (UInt8.ofNat (lenB n)).toNat = lenB n := by rw [UInt8.toNat_ofNat']; omega
          rw [h3]
        refine Tr.regTs 7 [2] rfl (RegT.cut 3 4 [19, 21] (by decide) (by
          simp only [List.drop_zero, List.take_succ_cons, List.take_zero]
          simp only [↓sxd, sxu, ↓zE, ↓exq, ↓zX, Nat.reduceBEq, Nat.reduceLT, tysH16_115, hw8]
          (repeat' (first | rfl | exact trivial | exact fun h => h | exact fun h => (by rw [h]; rfl) | apply And.intro | omega | exact Nat.le_of_ble_eq_true rfl))) (RegT.idx (i := (n : Int)) (b := UInt8.ofNat (lenB n)) rfl rfl rfl rfl (show 22 < 25 by decide) (by kernel_rfl) rfl rfl (Int.natCast_nonneg n) (by
          rw [Int.toNat_natCast]
          obtain rfl | rfl | rfl | rfl | rfl | rfl | rfl | rfl | rfl | rfl | rfl | rfl | rfl : n = 0 ∨ n = 1 ∨ n = 2 ∨ n = 3 ∨ n = 4 ∨ n = 5 ∨ n = 6 ∨ n = 7 ∨ n = 8 ∨ n = 9 ∨ n = 10 ∨ n = 11 ∨ n = 12 := by omega
          all_goals kernel_rfl) (RegT.imp (st' := ⟨[(22, .d (.lit (.int .u8 (lenB n : Nat)))), (19, I 0)], [], 0, 25, [], 0⟩) (by simp only [hu]; exact Imp.keep [22, 19]) (RegT.cut (k := 4) 3 0 [2] (by decide) (by
          simp only [List.drop_succ_cons, List.drop_zero, List.take_succ_cons, List.take_zero]
          simp only [↓sxd, sxu, ↓zE, ↓exq, ↓zX, Nat.reduceBEq, Nat.reduceLT, tysH16_115, hwi, hwj]
          (repeat' (first | rfl | exact trivial | exact fun h => h | exact fun h => (by rw [h]; rfl) | apply And.intro | omega | exact Nat.le_of_ble_eq_true rfl))) (RegT.nil rfl))))) ?_
        refine Tr.ret ?_
        (refine ⟨.inr rfl, ?_⟩; first | rfl | exact ⟨rfl, rfl, trivial⟩ | exact ⟨rfl, rfl, rfl, trivial⟩ | (simp only [Res, ResL, ResOK, ↓sxd, sxu, ↓zE, ↓zC, zJ, ↓exP, ↓exq, ↓zB, ↓zX, ↓zK, Nat.reduceBEq, Nat.reduceAdd, Nat.reduceLT, Nat.reduceMul, Nat.reduceSub, Nat.reduceLeDiff, Nat.reduceEqDiff, Int.reduceLE, Int.reduceLT, Int.reduceToNat, reduceIte, sxe, tysH16_115]; (repeat' (first | rfl | exact trivial | exact fun h => h | exact fun h => (by rw [h]; rfl) | apply And.intro | omega | exact Nat.le_of_ble_eq_true rfl))))
abbrev tysH16_94 := And.intro ty.sz3 <| And.intro ty.agg3 <| And.intro ty.elem3 <| And.intro ty.zero3 <| And.intro ty.und3 <| And.intro ty.sz54 <| And.intro ty.agg54 <| And.intro ty.elem54 <| And.intro ty.zero54 <| And.intro ty.und54 <| And.intro ty.sz154 <| And.intro ty.agg154 <| And.intro ty.elem154 <| And.intro ty.zero154 <| ty.und154
theorem Len_c (n : Nat) (h : n ≤ 12) : CallP Tryz.prog G0 94 [U n] (I (lenB n)) := by
  refine CallP.body 8 [.tmp 2] Tryz.func94 (by kernel_rfl) rfl rfl rfl zP zP ?_
  refine Tr.reg [0] (by
      simp only [↓sxd, sxu, ↓zE, ↓exq, Nat.reduceBEq, Nat.reduceLT]
      (all_goals try exact zF)) ?_
  refine Tr.seq ?_
  refine Tr.cond rfl (fun hc => ?_) (fun hc => ?_)
  · cases hc
  · refine Tr.skip ?_
    refine Tr.reg [2] (by
        simp only [↓sxd, sxu, ↓zE, ↓exq, Nat.reduceLT]
        (repeat ((with_reducible refine And.intro ?_ ?_); (focus (exact zS))))
        refine CallO.use (Len64_c n h) ?_
        try simp only [↓sxd, sxu, ↓zE, ↓exq, Nat.reduceLT]
        (all_goals try exact zF)) ?_
    refine Tr.ret ?_
    (refine ⟨.inr rfl, ?_⟩; first | rfl | exact ⟨rfl, rfl, trivial⟩ | exact ⟨rfl, rfl, rfl, trivial⟩ | (simp only [Res, ResL, ResOK, ↓sxd, sxu, ↓zE, ↓zC, zJ, ↓exP, ↓exq, ↓zB, ↓zX, ↓zK, Nat.reduceBEq, Nat.reduceAdd, Nat.reduceLT, Nat.reduceMul, Nat.reduceSub, Nat.reduceLeDiff, Nat.reduceEqDiff, Int.reduceLE, Int.reduceLT, Int.reduceToNat, reduceIte, sxe, tysH16_94]; (repeat' (first | rfl | exact trivial | exact fun h => h | exact fun h => (by rw [h]; rfl) | apply And.intro | omega | exact Nat.le_of_ble_eq_true rfl))))
abbrev tysH16_83 := And.intro ty.sz0 <| And.intro ty.agg0 <| And.intro ty.elem0 <| And.intro ty.sz3 <| And.intro ty.agg3 <| And.intro ty.elem3 <| And.intro ty.zero3 <| And.intro ty.und3 <| And.intro ty.sz4 <| And.intro ty.agg4 <| And.intro ty.elem4 <| And.intro ty.zero4 <| And.intro ty.und4 <| And.intro ty.sz34 <| And.intro ty.agg34 <| And.intro ty.elem34 <| And.intro ty.by34 <| And.intro ty.ez34 <| And.intro ty.zero34 <| And.intro ty.und34 <| And.intro ty.sz79 <| And.intro ty.agg79 <| And.intro ty.fld79_0 <| And.intro ty.fld79_1 <| And.intro ty.elem79 <| And.intro ty.zero79 <| And.intro ty.pl79 <| And.intro ty.sz126 <| And.intro ty.agg126 <| And.intro ty.elem126 <| ty.zero126
theorem compareL_c (a b : List HC) (ha : a.length ≤ 1000) (hb : b.length ≤ 1000) : CallP Tryz.prog G0 83 [SC a, SC b, .clo (.func 82) [] []] (I (cmpLS a b)) := by
  refine CallP.body 39 [.tmp 6] Tryz.func83 (by kernel_rfl) rfl rfl rfl zP zP ?_
  refine Tr.reg [0, 1, 2] (by
      simp only [↓sxd, sxu, ↓zE, ↓exq, Nat.reduceBEq, Nat.reduceAdd, Nat.reduceLT]
      (all_goals try exact zF)) ?_
  refine Tr.seq ?_
  refine Tr.reg [0, 1, 2, 11, 12, 13] (by
      simp only [↓sxd, sxu, ↓zE, ↓exq, ↓zB, ↓zL, Nat.reduceBEq, Nat.reduceLT, sxe, tysH16_83]
      (all_goals try exact zF)) ?_
  refine Tr.imp (st' := ⟨[(0, SC a), (1, SC b), (2, .clo (.func 82) [] []), (11, SC a), (12, I a.length), (13, I 0)], [], 0, 39, [], 0⟩) (Imp.keepAll) (Tr.block (Tr.loopI (fun mm ss => ∃ (k : Nat), (k ≤ a.length ∧ k ≤ b.length ∧ cmpLS a b = cmpLS (a.drop k) (b.drop k)) ∧ a.length - k = mm ∧ ss = ⟨[(0, SC a), (1, SC b), (2, .clo (.func 82) [] []), (11, SC a), (12, I a.length), (13, I k)], [], 0, 39, [], 0⟩) _ ⟨0, ?_, rfl, rfl⟩ ?_))
  · exact ⟨Nat.zero_le _, Nat.zero_le _, rfl⟩
  rintro mm ss ⟨k, hI, rfl, rfl⟩
  obtain ⟨hk, hkb, hcm⟩ := hI
  refine Tr.reg [0, 1, 2, 11, 12, 13, 14] (by
      simp only [↓sxd, sxu, ↓zE, ↓exq, Nat.reduceBEq, Nat.reduceLT, sxe]
      (all_goals try exact zF)) ?_
  refine Tr.seq ?_
  refine Tr.cond rfl (fun h14 => ?_) (fun h14 => ?_)
  · have hlt : k < a.length := by simpa using h14
    refine Tr.skip ?_
    refine Tr.seq ?_
    refine Tr.block ?_
    refine Tr.reg [0, 1, 2, 7, 8, 11, 12, 13] (by
        simp only [↓sxd, sxu, ↓zE, ↓exq, ↓zD, ↓zN, Nat.reduceBEq, Nat.reduceAdd, Nat.reduceLT, Nat.reduceEqDiff, sxe, tysH16_83, hlt]
        (all_goals try exact zF)) ?_
    refine Tr.seq ?_
    refine Tr.reg [0, 1, 2, 7, 8, 11, 12, 13, 21] (by
        simp only [↓sxd, sxu, ↓zE, ↓exq, ↓zB, ↓zL, Nat.reduceBEq, Nat.reduceLT, sxe, tysH16_83]
        (all_goals try exact zF)) ?_
    refine Tr.cond rfl (fun h21 => ?_) (fun h21 => ?_)
    · have hbl : b.length ≤ k := by have := of_decide_eq_true h21; omega
      refine Tr.reg [6] (by
          simp only [↓sxd, sxu, ↓zE, ↓exq, Nat.reduceLT]
          (all_goals try exact zF)) ?_
      refine Tr.ret ?_
      have hc1 : cmpLS a b = 1 := by
        rw [hcm, List.drop_eq_getElem_cons hlt, List.drop_eq_nil_of_le hbl, cmpLS]
      exact ⟨.inr rfl, by rw [hc1]; rfl⟩
    · have hbl : k < b.length := by have := of_decide_eq_false h21; omega
      refine Tr.skip ?_
      refine Tr.reg [0, 1, 2, 8, 9, 11, 12, 13] (by
          simp only [↓sxd, sxu, ↓zE, ↓exq, ↓zD, ↓zN, Nat.reduceBEq, Nat.reduceAdd, Nat.reduceLT, Nat.reduceEqDiff, sxe, tysH16_83, hbl]
          (all_goals try exact zF)) ?_
      refine Tr.reg [0, 1, 2, 10, 11, 12, 13] (by
          simp only [↓sxd, sxu, ↓zE, ↓exq, ↓zD, Nat.reduceBEq, Nat.reduceAdd, Nat.reduceLT, tysH16_83]
          (repeat ((with_reducible refine And.intro ?_ ?_); (focus (exact zS))))
          refine CallO.use (compare_c (a.getD k default) (b.getD k default)) ?_
          try simp only [↓sxd, sxu, ↓zE, ↓exq, Nat.reduceBEq, Nat.reduceLT]
          (all_goals try exact zF)) ?_
      refine Tr.reg [0, 1, 2, 10, 11, 12, 13, 31] (by
          simp only [↓sxd, sxu, ↓zE, ↓exq, Nat.reduceBEq, Nat.reduceLT]
          (all_goals try exact zF)) ?_
      refine Tr.cond rfl (fun h31 => ?_) (fun h31 => ?_)
      · have hne : (a.getD k default).cmp (b.getD k default) ≠ 0 := by simpa using h31
        have hc2 : cmpLS a b = (a.getD k default).cmp (b.getD k default) := by
          rw [hcm, List.drop_eq_getElem_cons hlt, List.drop_eq_getElem_cons hbl, cmpLS]
          simp only [List.getD_eq_getElem?_getD, List.getElem?_eq_getElem hlt, List.getElem?_eq_getElem hbl, Option.getD_some] at hne ⊢
          rw [if_pos hne]
        refine Tr.reg [6] (by
            simp only [↓sxd, sxu, ↓zE, ↓exq, Nat.reduceBEq, Nat.reduceLT]
            (all_goals try exact zF)) ?_
        refine Tr.ret ?_
        exact ⟨.inr rfl, by rw [hc2]; rfl⟩
      · have hne : (a.getD k default).cmp (b.getD k default) = 0 := by simpa using h31
        have hc2 : cmpLS a b = cmpLS (a.drop (k + 1)) (b.drop (k + 1)) := by
          rw [hcm, List.drop_eq_getElem_cons hlt, List.drop_eq_getElem_cons hbl, cmpLS]
          simp only [List.getD_eq_getElem?_getD, List.getElem?_eq_getElem hlt, List.getElem?_eq_getElem hbl, Option.getD_some] at hne
          rw [if_neg (by simp [hne])]
        refine Tr.skip ?_
        have w1 : IntKind.i64.wrap ((k : Int) + 1) = ((k + 1 : Nat) : Int) := by rw [wr (by omega) (by omega)]; rfl
        refine Tr.reg1 [0, 1, 2, 11, 12, 13] (by
            simp only [↓sxd, sxu, ↓zE, ↓exq, Nat.reduceBEq, Nat.reduceLT, w1]
            (all_goals try exact zF)) ?_
        exact ⟨_, _, by omega, Imp.go (fun i => i + 2) [] rfl rfl (.cons _ (.cons _ .slnil)) (fun _ h => absurd h (Nat.not_lt_zero _)) (fun id h => Nat.add_le_add_right h 2) zT .nil (fun h => h), ⟨k + 1, ⟨hlt, hbl, hc2⟩, rfl, rfl⟩⟩
  · have hge : k = a.length := by simp at h14; omega
    refine Tr.exit ?_
    refine Tr.seq ?_
    refine Tr.reg [38] (by
        simp only [↓sxd, sxu, ↓zE, ↓exq, ↓zB, ↓zL, Nat.reduceBEq, Nat.reduceLT, sxe, tysH16_83]
        (all_goals try exact zF)) ?_
    refine Tr.cond rfl (fun h38 => ?_) (fun h38 => ?_)
    · have hl : a.length < b.length := by have := of_decide_eq_true h38; omega
      have hc3 : cmpLS a b = -1 := by
        rw [hcm, List.drop_eq_nil_of_le (by omega), List.drop_eq_getElem_cons (show k < b.length by omega), cmpLS]
      refine Tr.reg [6] (by
          simp only [↓sxd, sxu, ↓zE, ↓exq, Nat.reduceLT]
          (all_goals try exact zF)) ?_
      refine Tr.ret ?_
      exact ⟨.inr rfl, by rw [hc3]; rfl⟩
    · have hl : ¬ a.length < b.length := by have := of_decide_eq_false h38; omega
      have hc3 : cmpLS a b = 0 := by
        rw [hcm, List.drop_eq_nil_of_le (by omega), List.drop_eq_nil_of_le (by omega), cmpLS]
      refine Tr.skip ?_
      refine Tr.reg [6] (by
          simp only [↓sxd, sxu, ↓zE, ↓exq, Nat.reduceLT]
          (all_goals try exact zF)) ?_
      refine Tr.ret ?_
      exact ⟨.inr rfl, by rw [hc3]; rfl⟩
abbrev tysH16_80 := And.intro ty.sz4 <| And.intro ty.agg4 <| And.intro ty.elem4 <| And.intro ty.zero4 <| And.intro ty.und4 <| And.intro ty.sz34 <| And.intro ty.agg34 <| And.intro ty.elem34 <| And.intro ty.by34 <| And.intro ty.ez34 <| And.intro ty.zero34 <| ty.und34
theorem cloneC_h (l : List HC) (hlen : l.length ≤ 1000) (hp : HpT) (nx : Nat) : CallH Tryz.prog G0 80 [SC l] hp nx (Det (.slc nx 2 0 l.length l.length) ((nx, .arr 2 (vC l)) :: hp) (nx + 1)) := by
  refine CallH.body 8 [.tmp 2] Tryz.func80 (by kernel_rfl) rfl rfl rfl ?_
  refine Tr.reg [0] (by
      simp only [↓sxd, sxu, ↓zE, ↓exq, Nat.reduceBEq, Nat.reduceLT]
      (all_goals try exact zF)) ?_
  refine Tr.seq ?_
  refine Tr.seq (Tr.nilTest rfl rfl rfl rfl rfl rfl rfl rfl (show 3 < 8 by decide) (show 4 < 8 by decide) (fun b hb => ?_))
  refine Tr.cond rfl (fun h4 => ?_) (fun h4 => ?_)
  · have hl : l = [] := by have := hb h4; simpa [dC] using this
    subst hl
    refine Tr.reg [2] (by
        simp only [↓sxd, sxu, ↓zE, ↓exq, Nat.reduceLT]
        (all_goals try exact zF)) ?_
    refine Tr.imp (st' := ⟨[(2, .slc nx 2 0 0 0)], (nx, .arr 2 []) :: hp, nx + 1, _, _, _⟩) (Imp.goV 2 rfl rfl rfl rfl (by repeat' (first | exact trivial | exact F2.nil | refine F2.cons ?_ ?_ | refine TmV.cons rfl VnS.nil ?_ | refine TmV.cons rfl VnS.same ?_ | refine ⟨rfl, ?_⟩ | exact VnO.same _ | refine VnO.arr ?_ | exact VnS.nil | exact VnS.same | exact F2.refl fun _ _ => VnS.same)) ?_) ?_
    · exact F2.refl fun _ _ => ⟨rfl, VnO.same _⟩
    refine Tr.ret ?_
    exact ⟨.inr rfl, _, rfl, rfl, rfl, rfl⟩
  · refine Tr.skip ?_
    have hz : (∀ e ∈ List.map (fun e => List.map SV.d e) (dC l), e.length = 2 ∧ e.all SV.one = true) = True := by simp [dC, SV.one]
    have hl1 : (l.length ≤ 1073741824) = True := by simp; omega
    refine Tr.reg [2] (by
        simp only [↓sxd, sxu, ↓zE, ↓exq, ↓zB, ↓zG, ↓zQ, Nat.reduceBEq, Nat.reduceAdd, Nat.reduceLT, Nat.reduceLeDiff, Nat.reduceEqDiff, sxe, tysH16_80, hz, hl1]
        (all_goals try exact zF)) ?_
    refine Tr.ret ?_
    exact ⟨.inr rfl, _, rfl, rfl, by rw [← vC_eq], rfl⟩
theorem vC_set (l : List HC) (k : Nat) (c : HC) : (vC l).set k [I c.row, I c.col] = vC (l.set k c) := by simp [vC, List.map_set]
theorem upd_self {id : Nat} {o x : Sy.Obj} : ∀ {hp : HpT}, hp.lookup id = some x → (upd hp id o).lookup id = some o
  | [], h => by cases h
  | (a, y) :: l, h => by
    rw [upd]
    split
    · rename_i e
      subst e
      rw [List.lookup_cons_self]
    · rename_i e
      have : (id == a) = false := beq_eq_false_iff_ne.2 fun hc => e hc.symm
      rw [List.lookup_cons, this] at h ⊢
      exact upd_self h
theorem upd_upd {id : Nat} {o o' : Sy.Obj} : ∀ {hp : HpT}, upd (upd hp id o) id o' = upd hp id o'
  | [] => rfl
  | (a, y) :: l => by
    by_cases e : a = id
    · simp only [upd, e, if_true]
    · simp only [upd, e, if_false]
      rw [upd_upd]
theorem upd_same {id : Nat} {x : Sy.Obj} : ∀ {hp : HpT}, hp.lookup id = some x → upd hp id x = hp
  | [], h => by cases h
  | (a, y) :: l, h => by
    rw [upd]
    split
    · rename_i e
      subst e
      rw [List.lookup_cons_self] at h
      cases h; rfl
    · rename_i e
      have : (id == a) = false := beq_eq_false_iff_ne.2 (by omega)
      rw [List.lookup_cons, this] at h
      rw [upd_same h]
def accS (l : List HC) (k : Nat) : List HC := (l.take k).foldl (fun acc x => insR x acc) []
theorem accS_succ {l : List HC} {k : Nat} (h : k < l.length) : accS l (k + 1) = insR (l.getD k default) (accS l k) := by
  unfold accS
  rw [List.take_succ_eq_append_getElem h, List.foldl_append]
  simp [List.getD_eq_getElem?_getD, h]
theorem accS_len {l : List HC} {k : Nat} (h : k ≤ l.length) : (accS l k).length = k := by
  unfold accS
  rw [foldR_len]; simp; omega
theorem accS_all (l : List HC) : (accS l l.length).reverse = isort8 l := by unfold accS isort8; rw [List.take_length]
def midS (B A rest : List HC) (x : HC) : List HC := B.reverse ++ x :: (A.reverse ++ rest)
theorem mid_get (B A rest : List HC) (x : HC) : (midS B A rest x).getD B.length default = x := by
  unfold midS
  rw [List.getD_eq_getElem?_getD, List.getElem?_append_right (by simp)]
  simp
theorem mid_get1 (y : HC) (B A rest : List HC) (x : HC) : (midS (y :: B) A rest x).getD B.length default = y := by
  unfold midS
  rw [List.getD_eq_getElem?_getD, List.reverse_cons, List.append_assoc, List.getElem?_append_right (by simp)]
  simp
theorem mid_len (B A rest : List HC) (x : HC) : (midS B A rest x).length = B.length + 1 + A.length + rest.length := by unfold midS; simp; omega
theorem mid_swap (y : HC) (B A rest : List HC) (x : HC) : ((midS (y :: B) A rest x).set (B.length + 1) y).set B.length x = midS B (A ++ [y]) rest x := by
  unfold midS
  rw [List.reverse_cons, List.append_assoc, List.set_append_right _ _ (by simp), List.set_append_right _ _ (by simp)]
  simp
abbrev tysH16_106 := And.intro ty.sz0 <| And.intro ty.agg0 <| And.intro ty.elem0 <| And.intro ty.sz3 <| And.intro ty.agg3 <| And.intro ty.elem3 <| And.intro ty.zero3 <| And.intro ty.und3 <| And.intro ty.sz4 <| And.intro ty.agg4 <| And.intro ty.elem4 <| And.intro ty.zero4 <| And.intro ty.und4 <| And.intro ty.sz34 <| And.intro ty.agg34 <| And.intro ty.elem34 <| And.intro ty.by34 <| And.intro ty.ez34 <| And.intro ty.zero34 <| And.intro ty.und34 <| And.intro ty.sz79 <| And.intro ty.agg79 <| And.intro ty.fld79_0 <| And.intro ty.fld79_1 <| And.intro ty.elem79 <| And.intro ty.zero79 <| And.intro ty.pl79 <| And.intro ty.sz126 <| And.intro ty.agg126 <| And.intro ty.elem126 <| ty.zero126
theorem insort_h (l : List HC) (hlen : l.length ≤ 1000) (hp : HpT) (nx id : Nat) (hL : hp.lookup id = some (.arr 2 (vC l))) : CallH Tryz.prog G0 106 [.slc id 2 0 l.length l.length, I 0, I l.length, .clo (.func 82) [] []] hp nx (fun _ hp' nx' => hp' = upd hp id (.arr 2 (vC (isort8 l))) ∧ nx' = nx) := by
  refine CallH.body 53 [] Tryz.func106 (by kernel_rfl) rfl rfl rfl ?_
  refine Tr.reg [0, 1, 2, 3, 8] (by
      simp only [↓sxd, sxu, ↓zE, ↓exq, Nat.reduceBEq, Nat.reduceAdd, Nat.reduceLT]
      (all_goals try exact zF)) ?_
  refine Tr.imp (st' := ⟨[(0, .slc id 2 0 l.length l.length), (1, I 0), (2, I l.length), (3, .clo (.func 82) [] []), (8, I 1)], upd hp id (.arr 2 (vC l)), nx, 53, [], nx⟩) (by rw [upd_same hL]; exact Imp.keepAll) (Tr.block (Tr.loopI (fun mm ss => ∃ (k : Nat) (L : List HC), (L = (accS l k).reverse ++ l.drop k ∧ 1 ≤ k) ∧ l.length - k = mm ∧ ss = ⟨[(0, .slc id 2 0 l.length l.length), (1, I 0), (2, I l.length), (3, .clo (.func 82) [] []), (8, I k)], upd hp id (.arr 2 (vC L)), nx, 53, [], nx⟩) _ ⟨1, l, ?_, rfl, rfl⟩ ?_))
  · refine ⟨?_, Nat.le_refl _⟩
    cases l with | nil => rfl | cons x l => rfl
  rintro mm ss ⟨k, L, hI, rfl, rfl⟩
  obtain ⟨hLe, hk1⟩ := hI
  refine Tr.seq ?_
  refine Tr.reg [0, 1, 2, 3, 8, 14] (by
      simp only [↓sxd, sxu, ↓zE, ↓exq, Nat.reduceBEq, Nat.reduceLT, sxe]
      (all_goals try exact zF)) ?_
  refine Tr.cond rfl (fun h14 => ?_) (fun h14 => ?_)
  · have hlt : k < l.length := by simpa using h14
    have hxk : L = midS (accS l k) [] (l.drop (k + 1)) (l.getD k default) := by
      rw [hLe]; unfold midS
      rw [List.drop_eq_getElem_cons hlt]
      simp [List.getD_eq_getElem?_getD, hlt]
    refine Tr.skip ?_
    refine Tr.seq ?_
    refine Tr.block ?_
    refine Tr.reg [0, 1, 2, 3, 8, 9] (by
        simp only [↓sxd, sxu, ↓zE, ↓exq, Nat.reduceBEq, Nat.reduceLT]
        (all_goals try exact zF)) ?_
    refine Tr.imp (st' := ⟨[(0, .slc id 2 0 l.length l.length), (1, I 0), (2, I l.length), (3, .clo (.func 82) [] []), (8, I k), (9, I ((accS l k)).length)], upd hp id (.arr 2 (vC (midS ((accS l k)) [] (l.drop (k + 1)) (l.getD k default)))), nx, 53, [], nx⟩) (by rw [hxk, accS_len (Nat.le_of_lt hlt)]; exact Imp.keepAll) (Tr.block (Tr.loopI (fun mm ss => ∃ (B A : List HC), (insR (l.getD k default) (accS l k) = A ++ insR (l.getD k default) B ∧ B.length + A.length = k) ∧ B.length = mm ∧ ss = ⟨[(0, .slc id 2 0 l.length l.length), (1, I 0), (2, I l.length), (3, .clo (.func 82) [] []), (8, I k), (9, I B.length)], upd hp id (.arr 2 (vC (midS B A (l.drop (k + 1)) (l.getD k default)))), nx, 53, [], nx⟩) _ ⟨(accS l k), [], ?_, rfl, rfl⟩ ?_))
    · exact ⟨rfl, by rw [accS_len (Nat.le_of_lt hlt)]; rfl⟩
    rintro mm ss ⟨B, A, hI, rfl, rfl⟩
    obtain ⟨hins, hbl⟩ := hI
    obtain ⟨x, hx⟩ : ∃ x, x = l.getD k default := ⟨_, rfl⟩
    obtain ⟨rest, hrest⟩ : ∃ rest, rest = l.drop (k + 1) := ⟨_, rfl⟩
    have hrl : rest.length + (k + 1) = l.length := by rw [hrest, List.length_drop]; omega
    rw [← hx] at hins
    rw [← hx, ← hrest]
    have hml := mid_len B A rest x
    have hbL : B.length < l.length := by omega
    have hlk := upd_self (o := .arr 2 (vC (midS B A rest x))) hL
    refine Tr.seq ?_
    have hml2 : (midS B A rest x).length = l.length := by omega
    obtain ⟨y, hy⟩ : ∃ y, y = (midS B A rest x).getD (B.length - 1) default := ⟨_, rfl⟩
    have hj1 : B.length - 1 < l.length := by omega
    have hg0 := vC_get (l := midS B A rest x) (k := B.length) (by omega)
    have hg1 := vC_get (l := midS B A rest x) (k := B.length - 1) (by omega)
    rw [mid_get] at hg0
    rw [← hy] at hg1
    refine Tr.regD [0, 1, 2, 3, 4, 5, 6, 7, 8, 9, 10, 11, 12, 13, 14, 15, 16] [] [] [0, 1, 2, 3, 8, 9, 34] mix (by kernel_rfl) (by
        simp only [↓sxd, sxu, ↓zC, zJ, ↓exq, Nat.reduceBEq, Nat.reduceLT]
        iterate 7
          (repeat ((with_reducible refine And.intro ?_ ?_); (focus (exact zS))))
          refine GdD.mk _ (fun hg => by simp only [↓sxd, sxu, ↓exP, ↓exq, ↓zD, Nat.reduceBEq, Nat.reduceAdd, sxe, tysH16_106, hlk, vC_len, hml2, hbL, hg0, hg]; (all_goals try exact zF)) ?_
          simp only [↓sxd, sxu, ↓zC, zJ, Nat.reduceBEq, Nat.reduceLT]
        (repeat ((with_reducible refine And.intro ?_ ?_); (focus (exact zS))))
        refine GdD.mk (I ((B.length - 1 : Nat) : Int)) (fun hg => by
          have h0 : 0 < B.length := by simpa using hg
          have hw : IntKind.i64.wrap ((B.length : Int) - 1) = ((B.length - 1 : Nat) : Int) := by rw [wr (by omega) (by omega)]; omega
          simp only [↓sxd, sxu, ↓exP, ↓exq, hg, hw]
          (all_goals try exact zF)) ?_
        try simp only [↓sxd, sxu, ↓zC, zJ, Nat.reduceBEq, Nat.reduceLT]
        iterate 2
          (repeat ((with_reducible refine And.intro ?_ ?_); (focus (exact zS))))
          refine GdD.mk _ (fun hg => by simp only [↓sxd, sxu, ↓exP, ↓exq, ↓zD, Nat.reduceBEq, Nat.reduceAdd, sxe, tysH16_106, hlk, vC_len, hml2, hj1, hg1, hg]; (all_goals try exact zF)) ?_
          simp only [↓sxd, sxu, ↓zC, zJ, Nat.reduceBEq, Nat.reduceLT]
        (repeat ((with_reducible refine And.intro ?_ ?_); (focus (exact zS))))
        refine GdD.mk _ (fun hg => by simp only [sxu, ↓exP, Nat.reduceBEq, hg]; first | exact compare_c x y | exact ⟨compare_c x y, rfl, rfl⟩ | exact ⟨compare_c x y, trivial⟩ | exact ⟨compare_c x y, trivial, trivial⟩) ?_
        simp only [↓sxd, sxu, ↓zC, zJ, Nat.reduceBEq, Nat.reduceLT]
        (repeat ((with_reducible refine And.intro ?_ ?_); (focus (exact zS))))
        refine GdD.mk _ (fun hg => by simp only [↓sxd, sxu, ↓exP, ↓exq, hg]; (all_goals try exact zF)) ?_
        simp only [↓sxd, sxu, ↓zC, ↓exq, ↓zI, Nat.reduceBEq, Nat.reduceLT]
        (all_goals try exact zF)) ?_
    refine Tr.cond rfl (fun h34 => ?_) (fun h34 => ?_)
    · have hcn : 0 < B.length ∧ x.cmp y < 0 := by simpa using h34
      obtain ⟨y', B', rfl⟩ : ∃ y' B', B = y' :: B' := by cases B with | nil => exact absurd hcn.1 (by decide) | cons a b => exact ⟨a, b, rfl⟩
      have hyy : y = y' := by rw [hy]; exact mid_get1 y' B' A rest x
      subst hyy
      rw [insR, if_pos hcn.2] at hins
      refine Tr.skip ?_
      refine Tr.seq ?_
      refine Tr.block ?_
      have hj2 : B'.length + 1 < l.length := hbL
      have hj3 : B'.length < l.length := by omega
      have wj : IntKind.i64.wrap (((B'.length + 1 : Nat) : Int) - 1) = (B'.length : Int) := by rw [wr (by omega) (by omega)]; omega
      have hg2 : (vC (midS (y :: B') A rest x)).getD (B'.length + 1) [] = [I x.row, I x.col] := hg0
      have hg3 : (vC (midS (y :: B') A rest x)).getD B'.length [] = [I y.row, I y.col] := hg1
      have hg4 : (vC ((midS (y :: B') A rest x).set (B'.length + 1) y)).getD B'.length [] = [I y.row, I y.col] := by
        rw [vC_get (by rw [List.length_set]; omega), List.getD_eq_getElem?_getD, List.getElem?_set_ne (by omega), ← List.getD_eq_getElem?_getD, mid_get1]
      have hlk2 := upd_self (o := .arr 2 (vC ((midS (y :: B') A rest x).set (B'.length + 1) y))) hL
      have hswap := mid_swap y B' A rest x
      refine Tr.regD1 [0, 1, 2, 3, 4, 5, 6, 7, 8, 9, 10, 11, 12, 13, 14, 15, 16, 17] [15, 17] [] [0, 1, 2, 3, 8, 9] mix (by kernel_rfl) (by
          simp only [↓sxd, sxu, ↓zC, zJ, ↓exq, ↓zD, Nat.reduceBEq, Nat.reduceAdd, Nat.reduceLT, sxe, tysH16_106, hlk, vC_len, hml2, hj2, hj3, wj, hg2, hg3, hg4, hlk2, vC_set, hswap, upd_upd, List.length_set]
          (all_goals try exact zF)) ?_
      refine Tr.reg1 [0, 1, 2, 3, 8, 9] (by
          simp only [↓sxd, sxu, ↓zE, ↓exq, Nat.reduceBEq, Nat.reduceLT, wj]
          (all_goals try exact zF)) ?_
      exact ⟨_, _, Nat.lt_succ_self _, Imp.keepAll, ⟨B', A ++ [y], ⟨by rw [hins, List.append_assoc]; rfl, by rw [List.length_append]; simp at hbl ⊢; omega⟩, by rfl, by rw [hx, hrest]⟩⟩
    · have hcn : ¬ (0 < B.length ∧ x.cmp y < 0) := fun h => by simp [h.1, h.2] at h34
      have hins2 : insR x B = x :: B := by
        cases B with
        | nil => rfl
        | cons a b =>
          have hyy : y = a := by rw [hy]; exact mid_get1 a b A rest x
          subst hyy
          rw [insR, if_neg fun h => hcn ⟨Nat.succ_pos _, h⟩]
      refine Tr.exit ?_
      have w1 : IntKind.i64.wrap ((k : Int) + 1) = ((k + 1 : Nat) : Int) := by rw [wr (by omega) (by omega)]; rfl
      have hnew : midS B A rest x = (accS l (k + 1)).reverse ++ l.drop (k + 1) := by
        rw [accS_succ hlt, ← hx, hins, hins2, ← hrest]; unfold midS
        simp
      refine Tr.reg1 [0, 1, 2, 3, 8] (by
          simp only [↓sxd, sxu, ↓zE, ↓exq, Nat.reduceBEq, Nat.reduceLT, w1]
          (all_goals try exact zF)) ?_
      exact ⟨_, _, by omega, Imp.keepAll, ⟨k + 1, midS B A rest x, ⟨hnew, by omega⟩, rfl, rfl⟩⟩
  · have hge : l.length ≤ k := by simpa using h14
    have hLs : L = isort8 l := by
      rw [hLe, List.drop_eq_nil_of_le hge, List.append_nil, ← accS_all]
      unfold accS
      rw [List.take_of_length_le hge, List.take_length]
    refine Tr.exit ?_
    exact ⟨.inl rfl, .tup [], trivial, by rw [hLs], rfl⟩
end Go.Proofs.YtijechcadlklhaaGreat
namespace Go.Proofs.YtijechcadlklhaaGreat
open Go.Sy
set_option maxRecDepth 8000
abbrev tysH17_93 := And.intro ty.sz0 <| And.intro ty.agg0 <| And.intro ty.elem0 <| And.intro ty.sz3 <| And.intro ty.agg3 <| And.intro ty.elem3 <| And.intro ty.zero3 <| And.intro ty.und3 <| And.intro ty.sz4 <| And.intro ty.agg4 <| And.intro ty.elem4 <| And.intro ty.zero4 <| And.intro ty.und4 <| And.intro ty.sz34 <| And.intro ty.agg34 <| And.intro ty.elem34 <| And.intro ty.by34 <| And.intro ty.ez34 <| And.intro ty.zero34 <| And.intro ty.und34 <| And.intro ty.sz79 <| And.intro ty.agg79 <| And.intro ty.fld79_0 <| And.intro ty.fld79_1 <| And.intro ty.elem79 <| And.intro ty.zero79 <| And.intro ty.pl79 <| And.intro ty.sz126 <| And.intro ty.agg126 <| And.intro ty.elem126 <| And.intro ty.zero126 <| And.intro ty.sz146 <| And.intro ty.agg146 <| And.intro ty.elem146 <| And.intro ty.zero146 <| And.intro ty.und146 <| And.intro ty.sz147 <| And.intro ty.agg147 <| And.intro ty.elem147 <| And.intro ty.sz151 <| And.intro ty.agg151 <| ty.elem151
theorem pdq_h (l : List HC) (hlen : l.length ≤ 12) (lim : Int) (hp : HpT) (nx id : Nat) (hL : hp.lookup id = some (.arr 2 (vC l))) : CallH Tryz.prog G0 93 [.slc id 2 0 l.length l.length, I 0, I l.length, I lim, .clo (.func 82) [] []] hp nx (fun _ hp' nx' => hp' = upd hp id (.arr 2 (vC (isort8 l))) ∧ nx' = nx) := by
  refine CallH.body 148 [] Tryz.func93 (by kernel_rfl) rfl rfl rfl ?_
  refine Tr.reg [0, 1, 2, 3, 4, 10] (by
      simp only [↓sxd, sxu, ↓zE, ↓exq, Nat.reduceBEq, Nat.reduceAdd, Nat.reduceLT]
      (all_goals try exact zF)) ?_
  refine Tr.reg [0, 1, 2, 3, 4, 10, 11] (by
      simp only [↓sxd, sxu, ↓zE, ↓exq, Nat.reduceBEq, Nat.reduceLT]
      (all_goals try exact zF)) ?_
  refine Tr.imp (st' := ⟨[(0, .slc id 2 0 l.length l.length), (1, I 0), (2, I l.length), (3, I lim), (4, .clo (.func 82) [] []), (10, B true), (11, B true)], hp, nx, 148, [], nx⟩) (Imp.keepAll) (Tr.block (Tr.loopI (fun mm ss => (True) ∧ 0 = mm ∧ ss = ⟨[(0, .slc id 2 0 l.length l.length), (1, I 0), (2, I l.length), (3, I lim), (4, .clo (.func 82) [] []), (10, B true), (11, B true)], hp, nx, 148, [], nx⟩) _ ⟨?_, rfl, rfl⟩ ?_))
  · (repeat' (first | rfl | exact trivial | exact fun h => h | exact fun h => (by rw [h]; rfl) | apply And.intro | omega | exact Nat.le_of_ble_eq_true rfl))
  rintro mm ss ⟨hI, rfl, rfl⟩
  refine Tr.block ?_
  have w1 : IntKind.i64.wrap ((l.length : Int) - 0) = (l.length : Int) := by rw [wr (by omega) (by omega)]; omega
  refine Tr.reg [0, 1, 2, 3, 4, 10, 11, 12] (by
      simp only [↓sxd, sxu, ↓zE, ↓exq, Nat.reduceBEq, Nat.reduceLT, w1]
      (all_goals try exact zF)) ?_
  refine Tr.seq ?_
  refine Tr.reg [0, 1, 2, 3, 4, 10, 11, 12, 25] (by
      simp only [↓sxd, sxu, ↓zE, ↓exq, Nat.reduceBEq, Nat.reduceLT]
      (all_goals try exact zF)) ?_
  refine Tr.cond rfl (fun h25 => ?_) (fun h25 => ?_)
  · refine Tr.reg [] (by
        simp only [↓sxd, sxu, ↓zE, ↓exq, Nat.reduceBEq, Nat.reduceLT]
        (repeat ((with_reducible refine And.intro ?_ ?_); (focus (exact zS))))
        refine CallH.mono (insort_h l (by omega) hp nx id hL) ?_
        rintro r' hp' nx' ⟨rfl, rfl⟩
        try simp only [↓sxd]
        (all_goals try exact zF)) ?_
    refine Tr.ret ?_
    exact ⟨.inr rfl, .tup [], trivial, rfl, rfl⟩
  · exact absurd (of_decide_eq_false h25) (by omega)
abbrev tysH17_81 := And.intro ty.sz0 <| And.intro ty.agg0 <| And.intro ty.elem0 <| And.intro ty.sz3 <| And.intro ty.agg3 <| And.intro ty.elem3 <| And.intro ty.zero3 <| And.intro ty.und3 <| And.intro ty.sz34 <| And.intro ty.agg34 <| And.intro ty.elem34 <| And.intro ty.by34 <| And.intro ty.ez34 <| And.intro ty.zero34 <| And.intro ty.und34 <| And.intro ty.sz54 <| And.intro ty.agg54 <| And.intro ty.elem54 <| And.intro ty.zero54 <| And.intro ty.und54 <| And.intro ty.sz126 <| And.intro ty.agg126 <| And.intro ty.elem126 <| ty.zero126
theorem sort_h (l : List HC) (hlen : l.length ≤ 12) (hp : HpT) (nx id : Nat) (hL : hp.lookup id = some (.arr 2 (vC l))) : CallH Tryz.prog G0 81 [.slc id 2 0 l.length l.length, .clo (.func 82) [] []] hp nx (fun _ hp' nx' => hp' = upd hp id (.arr 2 (vC (isort8 l))) ∧ nx' = nx) := by
  refine CallH.body 14 [] Tryz.func81 (by kernel_rfl) rfl rfl rfl ?_
  refine Tr.reg [0, 1, 4] (by
      simp only [↓sxd, sxu, ↓zE, ↓exq, ↓zB, ↓zL, Nat.reduceBEq, Nat.reduceAdd, Nat.reduceLT, tysH17_81]
      (all_goals try exact zF)) ?_
  have w1 : IntKind.u64.wrap (l.length : Int) = (l.length : Int) := wu (by omega) (by omega)
  refine Tr.reg1 [] (by
      simp only [↓sxd, sxu, ↓zE, ↓exq, ↓zX, Nat.reduceBEq, Nat.reduceLT, tysH17_81, w1]
      (repeat ((with_reducible refine And.intro ?_ ?_); (focus (exact zS))))
      refine CallO.use (Len_c l.length hlen) ?_
      try simp only [↓sxd, sxu, ↓zE, ↓exq, Nat.reduceBEq, Nat.reduceLT]
      (repeat ((with_reducible refine And.intro ?_ ?_); (focus (exact zS))))
      refine CallH.mono (pdq_h l hlen _ hp nx id hL) ?_
      rintro r' hp' nx' ⟨rfl, rfl⟩
      try simp only [↓sxd]
      (all_goals try exact zF)) ?_
  exact ⟨.inl rfl, .tup [], trivial, rfl, rfl⟩
theorem vC_snoc' (l : List HC) (c : HC) : vC (l ++ [c]) = vC l ++ [[I c.row, I c.col]] := by simp [vC]
def idA : List HC → Nat
  | [] => 0
  | _ :: gs => 5 + 2 * gs.length
def appL (l : List HC) : List HC → List HC
  | [] => l
  | c :: gs => l ++ c :: gs
theorem appL_eq (l gs : List HC) : appL l gs = l ++ gs := by cases gs <;> simp [appL]
theorem idA_snoc (gs : List HC) (c : HC) : idA (gs ++ [c]) = 4 + 2 * gs.length + 1 := by cases gs <;> simp [idA] <;> omega
theorem idA_lt (gs : List HC) : idA gs = 0 ∨ (5 ≤ idA gs ∧ idA gs < 4 + 2 * gs.length) := by cases gs <;> simp [idA] <;> omega
abbrev tysH17_79 := And.intro ty.sz0 <| And.intro ty.agg0 <| And.intro ty.elem0 <| And.intro ty.sz34 <| And.intro ty.agg34 <| And.intro ty.elem34 <| And.intro ty.by34 <| And.intro ty.ez34 <| And.intro ty.zero34 <| And.intro ty.und34 <| And.intro ty.sz79 <| And.intro ty.agg79 <| And.intro ty.fld79_0 <| And.intro ty.fld79_1 <| And.intro ty.elem79 <| And.intro ty.zero79 <| And.intro ty.pl79 <| And.intro ty.sz99 <| And.intro ty.agg99 <| And.intro ty.elem99 <| ty.zero99
theorem appendSeq_h {w : HW} {n m : Nat} (hw : w.Ok n m) (l : List HC) (hlen : l.length ≤ 1000) : CallH Tryz.prog G0 79 [.slc 0 2 0 l.length l.length, .clo (.func 85) [] [.ptr 1 0 0]] [(1, .arr 1 [[.dp w.d]]), (0, .arr 2 (vC l))] 2 (Det (.slc (if w.cells = [] then 0 else 2) 2 0 (appL l w.cells).length (appL l w.cells).length) [(1, .arr 1 [[.dp w.d]]), (if w.cells = [] then 0 else 2, .arr 2 (vC (appL l w.cells)))] 3) := by
  have hcl : w.cells.length ≤ 12 := by rw [cells_sel hw]; exact sel_len hw.n3 hw.m4
  refine CallH.body 13 [.tmp 4] Tryz.func79 (by kernel_rfl) rfl rfl rfl ?_
  refine Tr.reg [1, 2, 4] (by
      simp only [↓sxd, sxu, ↓zE, ↓exq, ↓zM, Nat.reduceBEq, Nat.reduceAdd, Nat.reduceLT, Nat.reduceEqDiff]
      (all_goals try exact zF)) ?_
  refine Tr.seq ?_
  refine Tr.reg [2, 4, 6] (by
      simp only [↓sxd, sxu, ↓zE, ↓exq, Nat.reduceBEq, Nat.reduceLT]
      (all_goals try exact zF)) ?_
  refine Tr.block ?_
  refine Tr.rangeF2 rfl (fun fn ca cb has hbd => ?_)
  try dsimp only
  refine CallH.mono (cells1_h hw (fun _ => True) trivial (fun gs => (3, .loop fn _ _ _ ca cb .ready none 0) :: (2, .arr 1 [[.slc (idA gs) 2 0 (appL l gs).length (appL l gs).length]]) :: (1, .arr 1 [[.dp w.d]]) :: (idA gs, .arr 2 (vC (appL l gs))) :: []) (fun gs => 4 + 2 * gs.length) 1 3 (fun gs => rfl) ?_) ?_
  · intro gs q ts hgs _
    obtain ⟨z, hz⟩ : ∃ z, z = 4 + 2 * gs.length := ⟨_, rfl⟩
    have hi := idA_lt gs
    have hgl : gs.length ≤ 12 := by
      have := congrArg List.length hgs
      rw [List.length_append] at this; omega
    have hal : (appL l gs).length = l.length + gs.length := by rw [appL_eq, List.length_append]
    have hsn := idA_snoc gs q
    have han : appL l (gs ++ [q]) = appL l gs ++ [q] := by rw [appL_eq, appL_eq, List.append_assoc]
    try dsimp only
    rw [← hz] at hi hsn ⊢
    generalize idA gs = i at hi
    generalize appL l gs = L at hal han
    refine RoundH.of_body2 has hbd List.lookup_cons_self rfl (fun t ht => by simp at ht; subst ht; decide) (fun ro => ?_)
    refine Tr.reg1 [2, 5] (by
        simp only [↓sxd, sxu, ↓zE, ↓exq, ↓zN, Nat.reduceBEq, Nat.reduceAdd, Nat.reduceLT, Nat.reduceEqDiff, tysH17_79, bindT]
        (all_goals try exact zF)) ?_
    refine ⟨rfl, none, _, lookup_2nd (beq_eq_false_iff_ne.2 (by omega)), ?_⟩
    try dsimp only
    rw [upd_2nd (by omega)]
    refine Tr.block ?_
    refine Tr.post ?_
    have e2 : (2 == z) = false := beq_eq_false_iff_ne.2 (by omega)
    have e3 : (2 == z + 1) = false := beq_eq_false_iff_ne.2 (by omega)
    have f1 : (i == z) = false := beq_eq_false_iff_ne.2 (by omega)
    have f2 : (i == 3) = false := beq_eq_false_iff_ne.2 (by omega)
    have f3 : (i == 2) = false := beq_eq_false_iff_ne.2 (by omega)
    have f4 : (i == 1) = false := beq_eq_false_iff_ne.2 (by omega)
    have d1 : (z = i) = False := eq_false (by omega)
    have d2 : (3 = i) = False := eq_false (by omega)
    have d3 : (2 = i) = False := eq_false (by omega)
    have d4 : (1 = i) = False := eq_false (by omega)
    have s1 : (z + 1 = 2) = False := eq_false (by omega)
    have s2 : (z = 2) = False := eq_false (by omega)
    have hk : (L.length + 1 ≤ 1073741824) = True := eq_true (by omega)
    refine Tr.reg1 [] (by
        simp only [↓sxd, sxu, ↓zE, ↓exq, ↓zB, ↓zD, ↓zG, ↓zQ, Nat.reduceBEq, Nat.reduceAdd, Nat.reduceLT, Nat.reduceLeDiff, Nat.reduceEqDiff, tysH17_79, e2, e3, f1, f2, f3, f4, d1, d2, d3, d4, s1, s2, vC_len, hk]
        (all_goals try exact zF)) ?_
    refine ⟨_, Imp.trans (Imp.weak (tm' := []) (fun _ _ h => by cases h) (.cons_cons _ (.cons _ (.refl _))) (Nat.le_refl _)) (Imp.perm (hp' := [(3, _), (2, _), (1, _), (z + 1, _)]) (List.perm_append_comm (l₁ := [_, _, _]) (l₂ := [_]))), _, _, _, _, _, _, _, _, _, List.lookup_cons_self, ?_⟩
    refine ⟨rfl, trivial, ?_, ?_⟩
    · rw [upd_head, hsn, han, vC_snoc', List.length_append]
      rfl
    · rw [List.length_append, List.length_singleton, hz]
      show 4 + 2 * gs.length + 1 + 1 = _
      omega
  rintro r' hp' nx' ⟨-, rfl, rfl⟩
  refine ⟨_, .ready, none, List.lookup_cons_self, by decide, ?_⟩
  try dsimp only
  rw [upd_head]
  refine Tr.reg [4] (by
      simp only [↓sxd, sxu, ↓zE, ↓exq, ↓zD, Nat.reduceBEq, Nat.reduceLT, tysH17_79]
      (all_goals try exact zF)) ?_
  have hr : (fun i => if i < 2 then i else if i = 2 then idA w.cells else i + 2 * w.cells.length + 1) (if w.cells = [] then 0 else 2) = idA w.cells := by
    by_cases h : w.cells = []
    · rw [if_pos h, h]; rfl
    · rw [if_neg h]; rfl
  refine Tr.imp (Imp.go (tm' := [(4, .slc (if w.cells = [] then 0 else 2) 2 0 (appL l w.cells).length (appL l w.cells).length)]) (nx' := 3) (hp'' := [(1, .arr 1 [[.dp w.d]]), (if w.cells = [] then 0 else 2, .arr 2 (vC (appL l w.cells)))]) (fun i => if i < 2 then i else if i = 2 then idA w.cells else i + 2 * w.cells.length + 1) [(1, _), (idA w.cells, _)] rfl rfl (.cons _ (.cons _ (.refl _))) (fun id h => if_pos h) (fun id h => by rw [if_neg (by omega), if_neg (by omega)]; show 4 + 2 * w.cells.length ≤ _; omega) (.cons rfl (TnS.slc hr) trivial) (.cons ⟨rfl, TnO.arr zT⟩ (.cons ⟨hr.symm, TnO.arr (vC_tn _)⟩ .nil)) (df' := [0]) (fun h => by cases h)) ?_
  refine Tr.ret ?_
  exact ⟨.inr rfl, _, rfl, rfl, rfl, rfl⟩
theorem sortC_h (l : List HC) (hlen : l.length ≤ 12) (k : Nat) (hk : k = l.length) (hp : HpT) (nx id : Nat) (hL : hp.lookup id = some (.arr 2 (vC l))) : CallH Tryz.prog G0 81 [.slc id 2 0 k k, .clo (.func 82) [] []] hp nx (fun _ hp' nx' => hp' = upd hp id (.arr 2 (vC (isort8 l))) ∧ nx' = nx) := by
  subst hk; exact sort_h l hlen hp nx id hL
abbrev tysH17_52 := And.intro ty.sz0 <| And.intro ty.agg0 <| And.intro ty.elem0 <| And.intro ty.sz34 <| And.intro ty.agg34 <| And.intro ty.elem34 <| And.intro ty.by34 <| And.intro ty.ez34 <| And.intro ty.zero34 <| And.intro ty.und34 <| And.intro ty.sz83 <| And.intro ty.agg83 <| And.intro ty.elem83 <| And.intro ty.zero83 <| And.intro ty.sz99 <| And.intro ty.agg99 <| And.intro ty.elem99 <| ty.zero99
theorem with_c {w : HW} {n m : Nat} (hw : w.Ok n m) (l : List HC) (hlen : (l ++ w.cells).length ≤ 12) : CallP Tryz.prog G0 52 [.dp w.d, SC l] (SC (w.with l)) := by
  have hl : l.length ≤ 12 := by rw [List.length_append] at hlen; omega
  refine CallP.body 14 [.tmp 4] Tryz.func52 (by kernel_rfl) rfl rfl rfl zP zP ?_
  refine Tr.reg [0, 1] (by
      simp only [↓sxd, sxu, ↓zE, ↓exq, Nat.reduceBEq, Nat.reduceAdd, Nat.reduceLT]
      (all_goals try exact zF)) ?_
  refine Tr.reg [5] (by
      simp only [↓sxd, sxu, ↓zE, ↓exq, Nat.reduceBEq, Nat.reduceLT]
      (repeat ((with_reducible refine And.intro ?_ ?_); (focus (exact zS))))
      refine CallH.mono (cloneC_h l (by omega) _ _) ?_
      rintro r' hp' nx' ⟨rfl, rfl, rfl⟩
      try simp only [↓sxd, sxu, ↓zE, ↓exq, Nat.reduceBEq, Nat.reduceLT]
      (repeat ((with_reducible refine And.intro ?_ ?_); (focus (exact zS))))
      refine CallH.mono (cells_h _ _ w.d) ?_
      rintro r' hp' nx' ⟨rfl, rfl, rfl⟩
      try simp only [↓sxd, sxu, ↓zE, Nat.reduceBEq, Nat.reduceAdd, Nat.reduceLT]
      (repeat ((with_reducible refine And.intro ?_ ?_); (focus (exact zS))))
      refine CallH.mono (appendSeq_h hw l (by omega)) ?_
      rintro r' hp' nx' ⟨rfl, rfl, rfl⟩
      try simp only [↓sxd, sxu, ↓zE, ↓exq, Nat.reduceLT]
      (all_goals try exact zF)) ?_
  have hi : (if w.cells = [] then 0 else 2) ≠ 1 := by split <;> decide
  have hal : appL l w.cells = l ++ w.cells := appL_eq _ _
  rw [hal]
  generalize (if w.cells = [] then 0 else 2) = i at hi
  have hlk : List.lookup i [(1, (.arr 1 [[.dp w.d]] : Sy.Obj)), (i, .arr 2 (vC (l ++ w.cells)))] = some (.arr 2 (vC (l ++ w.cells))) := lookup_2nd (beq_eq_false_iff_ne.2 hi)
  refine Tr.reg [5] (by
      simp only [↓sxd, sxu, ↓zE, ↓exq, Nat.reduceLT]
      (repeat ((with_reducible refine And.intro ?_ ?_); (focus (exact zS))))
      refine CallH.mono (sortC_h (l ++ w.cells) hlen (l.length + w.cells.length) (List.length_append ..).symm _ _ i hlk) ?_
      rintro r' hp' nx' ⟨rfl, rfl⟩
      try simp only [↓sxd, sxu, Nat.reduceBEq]
      (all_goals try exact zF)) ?_
  rw [if_neg (Ne.symm hi)]
  refine Tr.imp (Imp.fin (tm' := [(5, SC (w.with l))]) (.cons rfl (TnS.frz0 (es := vC (isort8 (l ++ w.cells))) (lookup_2nd (beq_eq_false_iff_ne.2 hi)) (by simp) (by decide) (by rw [vC_len, isort8_len, List.length_append]) (vC_fz _)) trivial)) ?_
  refine Tr.reg [4] (by
      simp only [↓sxd, sxu, ↓zE, ↓exq, Nat.reduceLT]
      (all_goals try exact zF)) ?_
  refine Tr.ret ?_
  (refine ⟨.inr rfl, ?_⟩; first | rfl | exact ⟨rfl, rfl, trivial⟩ | exact ⟨rfl, rfl, rfl, trivial⟩ | (simp only [Res, ResL, ResOK, ↓sxd, sxu, ↓zE, ↓zC, zJ, ↓exP, ↓exq, ↓zB, ↓zK, Nat.reduceBEq, Nat.reduceAdd, Nat.reduceLT, Nat.reduceMul, Nat.reduceSub, Nat.reduceLeDiff, Nat.reduceEqDiff, Int.reduceLE, Int.reduceLT, Int.reduceToNat, reduceIte, sxe, tysH17_52]; (repeat' (first | rfl | exact trivial | exact fun h => h | exact fun h => (by rw [h]; rfl) | apply And.intro | omega | exact Nat.le_of_ble_eq_true rfl))))
end Go.Proofs.YtijechcadlklhaaGreat
