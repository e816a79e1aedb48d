/- Lemmas, part ZABA. Conditions: none. -/
import Derived.Test.YtijechcadlklhaaGreatZAY
import Derived.Test.YtijechcadlklhaaGreatZAZ
set_option linter.unusedVariables false
namespace Go.Proofs.YtijechcadlklhaaGreat
open Go.Sy
set_option maxRecDepth 8000
def vQ (l : List HQ) : List (List SV) := l.map fun q => [I q.cell.row, I q.cell.col, I q.below, I q.above]
theorem vQ_len (l : List HQ) : (vQ l).length = l.length := by simp [vQ]
theorem vQ_tn {r : Nat → Nat} {hp hp' : HpT} (l : List HQ) : F2 (F2 (TnS r hp hp')) (vQ l) (vQ l) := F2.map fun _ _ => .cons (TnS.d _) (.cons (TnS.d _) (.cons (TnS.d _) (.cons (TnS.d _) .nil)))
theorem vQ_fz {r : Nat → Nat} {hp hp' : HpT} (l : List HQ) : F2 (F2 fun s x => TnS r hp hp' s (.d x)) (vQ l) (dQ l) := by
  rw [dQ]; exact F2.map fun _ _ => .cons (TnS.d _) (.cons (TnS.d _) (.cons (TnS.d _) (.cons (TnS.d _) .nil)))
theorem vQ_snoc {l : List HQ} {k : Nat} (h : k < l.length) : vQ (l.take (k + 1)) = vQ (l.take k) ++ [[I (l.getD k default).cell.row, I (l.getD k default).cell.col, I (l.getD k default).below, I (l.getD k default).above]] := by
  rw [List.take_succ_eq_append_getElem h, show l[k] = l.getD k default by simp [List.getD_eq_getElem?_getD, h]]
  unfold vQ
  rw [List.map_append]
  rfl
abbrev tysH28_15 := And.intro ty.sz0 <| And.intro ty.agg0 <| And.intro ty.elem0 <| And.intro ty.sz3 <| And.intro ty.agg3 <| And.intro ty.elem3 <| And.intro ty.zero3 <| And.intro ty.und3 <| And.intro ty.sz4 <| And.intro ty.agg4 <| And.intro ty.elem4 <| And.intro ty.zero4 <| And.intro ty.und4 <| And.intro ty.sz26 <| And.intro ty.agg26 <| And.intro ty.elem26 <| And.intro ty.by26 <| And.intro ty.ez26 <| And.intro ty.zero26 <| And.intro ty.und26 <| And.intro ty.sz36 <| And.intro ty.agg36 <| And.intro ty.elem36 <| And.intro ty.by36 <| And.intro ty.ez36 <| And.intro ty.zero36 <| And.intro ty.und36 <| And.intro ty.sz41 <| And.intro ty.agg41 <| And.intro ty.fld41_0 <| And.intro ty.fld41_1 <| And.intro ty.elem41 <| And.intro ty.zero41 <| And.intro ty.pl41 <| And.intro ty.sz43 <| And.intro ty.agg43 <| And.intro ty.fld43_0 <| And.intro ty.fld43_1 <| And.intro ty.fld43_2 <| And.intro ty.elem43 <| And.intro ty.zero43 <| And.intro ty.pl43 <| And.intro ty.sz79 <| And.intro ty.agg79 <| And.intro ty.fld79_0 <| And.intro ty.fld79_1 <| And.intro ty.elem79 <| And.intro ty.zero79 <| And.intro ty.pl79 <| And.intro ty.sz88 <| And.intro ty.agg88 <| And.intro ty.fld88_0 <| And.intro ty.fld88_1 <| And.intro ty.fld88_2 <| And.intro ty.elem88 <| And.intro ty.zero88 <| ty.pl88
theorem Requests_c (l : List HQ) (hl : l.length ≤ 1000) : CallP Tryz.prog G0 15 [SQ l] (SQ l) := by
  refine CallP.body 32 [.tmp 2] Tryz.func15 (by kernel_rfl) rfl rfl rfl zP zP ?_
  refine Tr.reg [0] (by
      simp only [↓sxd, sxu, ↓zE, ↓exq, Nat.reduceBEq, Nat.reduceLT]
      (all_goals try exact zF)) ?_
  refine Tr.reg [0, 3] (by
      simp only [↓sxd, sxu, ↓zE, ↓exq, Nat.reduceBEq, Nat.reduceLT]
      (all_goals try exact zF)) ?_
  refine Tr.seq ?_
  refine Tr.reg [0, 3, 4] (by
      simp only [↓sxd, sxu, ↓zE, ↓exq, Nat.reduceBEq, Nat.reduceLT]
      (all_goals try exact zF)) ?_
  refine Tr.imp (st' := ⟨[(0, SQ l), (3, .slc 0 4 0 0 0), (4, I 0)], [(0, .arr 4 (vQ (l.take 0)))], 1, 32, [], 0⟩) (Imp.goV 4 rfl rfl rfl rfl (by repeat' (first | exact trivial | exact F2.nil | refine F2.cons ?_ ?_ | refine TmV.cons rfl VnS.nil ?_ | refine TmV.cons rfl VnS.same ?_ | refine ⟨rfl, ?_⟩ | exact VnO.same _ | refine VnO.arr ?_ | exact VnS.nil | exact VnS.same | exact F2.refl fun _ _ => VnS.same)) (by repeat' (first | exact trivial | exact F2.nil | refine F2.cons ?_ ?_ | refine TmV.cons rfl VnS.nil ?_ | refine TmV.cons rfl VnS.same ?_ | refine ⟨rfl, ?_⟩ | exact VnO.same _ | refine VnO.arr ?_ | exact VnS.nil | exact VnS.same | exact F2.refl fun _ _ => VnS.same))) (Tr.block (Tr.loopI (fun mm ss => ∃ (k : Nat), (k ≤ l.length) ∧ l.length - k = mm ∧ ss = ⟨[(0, SQ l), (3, .slc 0 4 0 k k), (4, I k)], [(0, .arr 4 (vQ (l.take k)))], 1, 32, [], 0⟩) _ ⟨0, ?_, rfl, rfl⟩ ?_))
  · exact Nat.zero_le _
  rintro mm ss ⟨k, hI, rfl, rfl⟩
  refine Tr.seq ?_
  refine Tr.reg [0, 3, 4, 8] (by
      simp only [↓sxd, sxu, ↓zE, ↓exq, ↓zA, ↓zK, Nat.reduceBEq, Nat.reduceLT, sxe, tysH28_15]
      (all_goals try exact zF)) ?_
  refine Tr.cond rfl (fun h8 => ?_) (fun h8 => ?_)
  · have hlt : k < l.length := by simpa using h8
    have htl : (l.take k).length = k := by rw [List.length_take]; omega
    refine Tr.skip ?_
    refine Tr.seq ?_
    refine Tr.block ?_
    have hk2 : (k + 1 ≤ 1073741824) = True := eq_true (by omega)
    refine Tr.regD1 [0, 1, 2, 3, 4, 5, 6, 7, 8, 9, 10, 11, 12, 13, 14, 15, 16, 17, 18, 19, 20] [19] [] [0, 3, 4] mix (by kernel_rfl) (by
        simp only [↓sxd, sxu, ↓zB, zI, ↓exq, ↓zD, ↓zC, Nat.reduceBEq, Nat.reduceAdd, Nat.reduceLT, Nat.reduceLeDiff, Nat.reduceEqDiff, sxe, tysH28_15, hlt]
        (repeat ((with_reducible refine And.intro ?_ ?_); (focus (exact zS))))
        refine CallD.use (lcell_c (l.getD k default).cell) ?_
        try simp only [↓sxd, sxu, ↓zB, zI, ↓exq, ↓zA, ↓zD, ↓zQ, ↓zG, ↓zO, ↓zC, Nat.reduceBEq, Nat.reduceAdd, Nat.reduceLT, Nat.reduceLeDiff, Nat.reduceEqDiff, sxe, tysH28_15, hlt, vQ_len, htl, hk2]
        (all_goals try exact zF)) ?_
    have w1 := add1 (show k < 4611686018427387904 by omega)
    refine Tr.reg1 [0, 3, 4] (by
        simp only [↓sxd, sxu, ↓zE, ↓exq, Nat.reduceBEq, Nat.reduceLT, w1]
        (all_goals try exact zF)) ?_
    refine ⟨_, _, ?_, ?_, ⟨k + 1, hlt, rfl, rfl⟩⟩
    · omega
    · rw [vQ_snoc hlt]
      exact Imp.go (fun i => i + 1) _ rfl rfl (List.Sublist.refl _) (fun _ h => absurd h (Nat.not_lt_zero _)) (fun id h => Nat.succ_le_succ h) zT (.cons ⟨rfl, TnO.arr (F2.append (vQ_tn _) (.cons (.cons (TnS.d _) (.cons (TnS.d _) (.cons (TnS.d _) (.cons (TnS.d _) .nil)))) .nil))⟩ .nil) (fun h => h)
  · have hge : k = l.length := by simp at h8; omega
    subst hge
    rw [List.take_length]
    refine Tr.exit ?_
    refine Tr.imp (Imp.fin (tm' := [(3, SQ l)]) (.cons rfl (TnS.frz0 (es := vQ l) rfl (by simp) (by simp) (vQ_len _) (vQ_fz _)) trivial)) ?_
    refine Tr.reg [2] (by
        simp only [↓sxd, sxu, ↓zE, ↓exq, Nat.reduceLT]
        (all_goals try exact zF)) ?_
    refine Tr.ret ?_
    (refine ⟨.inr rfl, ?_⟩; first | rfl | exact ⟨rfl, rfl, trivial⟩ | exact ⟨rfl, rfl, rfl, trivial⟩ | (simp only [Res, ResL, ResOK, ↓sxd, sxu, ↓zE, ↓zB, zI, ↓exP, ↓exq, ↓zA, ↓zJ, ↓zK, ↓zD, ↓zQ, ↓zG, ↓zO, ↓zC, Nat.reduceBEq, Nat.reduceAdd, Nat.reduceLT, Nat.reduceMul, Nat.reduceSub, Nat.reduceLeDiff, Nat.reduceEqDiff, Int.reduceLE, Int.reduceLT, Int.reduceToNat, reduceIte, sxe, tysH28_15]; (repeat' (first | rfl | exact trivial | exact fun h => h | exact fun h => (by rw [h]; rfl) | apply And.intro | omega | exact Nat.le_of_ble_eq_true rfl))))
abbrev tysH28_47 := And.intro ty.sz0 <| And.intro ty.agg0 <| And.intro ty.elem0 <| And.intro ty.sz3 <| And.intro ty.agg3 <| And.intro ty.elem3 <| And.intro ty.zero3 <| And.intro ty.und3 <| And.intro ty.sz4 <| And.intro ty.agg4 <| And.intro ty.elem4 <| And.intro ty.zero4 <| And.intro ty.und4 <| And.intro ty.sz24 <| And.intro ty.agg24 <| And.intro ty.fld24_0 <| And.intro ty.fld24_1 <| And.intro ty.elem24 <| And.intro ty.zero24 <| And.intro ty.pl24 <| And.intro ty.sz26 <| And.intro ty.agg26 <| And.intro ty.elem26 <| And.intro ty.by26 <| And.intro ty.ez26 <| And.intro ty.zero26 <| And.intro ty.und26 <| And.intro ty.sz41 <| And.intro ty.agg41 <| And.intro ty.fld41_0 <| And.intro ty.fld41_1 <| And.intro ty.elem41 <| And.intro ty.zero41 <| And.intro ty.pl41 <| And.intro ty.sz43 <| And.intro ty.agg43 <| And.intro ty.fld43_0 <| And.intro ty.fld43_1 <| And.intro ty.fld43_2 <| And.intro ty.elem43 <| And.intro ty.zero43 <| ty.pl43
theorem RequestsFault_c (t : HT) (l : List HQ) (hs : small8 t.rows) (h0 : 0 < t.rows.length) (hl : l.length ≤ 1000) : CallP Tryz.prog G0 47 [t.s, SQ l] (I (if l.length > 8 then 3 else if l.all t.okQ = false then 2 else 0)) := by
  refine CallP.body 41 [.tmp 4] Tryz.func47 (by kernel_rfl) rfl rfl rfl zP zP ?_
  refine Tr.reg [1, 2] (by
      simp only [↓sxd, sxu, ↓zE, ↓exq, ↓zM, Nat.reduceBEq, Nat.reduceAdd, Nat.reduceLT, Nat.reduceEqDiff]
      (all_goals try exact zF)) ?_
  refine Tr.seq ?_
  refine Tr.reg [1, 2, 8] (by
      simp only [↓sxd, sxu, ↓zE, ↓exq, ↓zA, ↓zK, Nat.reduceBEq, Nat.reduceLT, sxe, tysH28_47]
      (all_goals try exact zF)) ?_
  refine Tr.cond rfl (fun h8 => ?_) (fun h8 => ?_)
  · have hgt : l.length > 8 := by have := of_decide_eq_true h8; omega
    rw [if_pos hgt]
    refine Tr.reg [4] (by
        simp only [↓sxd, sxu, ↓zE, ↓exq, Nat.reduceLT]
        (all_goals try exact zF)) ?_
    refine Tr.ret ?_
    (refine ⟨.inr rfl, ?_⟩; first | rfl | exact ⟨rfl, rfl, trivial⟩ | exact ⟨rfl, rfl, rfl, trivial⟩ | (simp only [Res, ResL, ResOK, ↓sxd, sxu, ↓zE, ↓zB, zI, ↓exP, ↓exq, ↓zA, ↓zH, ↓zJ, ↓zK, ↓zD, ↓zM, ↓zC, Nat.reduceBEq, Nat.reduceAdd, Nat.reduceLT, Nat.reduceMul, Nat.reduceSub, Nat.reduceLeDiff, Nat.reduceEqDiff, Int.reduceLE, Int.reduceLT, Int.reduceToNat, reduceIte, sxe, tysH28_47]; (repeat' (first | rfl | exact trivial | exact fun h => h | exact fun h => (by rw [h]; rfl) | apply And.intro | omega | exact Nat.le_of_ble_eq_true rfl))))
  · have hle : ¬ l.length > 8 := by have := of_decide_eq_false h8; omega
    rw [if_neg hle]
    refine Tr.skip ?_
    refine Tr.seq ?_
    refine Tr.reg [1, 2, 5] (by
        simp only [↓sxd, sxu, ↓zE, ↓exq, Nat.reduceBEq, Nat.reduceLT]
        (all_goals try exact zF)) ?_
    refine Tr.imp (st' := ⟨[(1, SQ l), (2, .ptr 0 0 0), (5, I 0)], [(0, tbx t)], 1, 41, [], 0⟩) (Imp.keepAll) (Tr.block (Tr.loopI (fun mm ss => ∃ (k : Nat), (k ≤ l.length ∧ ∀ j, j < k → t.okQ (l.getD j default) = true) ∧ l.length - k = mm ∧ ss = ⟨[(1, SQ l), (2, .ptr 0 0 0), (5, I k)], [(0, tbx t)], 1, 41, [], 0⟩) _ ⟨0, ?_, rfl, rfl⟩ ?_))
    · exact ⟨Nat.zero_le _, fun j hj => by omega⟩
    rintro mm ss ⟨k, hI, rfl, rfl⟩
    obtain ⟨hk, hall⟩ := hI
    refine Tr.seq ?_
    refine Tr.reg [1, 2, 5, 12] (by
        simp only [↓sxd, sxu, ↓zE, ↓exq, ↓zA, ↓zK, Nat.reduceBEq, Nat.reduceLT, sxe, tysH28_47]
        (all_goals try exact zF)) ?_
    refine Tr.cond rfl (fun h12 => ?_) (fun h12 => ?_)
    · have hlt : k < l.length := by simpa using h12
      refine Tr.skip ?_
      refine Tr.seq ?_
      refine Tr.block ?_
      refine Tr.regD [0, 1, 2, 3, 4, 5, 6, 7, 8, 9, 10, 11, 12, 13, 14, 15, 16, 17, 18, 19, 20, 21, 22, 23, 24, 25] [] [] [1, 2, 5, 40] mix (by kernel_rfl) (by
          simp only [↓sxd, sxu, ↓zB, zI, ↓exq, ↓zD, ↓zC, Nat.reduceBEq, Nat.reduceAdd, Nat.reduceLT, Nat.reduceLeDiff, Nat.reduceEqDiff, sxe, tysH28_47, hlt]
          (repeat ((with_reducible refine And.intro ?_ ?_); (focus (exact zS))))
          refine CallD.use (IsCell_c t (l.getD k default).cell hs h0) ?_
          try simp only [↓sxd, sxu, ↓zB, zI, ↓exq, ↓zJ, Nat.reduceLT]
          iterate 5
            (repeat ((with_reducible refine And.intro ?_ ?_); (focus (exact zS))))
            refine GdD.mk _ (fun hg => by simp only [↓sxd, sxu, ↓exP, ↓exq, ↓zD, ↓zC, Nat.reduceBEq, Nat.reduceAdd, Nat.reduceLT, Nat.reduceEqDiff, sxe, tysH28_47, hlt, hg]; (all_goals try exact zF)) ?_
            simp only [↓sxd, sxu, ↓zB, zI, Nat.reduceBEq, Nat.reduceLT]
          (repeat ((with_reducible refine And.intro ?_ ?_); (focus (exact zS))))
          refine GdD.mk _ (fun hg => by simp only [sxu, ↓exP, hg]; first | exact In_c _ _ _ | exact ⟨In_c _ _ _, rfl, rfl⟩ | exact ⟨In_c _ _ _, trivial⟩ | exact ⟨In_c _ _ _, trivial, trivial⟩) ?_
          simp only [↓sxd, sxu, ↓zB, zI, Nat.reduceBEq, Nat.reduceLT]
          iterate 6
            (repeat ((with_reducible refine And.intro ?_ ?_); (focus (exact zS))))
            refine GdD.mk _ (fun hg => by simp only [↓sxd, sxu, ↓exP, ↓exq, ↓zJ, ↓zD, ↓zC, Nat.reduceBEq, Nat.reduceAdd, Nat.reduceLT, Nat.reduceEqDiff, sxe, tysH28_47, hlt, hg]; (all_goals try exact zF)) ?_
            simp only [↓sxd, sxu, ↓zB, zI, ↓exq, ↓zH, Nat.reduceBEq, Nat.reduceLT]
          (repeat ((with_reducible refine And.intro ?_ ?_); (focus (exact zS))))
          refine GdD.mk _ (fun hg => by simp only [sxu, ↓exP, hg]; first | exact In_c _ _ _ | exact ⟨In_c _ _ _, rfl, rfl⟩ | exact ⟨In_c _ _ _, trivial⟩ | exact ⟨In_c _ _ _, trivial, trivial⟩) ?_
          simp only [↓sxd, sxu, ↓zB, zI, Nat.reduceBEq, Nat.reduceLT]
          (repeat ((with_reducible refine And.intro ?_ ?_); (focus (exact zS))))
          refine GdD.mk _ (fun hg => by simp only [sxu, ↓exP, ↓exq, ↓zJ, hg]; (all_goals try exact zF)) ?_
          simp only [↓sxd, sxu, ↓zB, ↓exq, ↓zH, Nat.reduceBEq, Nat.reduceLT]
          (all_goals try exact zF)) ?_
      refine Tr.cond rfl (fun h40 => ?_) (fun h40 => ?_)
      · have hb : t.okQ (l.getD k default) = false := by
          unfold HT.okQ
          revert h40
          cases t.isCell (l.getD k default).cell <;> cases inR (l.getD k default).below 0 1000 <;> cases inR (l.getD k default).above 0 1000 <;> simp
        rw [if_pos (all_at default hlt hb)]
        refine Tr.reg [4] (by
            simp only [↓sxd, sxu, ↓zE, ↓exq, Nat.reduceLT]
            (all_goals try exact zF)) ?_
        refine Tr.ret ?_
        (refine ⟨.inr rfl, ?_⟩; first | rfl | exact ⟨rfl, rfl, trivial⟩ | exact ⟨rfl, rfl, rfl, trivial⟩ | (simp only [Res, ResL, ResOK, ↓sxd, sxu, ↓zE, ↓zB, zI, ↓exP, ↓exq, ↓zA, ↓zH, ↓zJ, ↓zK, ↓zD, ↓zM, ↓zC, Nat.reduceBEq, Nat.reduceAdd, Nat.reduceLT, Nat.reduceMul, Nat.reduceSub, Nat.reduceLeDiff, Nat.reduceEqDiff, Int.reduceLE, Int.reduceLT, Int.reduceToNat, reduceIte, sxe, tysH28_47]; (repeat' (first | rfl | exact trivial | exact fun h => h | exact fun h => (by rw [h]; rfl) | apply And.intro | omega | exact Nat.le_of_ble_eq_true rfl))))
      · have hb : t.okQ (l.getD k default) = true := by
          unfold HT.okQ
          simpa [Bool.or_eq_false_iff, Bool.and_eq_true] using h40
        refine Tr.skip ?_
        have w1 := add1 (show k < 4611686018427387904 by omega)
        refine Tr.reg1 [1, 2, 5] (by
            simp only [↓sxd, sxu, ↓zE, ↓exq, Nat.reduceBEq, Nat.reduceLT, w1]
            (all_goals try exact zF)) ?_
        refine ⟨_, _, by omega, Imp.keepAll, ⟨k + 1, ⟨hlt, fun j hj => ?_⟩, rfl, rfl⟩⟩
        by_cases e : j < k
        · exact hall j e
        · rw [show j = k by omega]; exact hb
    · have hge : k = l.length := by simp at h12; omega
      rw [if_neg (by rw [all_full default fun i hi => hall i (by omega)]; decide)]
      refine Tr.exit ?_
      refine Tr.reg [4] (by
          simp only [↓sxd, sxu, ↓zE, ↓exq, Nat.reduceLT]
          (all_goals try exact zF)) ?_
      refine Tr.ret ?_
      (refine ⟨.inr rfl, ?_⟩; first | rfl | exact ⟨rfl, rfl, trivial⟩ | exact ⟨rfl, rfl, rfl, trivial⟩ | (simp only [Res, ResL, ResOK, ↓sxd, sxu, ↓zE, ↓zB, zI, ↓exP, ↓exq, ↓zA, ↓zH, ↓zJ, ↓zK, ↓zD, ↓zM, ↓zC, Nat.reduceBEq, Nat.reduceAdd, Nat.reduceLT, Nat.reduceMul, Nat.reduceSub, Nat.reduceLeDiff, Nat.reduceEqDiff, Int.reduceLE, Int.reduceLT, Int.reduceToNat, reduceIte, sxe, tysH28_47]; (repeat' (first | rfl | exact trivial | exact fun h => h | exact fun h => (by rw [h]; rfl) | apply And.intro | omega | exact Nat.le_of_ble_eq_true rfl))))
abbrev tysH28_16 := And.intro ty.sz0 <| And.intro ty.agg0 <| And.intro ty.elem0 <| And.intro ty.sz3 <| And.intro ty.agg3 <| And.intro ty.elem3 <| And.intro ty.zero3 <| And.intro ty.und3 <| And.intro ty.sz4 <| And.intro ty.agg4 <| And.intro ty.elem4 <| And.intro ty.zero4 <| And.intro ty.und4 <| And.intro ty.sz24 <| And.intro ty.agg24 <| And.intro ty.fld24_0 <| And.intro ty.fld24_1 <| And.intro ty.elem24 <| And.intro ty.zero24 <| And.intro ty.pl24 <| And.intro ty.sz25 <| And.intro ty.agg25 <| And.intro ty.elem25 <| And.intro ty.by25 <| And.intro ty.ez25 <| And.intro ty.zero25 <| And.intro ty.und25 <| And.intro ty.sz26 <| And.intro ty.agg26 <| And.intro ty.elem26 <| And.intro ty.by26 <| And.intro ty.ez26 <| And.intro ty.zero26 <| And.intro ty.und26 <| And.intro ty.sz29 <| And.intro ty.agg29 <| And.intro ty.elem29 <| And.intro ty.zero29 <| ty.und29
theorem lasked_c (t : HT) (l : List HC) (q : List HQ) (hs : small8 t.rows) (hl : l.length ≤ 1000) (hq : q.length ≤ 1000) : CallP Tryz.prog G0 16 [t.s, SC l, SQ q] (I (t.askE l q)) := by
  refine CallP.body 17 [.tmp 6] Tryz.func16 (by kernel_rfl) rfl rfl rfl zP zP ?_
  refine Tr.reg [1, 2, 3] (by
      simp only [↓sxd, sxu, ↓zE, ↓exq, ↓zM, Nat.reduceBEq, Nat.reduceAdd, Nat.reduceLT, Nat.reduceEqDiff]
      (all_goals try exact zF)) ?_
  refine Tr.seq ?_
  refine Tr.reg [2, 3, 7] (by
      simp only [↓sxd, sxu, ↓zE, ↓exq, ↓zD, Nat.reduceBEq, Nat.reduceAdd, Nat.reduceLT, tysH28_16]
      (repeat ((with_reducible refine And.intro ?_ ?_); (focus (exact zS))))
      refine CallO.use (published_c t l hs hl) ?_
      try simp only [↓sxd, sxu, ↓zE, ↓exq, Nat.reduceBEq, Nat.reduceLT]
      (all_goals try exact zF)) ?_
  refine Tr.reg [2, 3, 7, 12] (by
      simp only [↓sxd, sxu, ↓zE, ↓exq, Nat.reduceBEq, Nat.reduceLT]
      (all_goals try exact zF)) ?_
  refine Tr.cond rfl (fun h12 => ?_) (fun h12 => ?_)
  · have hp : t.pub l ≠ 0 := by simpa using h12
    have hA : t.askE l q = t.pub l := by unfold HT.askE; rw [if_pos hp]
    rw [hA]
    refine Tr.reg [6] (by
        simp only [↓sxd, sxu, ↓zE, ↓exq, Nat.reduceBEq, Nat.reduceLT]
        (all_goals try exact zF)) ?_
    refine Tr.ret ?_
    (refine ⟨.inr rfl, ?_⟩; first | rfl | exact ⟨rfl, rfl, trivial⟩ | exact ⟨rfl, rfl, rfl, trivial⟩ | (simp only [Res, ResL, ResOK, ↓sxd, sxu, ↓zE, ↓zB, zI, ↓exP, ↓exq, ↓zA, ↓zJ, ↓zD, ↓zM, Nat.reduceBEq, Nat.reduceAdd, Nat.reduceLT, Nat.reduceMul, Nat.reduceSub, Nat.reduceLeDiff, Nat.reduceEqDiff, Int.reduceLE, Int.reduceLT, Int.reduceToNat, reduceIte, sxe, tysH28_16]; (repeat' (first | rfl | exact trivial | exact fun h => h | exact fun h => (by rw [h]; rfl) | apply And.intro | omega | exact Nat.le_of_ble_eq_true rfl))))
  · have hp : t.pub l = 0 := by simpa using h12
    have hA : t.askE l q = if q.length > 8 then 3 else if q.all t.okQ = false then 2 else 0 := by unfold HT.askE; rw [if_neg (by simp [hp])]
    rw [hA]
    have h0 : 0 < t.rows.length := (HT.check_ok (HT.pub_ok hp).1).n0
    refine Tr.skip ?_
    refine Tr.reg [6] (by
        simp only [↓sxd, sxu, ↓zE, ↓exq, ↓zD, Nat.reduceBEq, Nat.reduceAdd, Nat.reduceLT, tysH28_16]
        (repeat ((with_reducible refine And.intro ?_ ?_); (focus (exact zS))))
        refine CallO.use (RequestsFault_c t q hs h0 hq) ?_
        try simp only [↓sxd, sxu, ↓zE, ↓exq, Nat.reduceLT]
        (all_goals try exact zF)) ?_
    refine Tr.ret ?_
    (refine ⟨.inr rfl, ?_⟩; first | rfl | exact ⟨rfl, rfl, trivial⟩ | exact ⟨rfl, rfl, rfl, trivial⟩ | (simp only [Res, ResL, ResOK, ↓sxd, sxu, ↓zE, ↓zB, zI, ↓exP, ↓exq, ↓zA, ↓zJ, ↓zD, ↓zM, Nat.reduceBEq, Nat.reduceAdd, Nat.reduceLT, Nat.reduceMul, Nat.reduceSub, Nat.reduceLeDiff, Nat.reduceEqDiff, Int.reduceLE, Int.reduceLT, Int.reduceToNat, reduceIte, sxe, tysH28_16]; (repeat' (first | rfl | exact trivial | exact fun h => h | exact fun h => (by rw [h]; rfl) | apply And.intro | omega | exact Nat.le_of_ble_eq_true rfl))))
end Go.Proofs.YtijechcadlklhaaGreat
namespace Go.Proofs.YtijechcadlklhaaGreat
open Go.Sy
set_option maxRecDepth 8000
theorem thin_go {t : HT} {a : List HC} {b : List HQ} (h : (shortB t.rows && decide ((a.length : Int) ≤ 20) && decide ((b.length : Int) ≤ 11)) = true) : small8 t.rows ∧ a.length ≤ 1000 ∧ b.length ≤ 1000 := by
  simp only [Bool.and_eq_true, decide_eq_true_eq] at h
  obtain ⟨⟨h1, h2⟩, h3⟩ := h
  exact ⟨short_small h1, by omega, by omega⟩
end Go.Proofs.YtijechcadlklhaaGreat
namespace Go.Proofs.YtijechcadlklhaaGreat
open Go.Sy
set_option maxRecDepth 8000
abbrev tysZ2_17 := And.intro ty.sz0 <| And.intro ty.agg0 <| And.intro ty.elem0 <| And.intro ty.sz3 <| And.intro ty.agg3 <| And.intro ty.elem3 <| And.intro ty.zero3 <| And.intro ty.und3 <| And.intro ty.sz4 <| And.intro ty.agg4 <| And.intro ty.elem4 <| And.intro ty.zero4 <| And.intro ty.und4 <| And.intro ty.sz22 <| And.intro ty.agg22 <| And.intro ty.elem22 <| And.intro ty.by22 <| And.intro ty.ez22 <| And.intro ty.zero22 <| And.intro ty.und22 <| And.intro ty.sz24 <| And.intro ty.agg24 <| And.intro ty.fld24_0 <| And.intro ty.fld24_1 <| And.intro ty.elem24 <| And.intro ty.zero24 <| And.intro ty.pl24 <| And.intro ty.sz25 <| And.intro ty.agg25 <| And.intro ty.elem25 <| And.intro ty.by25 <| And.intro ty.ez25 <| And.intro ty.zero25 <| And.intro ty.und25 <| And.intro ty.sz41 <| And.intro ty.agg41 <| And.intro ty.fld41_0 <| And.intro ty.fld41_1 <| And.intro ty.elem41 <| And.intro ty.zero41 <| And.intro ty.pl41 <| And.intro ty.sz43 <| And.intro ty.agg43 <| And.intro ty.fld43_0 <| And.intro ty.fld43_1 <| And.intro ty.fld43_2 <| And.intro ty.elem43 <| And.intro ty.zero43 <| And.intro ty.pl43 <| And.intro ty.sz44 <| And.intro ty.agg44 <| And.intro ty.elem44 <| And.intro ty.by44 <| And.intro ty.ez44 <| And.intro ty.zero44 <| ty.und44
theorem Satisfied_c (t : HT) (l : List HC) (q : HQ) (hpub : t.pub l = 0) (hq : t.okQ q = true) : CallP Tryz.prog G0 17 [t.s, SC l, q.s] (B (satR t l q)) := by
  have hcell : t.isCell q.cell = true := by
    unfold HT.okQ at hq
    rw [Bool.and_eq_true, Bool.and_eq_true] at hq
    exact hq.1.1
  have hbnd : 0 ≤ q.below ∧ q.below ≤ 1000 ∧ 0 ≤ q.above ∧ q.above ≤ 1000 := by
    unfold HT.okQ at hq
    rw [Bool.and_eq_true, Bool.and_eq_true, inR_iff, inR_iff] at hq
    omega
  have htc := tcell_bnd hpub hcell
  have hsat : satR t l q = (canS t l q.cell (tcell t q.cell - q.below) && canS t l q.cell (tcell t q.cell + q.above)) := rfl
  have hC := fun v => Can_c t l q.cell v hpub hcell
  have hi := (HT.isCell_iff (n := t.rows.length) (m := (t.rows.getD 0 []).length) rfl rfl).1 hcell
  have hdim : Dim t.rows.length (t.rows.getD 0 []).length t.rows := (HT.w_ok hpub).dim
  obtain ⟨⟨row, col⟩, be, ab⟩ := q
  simp only at hi hbnd htc hC
  obtain ⟨r, rfl⟩ := Int.eq_ofNat_of_zero_le hi.1
  obtain ⟨c, rfl⟩ := Int.eq_ofNat_of_zero_le hi.2.2.1
  have hr : r < t.rows.length := by omega
  have hc : c < (t.rows.getD r []).length := by rw [hdim.2 r hr]; omega
  have htv : tcell t ⟨(r : Nat), (c : Nat)⟩ = (t.rows.getD r []).getD c 0 := rfl
  rw [htv] at hsat htc
  have w1 : IntKind.i64.wrap ((t.rows.getD r []).getD c 0 - be) = (t.rows.getD r []).getD c 0 - be := wr (by omega) (by omega)
  have w2 : IntKind.i64.wrap ((t.rows.getD r []).getD c 0 + ab) = (t.rows.getD r []).getD c 0 + ab := wr (by omega) (by omega)
  refine CallP.body 40 [.tmp 6] Tryz.func17 (by kernel_rfl) rfl rfl rfl zP zP ?_
  refine Tr.reg [1, 3, 5] (by
      simp only [↓sxd, sxu, ↓zE, ↓exq, ↓zM, Nat.reduceBEq, Nat.reduceAdd, Nat.reduceLT, Nat.reduceEqDiff]
      (all_goals try exact zF)) ?_
  refine Tr.regD [0, 1, 2, 3, 4, 5, 6, 7, 8, 9, 10, 11, 12] [] [] [1, 3, 5, 7] mix (by kernel_rfl) (by
      simp only [↓sxd, sxu, ↓zB, zI, ↓exq, ↓zD, ↓zC, Nat.reduceBEq, Nat.reduceAdd, Nat.reduceLT, Nat.reduceEqDiff, sxe, tysZ2_17, hr, hc]
      (all_goals try exact zF)) ?_
  refine Tr.reg [6] (by
      simp only [↓sxd, sxu, ↓zE, ↓exq, ↓zD, ↓zC, Nat.reduceBEq, Nat.reduceAdd, Nat.reduceLT, Nat.reduceLeDiff, Nat.reduceEqDiff, tysZ2_17, w1]
      (repeat ((with_reducible refine And.intro ?_ ?_); (focus (exact zS))))
      refine CallO.use (hC _) ?_
      try simp only [↓sxd, sxu, ↓zE, ↓exq, Nat.reduceLT]
      iterate 8
        (repeat ((with_reducible refine And.intro ?_ ?_); (focus (exact zS))))
        refine GdO.mk _ (fun hg => by simp only [↓sxd, sxu, ↓exq, ↓zD, ↓zC, Nat.reduceBEq, Nat.reduceAdd, Nat.reduceLT, Nat.reduceLeDiff, Nat.reduceEqDiff, tysZ2_17, w2, hg]; (all_goals try exact zF)) ?_
        simp only [↓sxd, sxu, ↓zE, Nat.reduceBEq, Nat.reduceLT]
      (repeat ((with_reducible refine And.intro ?_ ?_); (focus (exact zS))))
      refine GdO.mk _ (fun hg => by simp only [sxu, ↓exq, ↓zA, Nat.reduceBEq, hg]; (repeat ((with_reducible refine And.intro ?_ ?_); (focus (exact zS)))); exact CallP.use (hC _) ⟨rfl, rfl, rfl⟩) ?_
      simp only [↓sxd, sxu, ↓zE, ↓exq, ↓zH, Nat.reduceBEq, Nat.reduceLT]
      (all_goals try exact zF)) ?_
  refine Tr.ret ?_
  exact ⟨.inr rfl, congrArg (fun n => some (B n)) (by
  rw [hsat])⟩
end Go.Proofs.YtijechcadlklhaaGreat
