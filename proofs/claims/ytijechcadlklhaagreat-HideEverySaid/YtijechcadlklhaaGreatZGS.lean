/- Lemmas, part ZGS. Conditions: none. -/
import Derived.Test.YtijechcadlklhaaGreatZGR
set_option linter.unusedVariables false
namespace Go.Proofs.YtijechcadlklhaaGreat
open Go.Sy
set_option maxRecDepth 8000
def HT.askE (t : HT) (l : List HC) (q : List HQ) : Int := if t.pub l ≠ 0 then t.pub l else if q.length > 8 then 3 else if q.all t.okQ = false then 2 else 0
theorem askE_ok {t : HT} {l : List HC} {q : List HQ} (h : t.askE l q = 0) : t.pub l = 0 ∧ q.length ≤ 8 ∧ q.all t.okQ = true := by
  unfold HT.askE at h
  split at h
  · contradiction
  · split at h
    · contradiction
    · split at h
      · contradiction
      · rename_i h3
        exact ⟨by omega, by omega, by cases e : q.all t.okQ with | true => rfl | false => exact absurd e h3⟩
abbrev tysH15_42 := And.intro ty.sz0 <| And.intro ty.agg0 <| And.intro ty.elem0 <| And.intro ty.sz3 <| And.intro ty.agg3 <| And.intro ty.elem3 <| And.intro ty.zero3 <| And.intro ty.und3 <| And.intro ty.sz4 <| And.intro ty.agg4 <| And.intro ty.elem4 <| And.intro ty.zero4 <| And.intro ty.und4 <| And.intro ty.sz29 <| And.intro ty.agg29 <| And.intro ty.elem29 <| And.intro ty.zero29 <| And.intro ty.und29 <| And.intro ty.sz32 <| And.intro ty.agg32 <| And.intro ty.fld32_0 <| And.intro ty.fld32_1 <| And.intro ty.elem32 <| And.intro ty.zero32 <| And.intro ty.pl32 <| And.intro ty.sz34 <| And.intro ty.agg34 <| And.intro ty.elem34 <| And.intro ty.by34 <| And.intro ty.ez34 <| And.intro ty.zero34 <| And.intro ty.und34 <| And.intro ty.sz36 <| And.intro ty.agg36 <| And.intro ty.elem36 <| And.intro ty.by36 <| And.intro ty.ez36 <| And.intro ty.zero36 <| And.intro ty.und36 <| And.intro ty.sz83 <| And.intro ty.agg83 <| And.intro ty.elem83 <| And.intro ty.zero83 <| And.intro ty.sz84 <| And.intro ty.agg84 <| And.intro ty.elem84 <| And.intro ty.sz89 <| And.intro ty.agg89 <| And.intro ty.elem89 <| ty.zero89
theorem askedE_h (t : HT) (l : List HC) (q : List HQ) (hs : small8 t.rows) (hl : l.length ≤ 1000) (hpub : t.pub l ≠ 0) (hp : HpT) (nx : Nat) (hfix : TnFix nx hp) : CallH Tryz.prog G0 42 [t.s, SC l, SQ q] hp nx (Det (.tup [nilp, I (t.pub l)]) hp nx) := by
  refine CallH.body 31 [.tmp 6, .tmp 7] Tryz.func42 (by kernel_rfl) rfl rfl rfl ?_
  refine Tr.reg [1, 2, 3] (by
      simp only [↓sxd, sxu, ↓zE, ↓exq, ↓zM, Nat.reduceBEq, Nat.reduceAdd, Nat.reduceLT, Nat.reduceEqDiff]
      (all_goals try exact zF)) ?_
  refine Tr.reg [2, 3, 8, 9] (by
      simp only [↓sxd, sxu, ↓zE, ↓exq, ↓zD, Nat.reduceBEq, Nat.reduceAdd, Nat.reduceLT, tysH15_42]
      (repeat ((with_reducible refine And.intro ?_ ?_); (focus (exact zS))))
      refine work_h t l hs hl _ _ (TnFix.cons (Nat.lt_succ_self _) (fun _ _ _ _ => TnO.arr zT) (hfix.mono (Nat.le_succ _))) _ (fun h => absurd h hpub) (fun _ => ?_)
      try simp only [↓sxd, sxu, ↓zE, ↓exq, ↓zH, Nat.reduceBEq, Nat.reduceAdd, Nat.reduceLT]
      (all_goals try exact zF)) ?_
  refine Tr.seq ?_
  refine Tr.block ?_
  refine Tr.reg [2, 3, 8, 9, 16] (by
      simp only [↓sxd, sxu, ↓zE, ↓exq, Nat.reduceBEq, Nat.reduceLT]
      (all_goals try exact zF)) ?_
  refine Tr.cond rfl (fun h16 => ?_) (fun h16 => ?_)
  · refine Tr.reg [6, 7] (by
        simp only [↓sxd, sxu, ↓zE, ↓exq, Nat.reduceBEq, Nat.reduceLT]
        (all_goals try exact zF)) ?_
    refine Tr.imp (Imp.go (tm' := [(6, nilp), (7, I (t.pub l))]) (nx' := nx) (rg nx 1) hp rfl rfl (.cons _ (.refl _)) (fun id h => rg_lt h) (fun id h => by rw [rg_ge h]; show nx + 1 ≤ id + 1; omega) zT (hfix.f2 fun i hi => rg_lt hi) (fun h => h)) ?_
    refine Tr.ret ?_
    exact ⟨.inr rfl, .tup [nilp, I (t.pub l)], ⟨rfl, rfl, trivial⟩, rfl, rfl, rfl⟩
  · exact absurd (by simpa using h16) hpub
theorem askedO_h (t : HT) (l : List HC) (q : List HQ) (hs : small8 t.rows) (hl : l.length ≤ 1000) (hq : q.length ≤ 1000) (hpub : t.pub l = 0) (hp : HpT) (nx : Nat) (hfix : TnFix nx hp) (K : KT) (hok : t.askE l q = 0 → K (.tup [.ptr nx 0 0, I 0]) ((nx, wbx t (t.w l).hid) :: hp) (nx + 1)) (herr : t.askE l q ≠ 0 → K (.tup [nilp, I (t.askE l q)]) hp nx) : CallH Tryz.prog G0 42 [t.s, SC l, SQ q] hp nx K := by
  have ho := HT.check_ok (HT.pub_ok hpub).1
  have h0 : 0 < t.rows.length := ho.n0
  have e01 : (nx == nx + 1) = false := by simp
  refine CallH.body 31 [.tmp 6, .tmp 7] Tryz.func42 (by kernel_rfl) rfl rfl rfl ?_
  refine Tr.reg [1, 2, 3] (by
      simp only [↓sxd, sxu, ↓zE, ↓exq, ↓zM, Nat.reduceBEq, Nat.reduceAdd, Nat.reduceLT, Nat.reduceEqDiff]
      (all_goals try exact zF)) ?_
  refine Tr.reg [2, 3, 8, 9] (by
      simp only [↓sxd, sxu, ↓zE, ↓exq, ↓zD, Nat.reduceBEq, Nat.reduceAdd, Nat.reduceLT, tysH15_42]
      (repeat ((with_reducible refine And.intro ?_ ?_); (focus (exact zS))))
      refine work_h t l hs hl _ _ (TnFix.cons (Nat.lt_succ_self _) (fun _ _ _ _ => TnO.arr zT) (hfix.mono (Nat.le_succ _))) _ (fun _ => ?_) (fun h => absurd hpub h)
      try simp only [↓sxd, sxu, ↓zE, ↓exq, ↓zH, Nat.reduceBEq, Nat.reduceAdd, Nat.reduceLT]
      (all_goals try exact zF)) ?_
  refine Tr.seq ?_
  refine Tr.block ?_
  refine Tr.reg [2, 3, 8, 9, 16] (by
      simp only [↓sxd, sxu, ↓zE, ↓exq, Nat.reduceBEq, Nat.reduceLT]
      (all_goals try exact zF)) ?_
  refine Tr.cond rfl (fun h16 => ?_) (fun h16 => ?_)
  · cases h16
  · refine Tr.reg [2, 3, 8, 20] (by
        simp only [↓sxd, sxu, ↓zE, ↓exq, ↓zB, ↓zL, Nat.reduceBEq, Nat.reduceLT, sxe, tysH15_42]
        (all_goals try exact zF)) ?_
    refine Tr.cond rfl (fun h20 => ?_) (fun h20 => ?_)
    · have hgt : q.length > 8 := by have := of_decide_eq_true h20; omega
      have hA : t.askE l q = 3 := by unfold HT.askE; rw [if_neg (by simp [hpub]), if_pos hgt]
      refine Tr.reg [6, 7] (by
          simp only [↓sxd, sxu, ↓zE, ↓exq, Nat.reduceBEq, Nat.reduceLT]
          (all_goals try exact zF)) ?_
      refine Tr.imp (Imp.go (tm' := [(6, nilp), (7, I 3)]) (nx' := nx) (rg nx 2) hp rfl rfl (.cons _ (.cons _ (.refl _))) (fun id h => rg_lt h) (fun id h => by rw [rg_ge h]; show nx + 2 ≤ id + 2; omega) zT (hfix.f2 fun i hi => rg_lt hi) (fun h => h)) ?_
      refine Tr.ret ?_
      exact ⟨.inr rfl, .tup [nilp, I 3], ⟨rfl, rfl, trivial⟩, by have := herr (by rw [hA]; decide); rwa [hA] at this⟩
    · have hle : q.length ≤ 8 := by have := of_decide_eq_false h20; omega
      refine Tr.reg [8, 24] (by
          simp only [↓sxd, sxu, ↓zE, ↓exq, ↓zD, Nat.reduceBEq, Nat.reduceAdd, Nat.reduceLT, tysH15_42, e01]
          (repeat ((with_reducible refine And.intro ?_ ?_); (focus (exact zS))))
          refine CallO.use (allQ_c t.okQ q (by omega) 74 [t.s] [] zP zP (fun x _ => request_c t x hs h0)) ?_
          try simp only [↓sxd, sxu, ↓zE, ↓exq, ↓zK, Nat.reduceBEq, Nat.reduceLT]
          (all_goals try exact zF)) ?_
      refine Tr.cond rfl (fun h24 => ?_) (fun h24 => ?_)
      · have hb : q.all t.okQ = false := by simpa using h24
        have hA : t.askE l q = 2 := by unfold HT.askE; rw [if_neg (by simp [hpub]), if_neg (by omega), if_pos hb]
        refine Tr.reg [6, 7] (by
            simp only [↓sxd, sxu, ↓zE, ↓exq, Nat.reduceBEq, Nat.reduceLT]
            (all_goals try exact zF)) ?_
        refine Tr.imp (Imp.go (tm' := [(6, nilp), (7, I 2)]) (nx' := nx) (rg nx 2) hp rfl rfl (.cons _ (.cons _ (.refl _))) (fun id h => rg_lt h) (fun id h => by rw [rg_ge h]; show nx + 2 ≤ id + 2; omega) zT (hfix.f2 fun i hi => rg_lt hi) (fun h => h)) ?_
        refine Tr.ret ?_
        exact ⟨.inr rfl, .tup [nilp, I 2], ⟨rfl, rfl, trivial⟩, by have := herr (by rw [hA]; decide); rwa [hA] at this⟩
      · have hb : q.all t.okQ = true := by simpa using h24
        have hA : t.askE l q = 0 := by unfold HT.askE; rw [if_neg (by simp [hpub]), if_neg (by omega), if_neg (by simp [hb])]
        refine Tr.skip ?_
        refine Tr.reg [6, 7] (by
            simp only [↓sxd, sxu, ↓zE, ↓exq, Nat.reduceBEq, Nat.reduceLT]
            (all_goals try exact zF)) ?_
        refine Tr.imp (Imp.go (tm' := [(6, .ptr nx 0 0), (7, I 0)]) (nx' := nx + 1) (rg nx 1) ((nx + 1, wbx t (t.w l).hid) :: hp) (hp'' := (nx, wbx t (t.w l).hid) :: hp) rfl rfl (.cons_cons _ (.cons _ (.refl _))) (fun id h => rg_lt h) (fun id h => by rw [rg_ge (by omega)]; show nx + 2 ≤ id + 1; omega) (.cons rfl (TnS.ptr (rg_ge (Nat.le_refl _))) (.cons rfl (TnS.d _) trivial)) (.cons ⟨(rg_ge (Nat.le_refl _)).symm, TnO.arr (.cons (.cons (TnS.d _) (.cons (TnS.d _) (F2.map fun _ _ => TnS.d _))) .nil)⟩ (hfix.f2 fun i hi => rg_lt hi)) (fun h => h)) ?_
        refine Tr.ret ?_
        exact ⟨.inr rfl, .tup [.ptr nx 0 0, I 0], ⟨rfl, rfl, trivial⟩, hok hA⟩
theorem okQ_in {w : HW} {n m : Nat} {t : HT} (hn : t.rows.length = n) (hm : (t.rows.getD 0 []).length = m) {q : HQ} (h : t.okQ q = true) : 0 ≤ q.cell.row ∧ q.cell.row < n ∧ 0 ≤ q.cell.col ∧ q.cell.col < m ∧ 0 ≤ q.below ∧ q.below ≤ 1000 ∧ 0 ≤ q.above ∧ q.above ≤ 1000 := by
  unfold HT.okQ at h
  rw [Bool.and_eq_true, Bool.and_eq_true, inR_iff, inR_iff, HT.isCell_iff hn hm] at h
  omega
abbrev tysH15_45 := And.intro ty.sz0 <| And.intro ty.agg0 <| And.intro ty.elem0 <| And.intro ty.sz3 <| And.intro ty.agg3 <| And.intro ty.elem3 <| And.intro ty.zero3 <| And.intro ty.und3 <| And.intro ty.sz4 <| And.intro ty.agg4 <| And.intro ty.elem4 <| And.intro ty.zero4 <| And.intro ty.und4 <| And.intro ty.sz22 <| And.intro ty.agg22 <| And.intro ty.elem22 <| And.intro ty.by22 <| And.intro ty.ez22 <| And.intro ty.zero22 <| And.intro ty.und22 <| And.intro ty.sz32 <| And.intro ty.agg32 <| And.intro ty.fld32_0 <| And.intro ty.fld32_1 <| And.intro ty.elem32 <| And.intro ty.zero32 <| And.intro ty.pl32 <| And.intro ty.sz44 <| And.intro ty.agg44 <| And.intro ty.elem44 <| And.intro ty.by44 <| And.intro ty.ez44 <| And.intro ty.zero44 <| And.intro ty.und44 <| And.intro ty.sz60 <| And.intro ty.agg60 <| And.intro ty.fld60_0 <| And.intro ty.fld60_1 <| And.intro ty.elem60 <| And.intro ty.zero60 <| And.intro ty.pl60 <| And.intro ty.sz79 <| And.intro ty.agg79 <| And.intro ty.fld79_0 <| And.intro ty.fld79_1 <| And.intro ty.elem79 <| And.intro ty.zero79 <| And.intro ty.pl79 <| And.intro ty.sz83 <| And.intro ty.agg83 <| And.intro ty.elem83 <| And.intro ty.zero83 <| And.intro ty.sz88 <| And.intro ty.agg88 <| And.intro ty.fld88_0 <| And.intro ty.fld88_1 <| And.intro ty.fld88_2 <| And.intro ty.elem88 <| And.intro ty.zero88 <| And.intro ty.pl88 <| And.intro ty.sz110 <| And.intro ty.agg110 <| And.intro ty.fld110_0 <| And.intro ty.fld110_1 <| And.intro ty.elem110 <| And.intro ty.zero110 <| ty.pl110
theorem satisfied1_c {w : HW} {n m : Nat} (hw : w.Ok n m) {r c : Nat} (hr : r < n) (hc : c < m) (b a : Int) (hb : 0 ≤ b ∧ b ≤ 1000) (ha : 0 ≤ a ∧ a ≤ 1000) : CallP Tryz.prog G0 45 [.dp w.d, .agg [I (r : Nat), I (c : Nat), I b, I a]] (B (decide (w.lo r c ≤ cellAt w.rows r c - b) && decide (w.hi r c ≥ cellAt w.rows r c + a))) := by
  have hbd := hw.cell r c hr hc
  have hcap := hw.cap
  have hrl : r < w.rows.length := by have := hw.dim.1; omega
  have hcl : c < (w.rows.getD r []).length := by have := hw.dim.2 r hr; omega
  have hbb := bounds_c hw hr hc
  have w1 : IntKind.i64.wrap ((w.rows.getD r []).getD c 0 - b) = cellAt w.rows r c - b := by rw [wr (by unfold cellAt at hbd; omega) (by unfold cellAt at hbd; omega)]; rfl
  have w2 : IntKind.i64.wrap ((w.rows.getD r []).getD c 0 + a) = cellAt w.rows r c + a := by rw [wr (by unfold cellAt at hbd; omega) (by unfold cellAt at hbd; omega)]; rfl
  refine CallP.body 42 [.tmp 4] Tryz.func45 (by kernel_rfl) rfl rfl rfl zP zP ?_
  refine Tr.reg [0, 3] (by
      simp only [↓sxd, sxu, ↓zE, ↓exq, ↓zM, Nat.reduceBEq, Nat.reduceAdd, Nat.reduceLT, Nat.reduceEqDiff]
      (all_goals try exact zF)) ?_
  refine Tr.regD [0, 1, 2, 3, 4, 5, 6, 7, 8, 9, 10, 11, 12, 13, 14, 15, 16, 17, 18, 19, 20, 21] [19, 20] [2, 8, 11, 13, 16, 18] [3, 5, 6] mix (by kernel_rfl) (by
      simp only [↓sxd, sxu, ↓zC, zJ, ↓exq, ↓zD, ↓zA, Nat.reduceBEq, Nat.reduceAdd, Nat.reduceLT, Nat.reduceLeDiff, Nat.reduceEqDiff, tysH15_45]
      (repeat ((with_reducible refine And.intro ?_ ?_); (focus (exact zS))))
      refine CallD.use (hbb) ?_
      try simp only [↓sxd, sxu, ↓zC, zJ, ↓exq, ↓zD, ↓zR, ↓zN, ↓zA, Nat.reduceBEq, Nat.reduceAdd, Nat.reduceLT, Nat.reduceEqDiff, sxe, tysH15_45, hrl, hcl]
      (all_goals try exact zF)) ?_
  refine Tr.reg [4] (by
      simp only [↓sxd, sxu, ↓zE, ↓exq, ↓zD, ↓zA, Nat.reduceBEq, Nat.reduceAdd, Nat.reduceLT, Nat.reduceEqDiff, tysH15_45, w1]
      iterate 7
        (repeat ((with_reducible refine And.intro ?_ ?_); (focus (exact zS))))
        refine GdO.mk _ (fun hg => by simp only [↓sxd, sxu, ↓exq, ↓zD, ↓zA, Nat.reduceBEq, Nat.reduceAdd, Nat.reduceLT, Nat.reduceEqDiff, tysH15_45, w2, hg]; (all_goals try exact zF)) ?_
        simp only [↓sxd, sxu, ↓zE, ↓exq, ↓zI, Nat.reduceBEq, Nat.reduceLT]
      (all_goals try exact zF)) ?_
  refine Tr.ret ?_
  (refine ⟨.inr rfl, ?_⟩; first | rfl | exact ⟨rfl, rfl, trivial⟩ | exact ⟨rfl, rfl, rfl, trivial⟩ | (simp only [Res, ResL, ResOK, ↓sxd, sxu, ↓zE, ↓zC, zJ, ↓exP, ↓exq, ↓zB, ↓zI, ↓zK, ↓zD, ↓zR, ↓zN, ↓zM, ↓zA, Nat.reduceBEq, Nat.reduceAdd, Nat.reduceLT, Nat.reduceMul, Nat.reduceSub, Nat.reduceLeDiff, Nat.reduceEqDiff, Int.reduceLE, Int.reduceLT, Int.reduceToNat, reduceIte, sxe, tysH15_45, hrl, hcl, w1, w2]; (repeat' (first | rfl | exact trivial | exact fun h => h | exact fun h => (by rw [h]; rfl) | apply And.intro | omega | exact Nat.le_of_ble_eq_true rfl))))
theorem satisfied_c {w : HW} {n m : Nat} (hw : w.Ok n m) {t : HT} (ht : t.rows = w.rows) {q : HQ} (h : t.okQ q = true) : CallP Tryz.prog G0 45 [.dp w.d, q.s] (B (w.sat q)) := by
  obtain ⟨a1, a2, a3, a4, a5, a6, a7, a8⟩ := okQ_in (n := n) (m := m) (w := w) (by rw [ht]; exact hw.dims.1) (by rw [ht]; exact hw.dims.2) h
  obtain ⟨⟨row, col⟩, b, a⟩ := q
  simp only at a1 a2 a3 a4 a5 a6 a7 a8
  obtain ⟨r, rfl⟩ := Int.eq_ofNat_of_zero_le a1
  obtain ⟨c, rfl⟩ := Int.eq_ofNat_of_zero_le a3
  exact satisfied1_c hw (by omega) (by omega) b a ⟨a5, a6⟩ ⟨a7, a8⟩
abbrev tysH15_44 := And.intro ty.sz0 <| And.intro ty.agg0 <| And.intro ty.elem0 <| And.intro ty.sz4 <| And.intro ty.agg4 <| And.intro ty.elem4 <| And.intro ty.zero4 <| And.intro ty.und4 <| And.intro ty.sz83 <| And.intro ty.agg83 <| And.intro ty.elem83 <| And.intro ty.zero83 <| And.intro ty.sz88 <| And.intro ty.agg88 <| And.intro ty.fld88_0 <| And.intro ty.fld88_1 <| And.intro ty.fld88_2 <| And.intro ty.elem88 <| And.intro ty.zero88 <| ty.pl88
theorem Exposed1_c {w : HW} {n m : Nat} (hw : w.Ok n m) {t : HT} (ht : t.rows = w.rows) {q : HQ} (h : t.okQ q = true) : CallP Tryz.prog G0 44 [q.s, .fp [.dp w.d]] (B (!w.sat q)) := by
  refine CallP.body 8 [.tmp 3] Tryz.func44 (by kernel_rfl) rfl rfl rfl zP zP ?_
  refine Tr.reg [1, 2] (by
      simp only [↓sxd, sxu, ↓zE, ↓exq, ↓zM, Nat.reduceBEq, Nat.reduceAdd, Nat.reduceLT, Nat.reduceEqDiff]
      (all_goals try exact zF)) ?_
  refine Tr.reg [3] (by
      simp only [↓sxd, sxu, ↓zE, ↓exq, ↓zD, Nat.reduceBEq, Nat.reduceAdd, Nat.reduceLT, tysH15_44]
      (repeat ((with_reducible refine And.intro ?_ ?_); (focus (exact zS))))
      refine CallO.use (satisfied_c hw ht h) ?_
      try simp only [↓sxd, sxu, ↓zE, ↓exq, ↓zK, Nat.reduceLT]
      (all_goals try exact zF)) ?_
  refine Tr.ret ?_
  (refine ⟨.inr rfl, ?_⟩; first | rfl | exact ⟨rfl, rfl, trivial⟩ | exact ⟨rfl, rfl, rfl, trivial⟩ | (simp only [Res, ResL, ResOK, ↓sxd, sxu, ↓zE, ↓zC, zJ, ↓exP, ↓exq, ↓zB, ↓zK, ↓zD, ↓zM, Nat.reduceBEq, Nat.reduceAdd, Nat.reduceLT, Nat.reduceMul, Nat.reduceSub, Nat.reduceLeDiff, Nat.reduceEqDiff, Int.reduceLE, Int.reduceLT, Int.reduceToNat, reduceIte, sxe, tysH15_44]; (repeat' (first | rfl | exact trivial | exact fun h => h | exact fun h => (by rw [h]; rfl) | apply And.intro | omega | exact Nat.le_of_ble_eq_true rfl))))
def HT.expose (t : HT) (l : List HC) (q : List HQ) : Int × Int := if t.askE l q ≠ 0 then (0, t.askE l q) else if idxOf (fun x => !(t.w l).sat x) q < 0 then (0, 7) else (idxOf (fun x => !(t.w l).sat x) q, 0)
abbrev tysH15_12 := And.intro ty.sz0 <| And.intro ty.agg0 <| And.intro ty.elem0 <| And.intro ty.sz3 <| And.intro ty.agg3 <| And.intro ty.elem3 <| And.intro ty.zero3 <| And.intro ty.und3 <| And.intro ty.sz4 <| And.intro ty.agg4 <| And.intro ty.elem4 <| And.intro ty.zero4 <| And.intro ty.und4 <| And.intro ty.sz29 <| And.intro ty.agg29 <| And.intro ty.elem29 <| And.intro ty.zero29 <| And.intro ty.und29 <| And.intro ty.sz32 <| And.intro ty.agg32 <| And.intro ty.fld32_0 <| And.intro ty.fld32_1 <| And.intro ty.elem32 <| And.intro ty.zero32 <| And.intro ty.pl32 <| And.intro ty.sz34 <| And.intro ty.agg34 <| And.intro ty.elem34 <| And.intro ty.by34 <| And.intro ty.ez34 <| And.intro ty.zero34 <| And.intro ty.und34 <| And.intro ty.sz36 <| And.intro ty.agg36 <| And.intro ty.elem36 <| And.intro ty.by36 <| And.intro ty.ez36 <| And.intro ty.zero36 <| And.intro ty.und36 <| And.intro ty.sz83 <| And.intro ty.agg83 <| And.intro ty.elem83 <| And.intro ty.zero83 <| And.intro ty.sz84 <| And.intro ty.agg84 <| And.intro ty.elem84 <| And.intro ty.sz89 <| And.intro ty.agg89 <| And.intro ty.elem89 <| ty.zero89
theorem ExposedE_c (t : HT) (l : List HC) (q : List HQ) (hs : small8 t.rows) (hl : l.length ≤ 1000) (hpub : t.pub l ≠ 0) : CallP Tryz.prog G0 12 [t.s, SC l, SQ q] (.tup [I (t.expose l q).1, I (t.expose l q).2]) := by
  have hA : t.askE l q = t.pub l := by unfold HT.askE; rw [if_pos hpub]
  have hE : t.expose l q = (0, t.pub l) := by unfold HT.expose; rw [hA, if_pos hpub]
  rw [hE]
  refine CallP.body 27 [.tmp 6, .tmp 7] Tryz.func12 (by kernel_rfl) rfl rfl rfl zP zP ?_
  refine Tr.reg [1, 2, 3] (by
      simp only [↓sxd, sxu, ↓zE, ↓exq, ↓zM, Nat.reduceBEq, Nat.reduceAdd, Nat.reduceLT, Nat.reduceEqDiff]
      (all_goals try exact zF)) ?_
  refine Tr.reg [2, 8, 9] (by
      simp only [↓sxd, sxu, ↓zE, ↓exq, ↓zD, Nat.reduceBEq, Nat.reduceAdd, Nat.reduceLT, tysH15_12]
      (repeat ((with_reducible refine And.intro ?_ ?_); (focus (exact zS))))
      refine CallH.mono (askedE_h t l q hs hl hpub _ _ (TnFix.cons (show 0 < 1 by decide) (fun _ _ _ _ => TnO.arr zT) (TnFix.nil _))) ?_
      rintro r' hp' nx' ⟨rfl, rfl, rfl⟩
      try simp only [↓sxd, sxu, ↓zE, ↓exq, ↓zH, ↓zN, Nat.reduceBEq, Nat.reduceAdd, Nat.reduceLT, Nat.reduceEqDiff, tysH15_12]
      (all_goals try exact zF)) ?_
  refine Tr.seq ?_
  refine Tr.reg [2, 8, 9, 19] (by
      simp only [↓sxd, sxu, ↓zE, ↓exq, Nat.reduceBEq, Nat.reduceLT]
      (all_goals try exact zF)) ?_
  refine Tr.cond rfl (fun h19 => ?_) (fun h19 => ?_)
  · refine Tr.reg [6, 7] (by
        simp only [↓sxd, sxu, ↓zE, ↓exq, Nat.reduceBEq, Nat.reduceLT]
        (all_goals try exact zF)) ?_
    refine Tr.ret ?_
    (refine ⟨.inr rfl, ?_⟩; first | rfl | exact ⟨rfl, rfl, trivial⟩ | exact ⟨rfl, rfl, rfl, trivial⟩ | (simp only [Res, ResL, ResOK, ↓sxd, sxu, ↓zE, ↓zC, zJ, ↓exP, ↓exq, ↓zB, ↓zK, ↓zD, ↓zH, ↓zN, ↓zM, Nat.reduceBEq, Nat.reduceAdd, Nat.reduceLT, Nat.reduceMul, Nat.reduceSub, Nat.reduceLeDiff, Nat.reduceEqDiff, Int.reduceLE, Int.reduceLT, Int.reduceToNat, reduceIte, sxe, tysH15_12]; (repeat' (first | rfl | exact trivial | exact fun h => h | exact fun h => (by rw [h]; rfl) | apply And.intro | omega | exact Nat.le_of_ble_eq_true rfl))))
  · exact absurd (by simpa using h19) hpub
theorem ExposedA_c (t : HT) (l : List HC) (q : List HQ) (hs : small8 t.rows) (hl : l.length ≤ 1000) (hq : q.length ≤ 1000) (hpub : t.pub l = 0) (hask : t.askE l q ≠ 0) : CallP Tryz.prog G0 12 [t.s, SC l, SQ q] (.tup [I (t.expose l q).1, I (t.expose l q).2]) := by
  have hE : t.expose l q = (0, t.askE l q) := by unfold HT.expose; rw [if_pos hask]
  rw [hE]
  refine CallP.body 27 [.tmp 6, .tmp 7] Tryz.func12 (by kernel_rfl) rfl rfl rfl zP zP ?_
  refine Tr.reg [1, 2, 3] (by
      simp only [↓sxd, sxu, ↓zE, ↓exq, ↓zM, Nat.reduceBEq, Nat.reduceAdd, Nat.reduceLT, Nat.reduceEqDiff]
      (all_goals try exact zF)) ?_
  refine Tr.reg [2, 8, 9] (by
      simp only [↓sxd, sxu, ↓zE, ↓exq, ↓zD, Nat.reduceBEq, Nat.reduceAdd, Nat.reduceLT, tysH15_12]
      (repeat ((with_reducible refine And.intro ?_ ?_); (focus (exact zS))))
      refine askedO_h t l q hs hl hq hpub _ _ (TnFix.cons (show 0 < 1 by decide) (fun _ _ _ _ => TnO.arr zT) (TnFix.nil _)) _ (fun h => absurd h hask) (fun _ => ?_)
      try simp only [↓sxd, sxu, ↓zE, ↓exq, ↓zH, ↓zN, Nat.reduceBEq, Nat.reduceAdd, Nat.reduceLT, Nat.reduceEqDiff, tysH15_12]
      (all_goals try exact zF)) ?_
  refine Tr.seq ?_
  refine Tr.reg [2, 8, 9, 19] (by
      simp only [↓sxd, sxu, ↓zE, ↓exq, Nat.reduceBEq, Nat.reduceLT]
      (all_goals try exact zF)) ?_
  refine Tr.cond rfl (fun h19 => ?_) (fun h19 => ?_)
  · refine Tr.reg [6, 7] (by
        simp only [↓sxd, sxu, ↓zE, ↓exq, Nat.reduceBEq, Nat.reduceLT]
        (all_goals try exact zF)) ?_
    refine Tr.ret ?_
    (refine ⟨.inr rfl, ?_⟩; first | rfl | exact ⟨rfl, rfl, trivial⟩ | exact ⟨rfl, rfl, rfl, trivial⟩ | (simp only [Res, ResL, ResOK, ↓sxd, sxu, ↓zE, ↓zC, zJ, ↓exP, ↓exq, ↓zB, ↓zK, ↓zD, ↓zH, ↓zN, ↓zM, Nat.reduceBEq, Nat.reduceAdd, Nat.reduceLT, Nat.reduceMul, Nat.reduceSub, Nat.reduceLeDiff, Nat.reduceEqDiff, Int.reduceLE, Int.reduceLT, Int.reduceToNat, reduceIte, sxe, tysH15_12]; (repeat' (first | rfl | exact trivial | exact fun h => h | exact fun h => (by rw [h]; rfl) | apply And.intro | omega | exact Nat.le_of_ble_eq_true rfl))))
  · exact absurd (by simpa using h19) hask
theorem ExposedO_c (t : HT) (l : List HC) (q : List HQ) (hs : small8 t.rows) (hl : l.length ≤ 1000) (hq : q.length ≤ 1000) (hask : t.askE l q = 0) : CallP Tryz.prog G0 12 [t.s, SC l, SQ q] (.tup [I (t.expose l q).1, I (t.expose l q).2]) := by
  obtain ⟨hpub, hq8, hall⟩ := askE_ok hask
  have hw := HT.w_ok hpub
  have hE : t.expose l q = if idxOf (fun x => !(t.w l).sat x) q < 0 then (0, 7) else (idxOf (fun x => !(t.w l).sat x) q, 0) := by unfold HT.expose; rw [if_neg (by simp [hask])]
  rw [hE]
  refine CallP.body 27 [.tmp 6, .tmp 7] Tryz.func12 (by kernel_rfl) rfl rfl rfl zP zP ?_
  refine Tr.reg [1, 2, 3] (by
      simp only [↓sxd, sxu, ↓zE, ↓exq, ↓zM, Nat.reduceBEq, Nat.reduceAdd, Nat.reduceLT, Nat.reduceEqDiff]
      (all_goals try exact zF)) ?_
  refine Tr.reg [2, 8, 9] (by
      simp only [↓sxd, sxu, ↓zE, ↓exq, ↓zD, Nat.reduceBEq, Nat.reduceAdd, Nat.reduceLT, tysH15_12]
      (repeat ((with_reducible refine And.intro ?_ ?_); (focus (exact zS))))
      refine askedO_h t l q hs hl hq hpub _ _ (TnFix.cons (show 0 < 1 by decide) (fun _ _ _ _ => TnO.arr zT) (TnFix.nil _)) _ (fun _ => ?_) (fun h => absurd hask h)
      try simp only [↓sxd, sxu, ↓zE, ↓exq, ↓zH, ↓zN, Nat.reduceBEq, Nat.reduceAdd, Nat.reduceLT, Nat.reduceEqDiff, tysH15_12]
      (all_goals try exact zF)) ?_
  refine Tr.seq ?_
  refine Tr.reg [2, 8, 9, 19] (by
      simp only [↓sxd, sxu, ↓zE, ↓exq, Nat.reduceBEq, Nat.reduceLT]
      (all_goals try exact zF)) ?_
  refine Tr.cond rfl (fun h19 => ?_) (fun h19 => ?_)
  · cases h19
  · refine Tr.skip ?_
    refine Tr.imp (Imp.trans (b := ⟨[(2, SQ q), (8, .ptr 2 0 0)], [(2, .arr 1 [[.dp (t.w l).d]])], 3, 27, [], 0⟩) (Imp.go (fun i => i) [(2, _)] rfl rfl (.cons_cons _ (.cons _ (.cons _ .slnil))) (fun _ _ => rfl) (fun _ h => h) zT (.cons ⟨rfl, TnO.arr (.cons (.cons (wbx_fz rfl (by simp)) .nil) .nil)⟩ .nil) (fun h => h)) (Imp.fin (tm' := [(2, SQ q), (8, .fp [.dp (t.w l).d])]) (.cons rfl (TnS.d _) (.cons rfl (TnS.frzf rfl (by simp) (by decide) (by simp) (.cons (TnS.dp _) .nil)) trivial)))) ?_
    refine Tr.reg [10] (by
        simp only [↓sxd, sxu, ↓zE, ↓exq, Nat.reduceBEq, Nat.reduceLT]
        (repeat ((with_reducible refine And.intro ?_ ?_); (focus (exact zS))))
        refine CallO.use (indexQ_c (fun x => !(t.w l).sat x) q (by omega) 44 [] [.fp [.dp (t.w l).d]] zP zP (fun x hx => Exposed1_c hw rfl (List.all_eq_true.1 hall x hx))) ?_
        try simp only [↓sxd, sxu, ↓zE, ↓exq, Nat.reduceLT]
        (all_goals try exact zF)) ?_
    refine Tr.seq ?_
    refine Tr.reg [10, 25] (by
        simp only [↓sxd, sxu, ↓zE, ↓exq, Nat.reduceBEq, Nat.reduceLT]
        (all_goals try exact zF)) ?_
    refine Tr.cond rfl (fun h25 => ?_) (fun h25 => ?_)
    · have hlt : idxOf (fun x => !(t.w l).sat x) q < 0 := by simpa using h25
      rw [if_pos hlt]
      refine Tr.reg [6, 7] (by
          simp only [↓sxd, sxu, ↓zE, ↓exq, Nat.reduceBEq, Nat.reduceLT]
          (all_goals try exact zF)) ?_
      refine Tr.ret ?_
      (refine ⟨.inr rfl, ?_⟩; first | rfl | exact ⟨rfl, rfl, trivial⟩ | exact ⟨rfl, rfl, rfl, trivial⟩ | (simp only [Res, ResL, ResOK, ↓sxd, sxu, ↓zE, ↓zC, zJ, ↓exP, ↓exq, ↓zB, ↓zK, ↓zD, ↓zH, ↓zN, ↓zM, Nat.reduceBEq, Nat.reduceAdd, Nat.reduceLT, Nat.reduceMul, Nat.reduceSub, Nat.reduceLeDiff, Nat.reduceEqDiff, Int.reduceLE, Int.reduceLT, Int.reduceToNat, reduceIte, sxe, tysH15_12]; (repeat' (first | rfl | exact trivial | exact fun h => h | exact fun h => (by rw [h]; rfl) | apply And.intro | omega | exact Nat.le_of_ble_eq_true rfl))))
    · have hlt : ¬ idxOf (fun x => !(t.w l).sat x) q < 0 := by simpa using h25
      rw [if_neg hlt]
      refine Tr.skip ?_
      refine Tr.reg [6, 7] (by
          simp only [↓sxd, sxu, ↓zE, ↓exq, Nat.reduceBEq, Nat.reduceLT]
          (all_goals try exact zF)) ?_
      refine Tr.ret ?_
      (refine ⟨.inr rfl, ?_⟩; first | rfl | exact ⟨rfl, rfl, trivial⟩ | exact ⟨rfl, rfl, rfl, trivial⟩ | (simp only [Res, ResL, ResOK, ↓sxd, sxu, ↓zE, ↓zC, zJ, ↓exP, ↓exq, ↓zB, ↓zK, ↓zD, ↓zH, ↓zN, ↓zM, Nat.reduceBEq, Nat.reduceAdd, Nat.reduceLT, Nat.reduceMul, Nat.reduceSub, Nat.reduceLeDiff, Nat.reduceEqDiff, Int.reduceLE, Int.reduceLT, Int.reduceToNat, reduceIte, sxe, tysH15_12]; (repeat' (first | rfl | exact trivial | exact fun h => h | exact fun h => (by rw [h]; rfl) | apply And.intro | omega | exact Nat.le_of_ble_eq_true rfl))))
theorem Exposed_c (t : HT) (l : List HC) (q : List HQ) (hs : small8 t.rows) (hl : l.length ≤ 1000) (hq : q.length ≤ 1000) : CallP Tryz.prog G0 12 [t.s, SC l, SQ q] (.tup [I (t.expose l q).1, I (t.expose l q).2]) := by
  by_cases h : t.askE l q = 0
  · exact ExposedO_c t l q hs hl hq h
  · by_cases hp : t.pub l = 0
    · exact ExposedA_c t l q hs hl hq hp h
    · exact ExposedE_c t l q hs hl hp
theorem Ranges_c (t : HT) (l : List HC) (hs : small8 t.rows) (hl : l.length ≤ 1000) : CallP Tryz.prog G0 25 [t.s, SC l] (.tup [SRL (if t.pub l = 0 then (t.w l).ranges t.n t.m else []), I (t.pub l)]) := by
  by_cases hp : t.pub l = 0
  · have := RangesO_c t l hs hl hp
    rw [if_pos hp, hp]; exact this
  · have := RangesE_c t l hs hl hp
    rw [if_neg hp]; exact this
end Go.Proofs.YtijechcadlklhaaGreat
namespace Go.Sy
section
variable {P : Program} {G : Nat → Option (List D)} {ro : Option Nat}
theorem RegT.idx {ops : Array Oper} {k m : Nat} {st : St} {Q : St → Prop} {o : Oper} {T : TypeId} {x ix : Operand} {d : Nat} {s : ByteArray} {kk : IntKind} {i : Int} {b : UInt8} (ho : ops[k]? = some o) (hop : o.op = .index T x ix) (hd : o.dst = some d) (hg : o.guard = none)
    (hdn : d < st.nt) (hT : P.underlying T = some .string) (hx : ev G st.tm x = .d (.lit (.string s))) (hix : ev G st.tm ix = .d (.lit (.int kk i))) (hi : 0 ≤ i) (hb : s[i.toNat]? = some b)
    (h : RegT P G ro ops (k + 1) m ⟨(d, .d (.lit (.int .u8 b.toNat))) :: st.tm, st.hp, st.nx, st.nt, st.df, st.nb⟩ Q) : RegT P G ro ops k (m + 1) st Q := by
  intro O M pb pl a w X hR hX
  simp only [List.range'_succ, wpOpsIn, ho]
  have hwt : Region.wanted o (yielded ops a.tmps) = true := by simp [Region.wanted, hg]
  rw [if_pos hwt]
  have hev := ev_sound hR.hs hR.tm
  have h1 := hev x
  have h2 := hev ix
  rw [hx] at h1
  rw [hix] at h2
  have e1 : a.eval x = .string s := by
    generalize a.eval x = vx at h1
    cases h1 with | d _ _ h1 => cases h1; rfl
  have e2 : a.eval ix = .int kk i := by
    generalize a.eval ix = vx at h2
    cases h2 with | d _ _ h2 => cases h2; rfl
  refine RunOp.wpIn (K := fun u' w' => u' = .int .u8 b.toNat ∧ w' = w) (fun c hc => by rw [hop] at hc; cases hc) (RunOp.value (v := .int .u8 b.toNat) (by
    simp only [execOp, hop, e1, e2]
    have hrun : Sem.run P (Instr.index T (.string s) (.int kk i)) w = Result.ok (.int .u8 b.toNat) w := by
      simp [Instr.index, asIntOf, run_underlying hT, hi, hb]
    rw [Sem.run_bind, hrun]
    rfl) ⟨rfl, rfl⟩) ?_
  rintro u2 w3 ⟨rfl, rfl⟩
  have hR2 := hR.put (dst := o.dst) (r := .d (.lit (.int .u8 b.toNat))) (v := .int .u8 b.toNat) (by rw [hd]; exact hdn) hR.hs (.refl _ _) (fun _ _ h => h) (.d _ _ (.lit _ rfl))
  rw [hd] at hR2
  rw [hd]
  exact h O M pb pl _ w3 X hR2 hX
end
end Go.Sy
