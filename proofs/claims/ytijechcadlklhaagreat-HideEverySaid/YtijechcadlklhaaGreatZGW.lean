/- Lemmas, part ZGW. Conditions: none. -/
import Derived.Test.YtijechcadlklhaaGreatZGV
set_option linter.unusedVariables false
namespace Go.Proofs.YtijechcadlklhaaGreat
open Go.Sy
set_option maxRecDepth 8000
abbrev tysH21_49 := And.intro ty.sz0 <| And.intro ty.agg0 <| And.intro ty.elem0 <| And.intro ty.sz3 <| And.intro ty.agg3 <| And.intro ty.elem3 <| And.intro ty.zero3 <| And.intro ty.und3 <| And.intro ty.sz4 <| And.intro ty.agg4 <| And.intro ty.elem4 <| And.intro ty.zero4 <| And.intro ty.und4 <| And.intro ty.sz22 <| And.intro ty.agg22 <| And.intro ty.elem22 <| And.intro ty.by22 <| And.intro ty.ez22 <| And.intro ty.zero22 <| And.intro ty.und22 <| And.intro ty.sz32 <| And.intro ty.agg32 <| And.intro ty.fld32_0 <| And.intro ty.fld32_1 <| And.intro ty.elem32 <| And.intro ty.zero32 <| And.intro ty.pl32 <| And.intro ty.sz34 <| And.intro ty.agg34 <| And.intro ty.elem34 <| And.intro ty.by34 <| And.intro ty.ez34 <| And.intro ty.zero34 <| And.intro ty.und34 <| And.intro ty.sz44 <| And.intro ty.agg44 <| And.intro ty.elem44 <| And.intro ty.by44 <| And.intro ty.ez44 <| And.intro ty.zero44 <| And.intro ty.und44 <| And.intro ty.sz79 <| And.intro ty.agg79 <| And.intro ty.fld79_0 <| And.intro ty.fld79_1 <| And.intro ty.elem79 <| And.intro ty.zero79 <| And.intro ty.pl79 <| And.intro ty.sz83 <| And.intro ty.agg83 <| And.intro ty.elem83 <| And.intro ty.zero83 <| And.intro ty.sz106 <| And.intro ty.agg106 <| And.intro ty.elem106 <| And.intro ty.arr106 <| And.intro ty.zero106 <| And.intro ty.und106 <| And.intro ty.sz108 <| And.intro ty.agg108 <| And.intro ty.elem108 <| And.intro ty.arr108 <| And.intro ty.zero108 <| And.intro ty.und108 <| And.intro ty.sz110 <| And.intro ty.agg110 <| And.intro ty.fld110_0 <| And.intro ty.fld110_1 <| And.intro ty.elem110 <| And.intro ty.zero110 <| ty.pl110
theorem freeO_h {w : HW} {n m : Nat} (hw : w.Ok n m) (hp : HpT) (nx iw : Nat) (hfix : TnFix nx hp) (hO : hp.lookup iw = some (wob w.rows w.cap w.hid)) : CallH Tryz.prog G0 49 [.ptr iw 0 0] hp nx (Det (.slc nx 2 0 w.free.length w.free.length) ((nx, .arr 2 (vC w.free)) :: hp) (nx + 1)) := by
  have hiw := look_lt hfix hO
  have e1 : (iw == nx) = false := beq_eq_false_iff_ne.2 (by omega)
  rw [free_sel hw]
  obtain ⟨p, hpp⟩ : ∃ p : HC → Bool, p = fun c => !w.h c.row.toNat c.col.toNat := ⟨_, rfl⟩
  rw [← hpp]
  obtain ⟨L, hL⟩ : ∃ L, L = selC p n m (0 * m) := ⟨_, rfl⟩
  have hn3 := hw.n3
  have hm4 := hw.m4
  have hLl : L.length ≤ 12 := by rw [hL]; exact sel_len hn3 hm4
  rw [← hL]
  have hn := hw.dims.1
  refine CallH.body 40 [.tmp 2] Tryz.func49 (by kernel_rfl) rfl rfl rfl ?_
  refine Tr.reg [0, 2] (by
      simp only [↓sxd, sxu, ↓zE, ↓exq, Nat.reduceBEq, Nat.reduceLT]
      (all_goals try exact zF)) ?_
  refine Tr.seq ?_
  refine Tr.reg [0, 2, 10, 11, 12] (by
      simp only [↓sxd, sxu, ↓zE, ↓exq, ↓zB, ↓zL, ↓zD, ↓zR, ↓zA, Nat.reduceBEq, Nat.reduceLT, Nat.reduceEqDiff, sxe, tysH21_49, hO]
      (all_goals try exact zF)) ?_
  refine Tr.imp (st' := ⟨[(0, .ptr iw 0 0), (2, .slc nx 2 0 [].length [].length), (10, SL w.rows), (11, I w.rows.length), (12, I 0)], (nx, .arr 2 (vC [])) :: hp, nx + 1, 40, [], nx⟩) (Imp.goV 2 rfl rfl rfl rfl (by repeat' (first | exact trivial | exact F2.nil | refine F2.cons ?_ ?_ | refine TmV.cons rfl VnS.nil ?_ | refine TmV.cons rfl VnS.same ?_ | refine ⟨rfl, ?_⟩ | exact VnO.same _ | refine VnO.arr ?_ | exact VnS.nil | exact VnS.same | exact F2.refl fun _ _ => VnS.same)) (F2.refl fun _ _ => ⟨rfl, VnO.same _⟩)) (Tr.block (Tr.loopI (fun mm ss => ∃ (r : Nat) (l : List HC), (r ≤ n ∧ l ++ selC p n m (r * m) = L) ∧ n - r = mm ∧ ss = ⟨[(0, .ptr iw 0 0), (2, .slc nx 2 0 l.length l.length), (10, SL w.rows), (11, I w.rows.length), (12, I r)], (nx, .arr 2 (vC l)) :: hp, nx + 1, 40, [], nx⟩) _ ⟨0, [], ?_, rfl, rfl⟩ ?_))
  · exact ⟨Nat.zero_le _, hL.symm⟩
  rintro mm ss ⟨r, l, hI, rfl, rfl⟩
  obtain ⟨hrn, hsel⟩ := hI
  refine Tr.reg [0, 2, 10, 11, 12, 13] (by
      simp only [↓sxd, sxu, ↓zE, ↓exq, Nat.reduceBEq, Nat.reduceLT, sxe]
      (all_goals try exact zF)) ?_
  refine Tr.seq ?_
  refine Tr.cond rfl (fun h13 => ?_) (fun h13 => ?_)
  · have hr : r < w.rows.length := by simpa using h13
    have hrl := hw.dim.2 r (by omega)
    refine Tr.skip ?_
    refine Tr.seq ?_
    refine Tr.block ?_
    refine Tr.reg [0, 2, 3, 4, 10, 11, 12] (by
        simp only [↓sxd, sxu, ↓zE, ↓exq, ↓zD, Nat.reduceBEq, Nat.reduceLT, sxe, tysH21_49, hr]
        (all_goals try exact zF)) ?_
    refine Tr.reg [0, 2, 3, 10, 11, 12, 18, 19] (by
        simp only [↓sxd, sxu, ↓zE, ↓exq, ↓zB, ↓zL, Nat.reduceBEq, Nat.reduceLT, sxe, tysH21_49]
        (all_goals try exact zF)) ?_
    refine Tr.imp (st' := ⟨[(0, .ptr iw 0 0), (2, .slc nx 2 0 l.length l.length), (3, I r), (10, SL w.rows), (11, I w.rows.length), (12, I r), (18, I (w.rows.getD r []).length), (19, I 0)], (nx, .arr 2 (vC l)) :: hp, nx + 1, 40, [], nx⟩) (Imp.keepAll) (Tr.block (Tr.loopI (fun mm ss => ∃ (c : Nat) (l2 : List HC), (c ≤ m ∧ l2 ++ selC p n m (r * m + c) = L) ∧ m - c = mm ∧ ss = ⟨[(0, .ptr iw 0 0), (2, .slc nx 2 0 l2.length l2.length), (3, I r), (10, SL w.rows), (11, I w.rows.length), (12, I r), (18, I (w.rows.getD r []).length), (19, I c)], (nx, .arr 2 (vC l2)) :: hp, nx + 1, 40, [], nx⟩) _ ⟨0, l, ?_, rfl, rfl⟩ ?_))
    · exact ⟨Nat.zero_le _, hsel⟩
    rintro mm ss ⟨c, l2, hI, rfl, rfl⟩
    obtain ⟨hcm, hsel2⟩ := hI
    refine Tr.reg [0, 2, 3, 10, 11, 12, 18, 19, 20] (by
        simp only [↓sxd, sxu, ↓zE, ↓exq, Nat.reduceBEq, Nat.reduceLT, sxe]
        (all_goals try exact zF)) ?_
    refine Tr.seq ?_
    refine Tr.cond rfl (fun h20 => ?_) (fun h20 => ?_)
    · have hc0 : c < (w.rows.getD r []).length := by simpa using h20
      have hc : c < m := by omega
      have hi3 := i3 (show r < n by omega) hw.n3
      have hj4 := i4 hc hw.m4
      have hw0 := wob_hid hw.hl (show r < 3 by omega) (show c < 4 by omega)
      have hw1 := wob_hid0 hw.hl (show r < 3 by omega) (show c < 4 by omega)
      have hpe : p ⟨(r : Nat), (c : Nat)⟩ = !w.h r c := by rw [hpp]; rfl
      have hll : l2.length ≤ 12 := by
        rw [← hsel2, List.length_append] at hLl; omega
      have hk2 : (l2.length + 1 ≤ 1073741824) = True := eq_true (by omega)
      have hcn : c + 1 ≤ m := hc
      refine Tr.skip ?_
      refine Tr.seq ?_
      refine Tr.block ?_
      refine Tr.reg [0, 2, 3, 5, 10, 11, 12, 18, 19] (by
          simp only [↓sxd, sxu, ↓zE, ↓exq, Nat.reduceBEq, Nat.reduceLT]
          (all_goals try exact zF)) ?_
      refine Tr.reg [0, 2, 3, 5, 10, 11, 12, 18, 19, 30] (by
          simp only [↓sxd, sxu, ↓zE, ↓exq, ↓zK, ↓zD, ↓zR, ↓zA, Nat.reduceBEq, Nat.reduceLT, Nat.reduceEqDiff, sxe, tysH21_49, e1, hO, hi3, hj4, hw0, hw1]
          (all_goals try exact zF)) ?_
      refine Tr.cond rfl (fun h30 => ?_) (fun h30 => ?_)
      · have hy : p ⟨(r : Nat), (c : Nat)⟩ = true := by rw [hpe]; exact h30
        rw [sel_yes (by omega) hc hy] at hsel2
        refine Tr.reg1 [0, 2, 3, 10, 11, 12, 18, 19] (by
            simp only [↓sxd, sxu, ↓zE, ↓exq, ↓zB, ↓zO, ↓zG, ↓zQ, Nat.reduceBEq, Nat.reduceAdd, Nat.reduceLT, Nat.reduceLeDiff, Nat.reduceEqDiff, tysH21_49, vC_len, hk2]
            (all_goals try exact zF)) ?_
        have w1 : IntKind.i64.wrap ((c : Int) + 1) = ((c + 1 : Nat) : Int) := by rw [wr (by omega) (by omega)]; rfl
        refine Tr.reg1 [0, 2, 3, 10, 11, 12, 18, 19] (by
            simp only [↓sxd, sxu, ↓zE, ↓exq, Nat.reduceBEq, Nat.reduceLT, w1]
            (all_goals try exact zF)) ?_
        first
        | exact ⟨_, _, by omega, Imp.keepAll, ⟨c + 1, l2, ⟨hcn, hsel2⟩, rfl, rfl⟩⟩
        | (refine ⟨_, _, ?_, ?_, ⟨c + 1, l2 ++ [⟨(r : Nat), (c : Nat)⟩], ⟨hcn, by rw [List.append_assoc]; exact hsel2⟩, rfl, rfl⟩⟩
           · omega
           · rw [List.length_append, List.length_singleton, vC_snoc]
             exact Imp.go (rg nx 1) _ rfl rfl (List.Sublist.refl _) (fun id h => rg_lt h) (fun id h => by rw [rg_ge (by omega)]; show nx + 1 + 1 ≤ id + 1; omega) (.cons rfl (TnS.ptr (rg_lt hiw)) (.cons rfl (TnS.slc (rg_ge (Nat.le_refl _))) (.cons rfl (TnS.d _) (.cons rfl (TnS.d _) (.cons rfl (TnS.d _) (.cons rfl (TnS.d _) (.cons rfl (TnS.d _) (.cons rfl (TnS.d _) trivial)))))))) (.cons ⟨(rg_ge (Nat.le_refl _)).symm, TnO.arr (F2.append (vC_tn _) (.cons (.cons (TnS.d _) (.cons (TnS.d _) .nil)) .nil))⟩ (hfix.f2 fun i hi => rg_lt hi)) (fun h => h))
      · have hy : p ⟨(r : Nat), (c : Nat)⟩ = false := by rw [hpe]; exact h30
        rw [sel_no (by omega) hc hy] at hsel2
        refine Tr.skip ?_
        have w1 : IntKind.i64.wrap ((c : Int) + 1) = ((c + 1 : Nat) : Int) := by rw [wr (by omega) (by omega)]; rfl
        refine Tr.reg1 [0, 2, 3, 10, 11, 12, 18, 19] (by
            simp only [↓sxd, sxu, ↓zE, ↓exq, Nat.reduceBEq, Nat.reduceLT, w1]
            (all_goals try exact zF)) ?_
        first
        | exact ⟨_, _, by omega, Imp.keepAll, ⟨c + 1, l2, ⟨hcn, hsel2⟩, rfl, rfl⟩⟩
        | (refine ⟨_, _, ?_, ?_, ⟨c + 1, l2 ++ [⟨(r : Nat), (c : Nat)⟩], ⟨hcn, by rw [List.append_assoc]; exact hsel2⟩, rfl, rfl⟩⟩
           · omega
           · rw [List.length_append, List.length_singleton, vC_snoc]
             exact Imp.go (rg nx 1) _ rfl rfl (List.Sublist.refl _) (fun id h => rg_lt h) (fun id h => by rw [rg_ge (by omega)]; show nx + 1 + 1 ≤ id + 1; omega) (.cons rfl (TnS.ptr (rg_lt hiw)) (.cons rfl (TnS.slc (rg_ge (Nat.le_refl _))) (.cons rfl (TnS.d _) (.cons rfl (TnS.d _) (.cons rfl (TnS.d _) (.cons rfl (TnS.d _) (.cons rfl (TnS.d _) (.cons rfl (TnS.d _) trivial)))))))) (.cons ⟨(rg_ge (Nat.le_refl _)).symm, TnO.arr (F2.append (vC_tn _) (.cons (.cons (TnS.d _) (.cons (TnS.d _) .nil)) .nil))⟩ (hfix.f2 fun i hi => rg_lt hi)) (fun h => h))
    · have hc0 : ¬ c < (w.rows.getD r []).length := by simpa using h20
      have hc : c = m := by omega
      subst hc
      refine Tr.exit ?_
      have w1 : IntKind.i64.wrap ((r : Int) + 1) = ((r + 1 : Nat) : Int) := by rw [wr (by omega) (by omega)]; rfl
      refine Tr.reg1 [0, 2, 10, 11, 12] (by
          simp only [↓sxd, sxu, ↓zE, ↓exq, Nat.reduceBEq, Nat.reduceLT, w1]
          (all_goals try exact zF)) ?_
      exact ⟨_, _, by omega, Imp.keepAll, ⟨r + 1, _, ⟨by omega, by rw [Nat.succ_mul]; exact hsel2⟩, rfl, rfl⟩⟩
  · have hr : r = n := by simp at h13; omega
    subst hr
    rw [sel_end, List.append_nil] at hsel
    subst hsel
    refine Tr.exit ?_
    refine Tr.reg [2] (by
        simp only [↓sxd, sxu, ↓zE, ↓exq, Nat.reduceBEq, Nat.reduceLT]
        (all_goals try exact zF)) ?_
    refine Tr.ret ?_
    exact ⟨.inr rfl, _, rfl, rfl, rfl, rfl⟩
theorem bestG_sub {F : List HC} {g : List HC → Bool} {W : List HC → List HC} : ∀ r many, (bestG F g W r many).Sublist F
  | 0, _ => List.nil_sublist _
  | r + 1, many => by
    rw [bestG]
    split
    · exact inner_sub _
    · exact bestG_sub r (many + 1)
def HT.hideA (t : HT) (l : List HC) (q : List HQ) : List HC × Int := if t.askE l q ≠ 0 then ([], t.askE l q) else t.hide l q
abbrev tysH21_18 := And.intro ty.sz0 <| And.intro ty.agg0 <| And.intro ty.elem0 <| And.intro ty.sz4 <| And.intro ty.agg4 <| And.intro ty.elem4 <| And.intro ty.zero4 <| And.intro ty.und4 <| And.intro ty.sz29 <| And.intro ty.agg29 <| And.intro ty.elem29 <| And.intro ty.zero29 <| And.intro ty.und29 <| And.intro ty.sz32 <| And.intro ty.agg32 <| And.intro ty.fld32_0 <| And.intro ty.fld32_1 <| And.intro ty.elem32 <| And.intro ty.zero32 <| And.intro ty.pl32 <| And.intro ty.sz34 <| And.intro ty.agg34 <| And.intro ty.elem34 <| And.intro ty.by34 <| And.intro ty.ez34 <| And.intro ty.zero34 <| And.intro ty.und34 <| And.intro ty.sz36 <| And.intro ty.agg36 <| And.intro ty.elem36 <| And.intro ty.by36 <| And.intro ty.ez36 <| And.intro ty.zero36 <| And.intro ty.und36 <| And.intro ty.sz83 <| And.intro ty.agg83 <| And.intro ty.elem83 <| And.intro ty.zero83 <| And.intro ty.sz84 <| And.intro ty.agg84 <| And.intro ty.elem84 <| And.intro ty.sz89 <| And.intro ty.agg89 <| And.intro ty.elem89 <| ty.zero89
theorem HideE_c (t : HT) (l : List HC) (q : List HQ) (hs : small8 t.rows) (hl : l.length ≤ 1000) (hpub : t.pub l ≠ 0) : CallP Tryz.prog G0 18 [t.s, SC l, SQ q] (.tup [SC (t.hideA l q).1, I (t.hideA l q).2]) := by
  have hA : t.askE l q = t.pub l := by unfold HT.askE; rw [if_pos hpub]
  have hE : t.hideA l q = ([], t.pub l) := by unfold HT.hideA; rw [hA, if_pos hpub]
  rw [hE]
  refine CallP.body 42 [.tmp 6, .tmp 7] Tryz.func18 (by kernel_rfl) rfl rfl rfl zP zP ?_
  refine Tr.reg [1, 2, 3] (by
      simp only [↓sxd, sxu, ↓zE, ↓exq, ↓zM, Nat.reduceBEq, Nat.reduceAdd, Nat.reduceLT, Nat.reduceEqDiff]
      (all_goals try exact zF)) ?_
  refine Tr.reg [2, 8, 9] (by
      simp only [↓sxd, sxu, ↓zE, ↓exq, ↓zD, Nat.reduceBEq, Nat.reduceAdd, Nat.reduceLT, tysH21_18]
      (repeat ((with_reducible refine And.intro ?_ ?_); (focus (exact zS))))
      refine CallH.mono (askedE_h t l q hs hl hpub _ _ (TnFix.cons (show 0 < 1 by decide) (fun _ _ _ _ => TnO.arr zT) (TnFix.nil _))) ?_
      rintro r' hp' nx' ⟨rfl, rfl, rfl⟩
      try simp only [↓sxd, sxu, ↓zE, ↓exq, ↓zH, Nat.reduceBEq, Nat.reduceAdd, Nat.reduceLT]
      (all_goals try exact zF)) ?_
  refine Tr.seq ?_
  refine Tr.reg [2, 8, 9, 20] (by
      simp only [↓sxd, sxu, ↓zE, ↓exq, Nat.reduceBEq, Nat.reduceLT]
      (all_goals try exact zF)) ?_
  refine Tr.cond rfl (fun h20 => ?_) (fun h20 => ?_)
  · refine Tr.reg [6, 7] (by
        simp only [↓sxd, sxu, ↓zE, ↓exq, Nat.reduceBEq, Nat.reduceLT]
        (all_goals try exact zF)) ?_
    refine Tr.imp (Imp.fin (tm' := [(6, SC []), (7, I (t.pub l))]) (.cons rfl (TnS.dxd _) (.cons rfl (TnS.d _) trivial))) ?_
    refine Tr.ret ?_
    (refine ⟨.inr rfl, ?_⟩; first | rfl | exact ⟨rfl, rfl, trivial⟩ | exact ⟨rfl, rfl, rfl, trivial⟩ | (simp only [Res, ResL, ResOK, ↓sxd, sxu, ↓zE, ↓zC, zJ, ↓exP, ↓exq, ↓zB, ↓zK, ↓zD, ↓zH, ↓zM, Nat.reduceBEq, Nat.reduceAdd, Nat.reduceLT, Nat.reduceMul, Nat.reduceSub, Nat.reduceLeDiff, Nat.reduceEqDiff, Int.reduceLE, Int.reduceLT, Int.reduceToNat, reduceIte, sxe, tysH21_18]; (repeat' (first | rfl | exact trivial | exact fun h => h | exact fun h => (by rw [h]; rfl) | apply And.intro | omega | exact Nat.le_of_ble_eq_true rfl))))
  · exact absurd (by simpa using h20) hpub
theorem HideB_c (t : HT) (l : List HC) (q : List HQ) (hs : small8 t.rows) (hl : l.length ≤ 1000) (hq : q.length ≤ 1000) (hpub : t.pub l = 0) (hask : t.askE l q ≠ 0) : CallP Tryz.prog G0 18 [t.s, SC l, SQ q] (.tup [SC (t.hideA l q).1, I (t.hideA l q).2]) := by
  have hE : t.hideA l q = ([], t.askE l q) := by unfold HT.hideA; rw [if_pos hask]
  rw [hE]
  refine CallP.body 42 [.tmp 6, .tmp 7] Tryz.func18 (by kernel_rfl) rfl rfl rfl zP zP ?_
  refine Tr.reg [1, 2, 3] (by
      simp only [↓sxd, sxu, ↓zE, ↓exq, ↓zM, Nat.reduceBEq, Nat.reduceAdd, Nat.reduceLT, Nat.reduceEqDiff]
      (all_goals try exact zF)) ?_
  refine Tr.reg [2, 8, 9] (by
      simp only [↓sxd, sxu, ↓zE, ↓exq, ↓zD, Nat.reduceBEq, Nat.reduceAdd, Nat.reduceLT, tysH21_18]
      (repeat ((with_reducible refine And.intro ?_ ?_); (focus (exact zS))))
      refine askedO_h t l q hs hl hq hpub _ _ (TnFix.cons (show 0 < 1 by decide) (fun _ _ _ _ => TnO.arr zT) (TnFix.nil _)) _ (fun h => absurd h hask) (fun _ => ?_)
      try simp only [↓sxd, sxu, ↓zE, ↓exq, ↓zH, Nat.reduceBEq, Nat.reduceAdd, Nat.reduceLT]
      (all_goals try exact zF)) ?_
  refine Tr.seq ?_
  refine Tr.reg [2, 8, 9, 20] (by
      simp only [↓sxd, sxu, ↓zE, ↓exq, Nat.reduceBEq, Nat.reduceLT]
      (all_goals try exact zF)) ?_
  refine Tr.cond rfl (fun h20 => ?_) (fun h20 => ?_)
  · refine Tr.reg [6, 7] (by
        simp only [↓sxd, sxu, ↓zE, ↓exq, Nat.reduceBEq, Nat.reduceLT]
        (all_goals try exact zF)) ?_
    refine Tr.imp (Imp.fin (tm' := [(6, SC []), (7, I (t.askE l q))]) (.cons rfl (TnS.dxd _) (.cons rfl (TnS.d _) trivial))) ?_
    refine Tr.ret ?_
    (refine ⟨.inr rfl, ?_⟩; first | rfl | exact ⟨rfl, rfl, trivial⟩ | exact ⟨rfl, rfl, rfl, trivial⟩ | (simp only [Res, ResL, ResOK, ↓sxd, sxu, ↓zE, ↓zC, zJ, ↓exP, ↓exq, ↓zB, ↓zK, ↓zD, ↓zH, ↓zM, Nat.reduceBEq, Nat.reduceAdd, Nat.reduceLT, Nat.reduceMul, Nat.reduceSub, Nat.reduceLeDiff, Nat.reduceEqDiff, Int.reduceLE, Int.reduceLT, Int.reduceToNat, reduceIte, sxe, tysH21_18]; (repeat' (first | rfl | exact trivial | exact fun h => h | exact fun h => (by rw [h]; rfl) | apply And.intro | omega | exact Nat.le_of_ble_eq_true rfl))))
  · exact absurd (by simpa using h20) hask
set_option maxHeartbeats 1000000 in
theorem HideO_c (t : HT) (l : List HC) (q : List HQ) (hs : small8 t.rows) (hl : l.length ≤ 1000) (hq : q.length ≤ 1000) (hask : t.askE l q = 0) : CallP Tryz.prog G0 18 [t.s, SC l, SQ q] (.tup [SC (t.hideA l q).1, I (t.hideA l q).2]) := by
  obtain ⟨hpub, hq8, hall⟩ := askE_ok hask
  have hw := HT.w_ok hpub
  have hlen := free_cells_len hw
  have hcell := fun c => free_cell hpub (c := c)
  have hSok := markS_ok hpub (List.Sublist.refl (t.w l).free)
  have hht : t.rows = (t.w l).rows := rfl
  have hbest := best_h t l q hpub hall hq8
  have hE : t.hideA l q = if ((t.w l).mark (t.w l).free true).good q = true then ((t.w l).with ((t.w l).best (t.w l).free q), 0) else ([], 11) := by unfold HT.hideA; rw [if_neg (by simp [hask])]; rfl
  rw [hE]
  have hbsub : ((t.w l).best (t.w l).free q).Sublist (t.w l).free := bestG_sub _ _
  have hbk : ((t.w l).mark (t.w l).free true).mark (t.w l).free false = t.w l := mark_back hw.hl fun c hc => (hcell c hc).2
  refine CallP.body 42 [.tmp 6, .tmp 7] Tryz.func18 (by kernel_rfl) rfl rfl rfl zP zP ?_
  refine Tr.reg [1, 2, 3] (by
      simp only [↓sxd, sxu, ↓zE, ↓exq, ↓zM, Nat.reduceBEq, Nat.reduceAdd, Nat.reduceLT, Nat.reduceEqDiff]
      (all_goals try exact zF)) ?_
  refine Tr.reg [2, 8, 9] (by
      simp only [↓sxd, sxu, ↓zE, ↓exq, ↓zD, Nat.reduceBEq, Nat.reduceAdd, Nat.reduceLT, tysH21_18]
      (repeat ((with_reducible refine And.intro ?_ ?_); (focus (exact zS))))
      refine askedO_h t l q hs hl hq hpub _ _ (TnFix.cons (show 0 < 1 by decide) (fun _ _ _ _ => TnO.arr zT) (TnFix.nil _)) _ (fun _ => ?_) (fun h => absurd hask h)
      try simp only [↓sxd, sxu, ↓zE, ↓exq, ↓zH, Nat.reduceBEq, Nat.reduceAdd, Nat.reduceLT]
      (all_goals try exact zF)) ?_
  obtain ⟨w, hwe⟩ : ∃ w, w = t.w l := ⟨_, rfl⟩
  rw [← hwe] at hw hlen hcell hSok hht hbest hbsub hbk ⊢
  have hfx : ∀ h', TnFix 1 [(0, wob w.rows w.cap h')] := fun h' => TnFix.cons (show 0 < 1 by decide) (fun r h1 h2 _ => wob_tn r h1 h2) (TnFix.nil _)
  refine Tr.seq ?_
  refine Tr.reg [2, 8, 9, 20] (by
      simp only [↓sxd, sxu, ↓zE, ↓exq, Nat.reduceBEq, Nat.reduceLT]
      (all_goals try exact zF)) ?_
  refine Tr.cond rfl (fun h20 => ?_) (fun h20 => ?_)
  · cases h20
  · refine Tr.skip ?_
    refine Tr.imp (st' := ⟨[(2, SQ q), (8, .ptr 0 0 0)], [(0, wob w.rows w.cap w.hid)], 1, 42, [], 0⟩) (Imp.go (fun i => i + 1) [(1, _)] rfl rfl (.cons_cons _ (.cons _ .slnil)) (fun _ h => absurd h (Nat.not_lt_zero _)) (fun id h => Nat.add_le_add_right h 1) (.cons rfl (TnS.d _) (.cons rfl (TnS.ptr rfl) trivial)) (.cons ⟨rfl, by subst hwe; exact wob_tn _ _ _⟩ .nil) (fun h => h)) ?_
    refine Tr.reg [2, 8, 10] (by
        simp only [↓sxd, sxu, ↓zE, ↓exq, Nat.reduceBEq, Nat.reduceLT]
        (repeat ((with_reducible refine And.intro ?_ ?_); (focus (exact zS))))
        refine CallH.mono (freeO_h hw _ 1 0 (hfx _) rfl) ?_
        rintro r' hp' nx' ⟨rfl, rfl, rfl⟩
        try simp only [↓sxd, sxu, ↓zE, ↓exq, Nat.reduceBEq, Nat.reduceAdd, Nat.reduceLT]
        (all_goals try exact zF)) ?_
    refine Tr.imp (st' := ⟨[(2, SQ q), (8, .ptr 0 0 0), (10, SC w.free)], [(0, wob w.rows w.cap w.hid)], 1, 42, [], 0⟩) (Imp.go (rg 1 1) [(0, _)] rfl rfl (.cons _ (.refl _)) (fun _ h => absurd h (Nat.not_lt_zero _)) (fun id h => by rw [rg_ge h]; show 2 ≤ id + 1; omega) (.cons rfl (TnS.d _) (.cons rfl (TnS.ptr rfl) (.cons rfl (TnS.frz0 (es := vC w.free) rfl (by simp) (by decide) (vC_len _) (vC_fz _)) trivial))) (.cons ⟨rfl, wob_tn _ _ _⟩ .nil) (fun h => h)) ?_
    refine Tr.reg [2, 8, 10] (by
        simp only [↓sxd, sxu, ↓zE, ↓exq, Nat.reduceBEq, Nat.reduceLT]
        (repeat ((with_reducible refine And.intro ?_ ?_); (focus (exact zS))))
        refine CallH.mono (mark_h w.rows w.cap w.hid hw.hl w.free true (fun c hc => (hcell c hc).1) (by omega) _ 1 0 (hfx _) rfl) ?_
        rintro r' hp' nx' ⟨rfl, rfl⟩
        try simp only [↓sxd, sxu, Nat.reduceBEq]
        (all_goals try exact zF)) ?_
    rw [show w.free.foldl (fun h c => h.set c.key true) w.hid = (w.mark w.free true).hid from rfl]
    refine Tr.reg [2, 8, 10, 11] (by
        simp only [↓sxd, sxu, ↓zE, ↓exq, Nat.reduceBEq, Nat.reduceLT]
        (repeat ((with_reducible refine And.intro ?_ ?_); (focus (exact zS))))
        refine CallO.useB [] (allQ_c (w.mark w.free true).sat q (by omega) 45 [.dp (w.mark w.free true).d] [] zP zP (fun x hx => satisfied_c hSok hht (List.all_eq_true.1 hall x hx))) (List.nil_sublist _) (.cons (TnS.d _) (.cons (TnS.clo (.cons (wob_fz rfl (by simp)) .nil) .nil) .nil)) (Rigid.lit _) ?_
        try simp only [↓sxd, sxu, ↓zE, ↓exq, Nat.reduceBEq, Nat.reduceLT]
        (all_goals try exact zF)) ?_
    refine Tr.reg [2, 8, 10, 11] (by
        simp only [↓sxd, sxu, ↓zE, ↓exq, Nat.reduceBEq, Nat.reduceLT]
        (repeat ((with_reducible refine And.intro ?_ ?_); (focus (exact zS))))
        refine CallH.mono (mark_h w.rows w.cap (w.mark w.free true).hid (by unfold HW.mark; rw [foldSet_len]; exact hw.hl) w.free false (fun c hc => (hcell c hc).1) (by omega) _ 1 0 (hfx _) rfl) ?_
        rintro r' hp' nx' ⟨rfl, rfl⟩
        try simp only [↓sxd, sxu, Nat.reduceBEq]
        (all_goals try exact zF)) ?_
    rw [show w.free.foldl (fun h c => h.set c.key false) (w.mark w.free true).hid = w.hid from congrArg HW.hid hbk]
    refine Tr.seq ?_
    refine Tr.reg [2, 8, 10, 35] (by
        simp only [↓sxd, sxu, ↓zE, ↓exq, ↓zK, Nat.reduceBEq, Nat.reduceLT]
        (all_goals try exact zF)) ?_
    refine Tr.cond rfl (fun h35 => ?_) (fun h35 => ?_)
    · have hg : (w.mark w.free true).good q = false := by
        have h' : (!(w.mark w.free true).good q) = true := h35
        simpa using h'
      rw [if_neg (by rw [hg]; decide)]
      refine Tr.reg [6, 7] (by
          simp only [↓sxd, sxu, ↓zE, ↓exq, Nat.reduceBEq, Nat.reduceLT]
          (all_goals try exact zF)) ?_
      refine Tr.imp (Imp.fin (tm' := [(6, SC []), (7, I 11)]) (.cons rfl (TnS.dxd _) (.cons rfl (TnS.d _) trivial))) ?_
      refine Tr.ret ?_
      (refine ⟨.inr rfl, ?_⟩; first | rfl | exact ⟨rfl, rfl, trivial⟩ | exact ⟨rfl, rfl, rfl, trivial⟩ | (simp only [Res, ResL, ResOK, ↓sxd, sxu, ↓zE, ↓zC, zJ, ↓exP, ↓exq, ↓zB, ↓zK, ↓zD, ↓zH, ↓zM, Nat.reduceBEq, Nat.reduceAdd, Nat.reduceLT, Nat.reduceMul, Nat.reduceSub, Nat.reduceLeDiff, Nat.reduceEqDiff, Int.reduceLE, Int.reduceLT, Int.reduceToNat, reduceIte, sxe, tysH21_18]; (repeat' (first | rfl | exact trivial | exact fun h => h | exact fun h => (by rw [h]; rfl) | apply And.intro | omega | exact Nat.le_of_ble_eq_true rfl))))
    · have hg : (w.mark w.free true).good q = true := by
        have h' : (!(w.mark w.free true).good q) = false := h35
        simpa using h'
      rw [if_pos hg]
      refine Tr.skip ?_
      refine Tr.reg [6, 7] (by
          simp only [↓sxd, sxu, ↓zE, ↓exq, Nat.reduceBEq, Nat.reduceLT]
          (repeat ((with_reducible refine And.intro ?_ ?_); (focus (exact zS))))
          refine CallH.mono hbest ?_
          rintro r' hp' nx' ⟨rfl, rfl, rfl⟩
          try simp only [↓sxd, sxu, ↓zE, Nat.reduceBEq, Nat.reduceLT]
          (repeat ((with_reducible refine And.intro ?_ ?_); (focus (exact zS))))
          refine CallO.useZ [] (with_c hw (w.best w.free q) (by rw [List.length_append]; have := hbsub.length_le; omega)) (List.nil_sublist _) (.cons (wob_fz rfl (by simp)) (.cons (TnS.d _) .nil)) ?_
          try simp only [↓sxd, sxu, ↓zE, ↓exq, Nat.reduceBEq, Nat.reduceLT]
          (all_goals try exact zF)) ?_
      refine Tr.ret ?_
      (refine ⟨.inr rfl, ?_⟩; first | rfl | exact ⟨rfl, rfl, trivial⟩ | exact ⟨rfl, rfl, rfl, trivial⟩ | (simp only [Res, ResL, ResOK, ↓sxd, sxu, ↓zE, ↓zC, zJ, ↓exP, ↓exq, ↓zB, ↓zK, ↓zD, ↓zH, ↓zM, Nat.reduceBEq, Nat.reduceAdd, Nat.reduceLT, Nat.reduceMul, Nat.reduceSub, Nat.reduceLeDiff, Nat.reduceEqDiff, Int.reduceLE, Int.reduceLT, Int.reduceToNat, reduceIte, sxe, tysH21_18]; (repeat' (first | rfl | exact trivial | exact fun h => h | exact fun h => (by rw [h]; rfl) | apply And.intro | omega | exact Nat.le_of_ble_eq_true rfl))))
theorem Hide_c (t : HT) (l : List HC) (q : List HQ) (hs : small8 t.rows) (hl : l.length ≤ 1000) (hq : q.length ≤ 1000) : CallP Tryz.prog G0 18 [t.s, SC l, SQ q] (.tup [SC (t.hideA l q).1, I (t.hideA l q).2]) := by
  by_cases h : t.askE l q = 0
  · exact HideO_c t l q hs hl hq h
  · by_cases hp : t.pub l = 0
    · exact HideB_c t l q hs hl hq hp h
    · exact HideE_c t l q hs hl hp
theorem refsTo_eq (b m : Nat) : ∀ n, refsTo b m n = refsS 1 b m n
  | 0 => rfl
  | n + 1 => by rw [refsTo, refsS, refsTo_eq b m n]
theorem list_range {rows : Rows8} {n : Nat} (h : rows.length = n) : (List.range n).map (fun i => rows.getD i []) = rows := by
  refine List.ext_getElem (by simp [h]) fun k h1 h2 => ?_
  simp [List.getD_eq_getElem?_getD, h2]
theorem mat_fz {o n m : Nat} {rows : Rows8} {hp : HpT} (hd : Dim n m rows) (r : Nat → Nat) : TnS r (MatH o n m rows hp) [] (.slc o 1 0 n n) (SL rows) := by
  refine TnS.frz0 (es := refsTo (o + 1) m n) (MatH_in o n m rows hp).out (fun p hp => by cases hp) (by decide) (refs_len _ _ _) ?_
  have e : dL rows = (List.range n).map fun i => [.sl (dI (rows.getD i []))] := by
    conv => lhs; rw [← list_range hd.1]
    rw [dL, List.map_map]; rfl
  rw [e, refsTo_eq]
  refine refsS_fz (fun i => dI (rows.getD i [])) n fun i hi => ?_
  exact TnS.frz0 (es := vI (rows.getD i [])) (MatH_look hi) (fun p hp => by cases hp) (by decide) (by rw [vI_len, hd.2 i hi]) (by rw [dI]; exact F2.map fun _ _ => .cons (TnS.d _) .nil)
def HT.showA (t : HT) (l : List HC) (c : HC) (up : Bool) : Rows8 × Int := if t.pub l ≠ 0 then ([], t.pub l) else if t.isCell c = false then ([], 2) else ((t.w l).reach up c.row.toNat c.col.toNat, 0)
abbrev tysH21_38 := And.intro ty.sz0 <| And.intro ty.agg0 <| And.intro ty.elem0 <| And.intro ty.sz4 <| And.intro ty.agg4 <| And.intro ty.elem4 <| And.intro ty.zero4 <| And.intro ty.und4 <| And.intro ty.sz22 <| And.intro ty.agg22 <| And.intro ty.elem22 <| And.intro ty.by22 <| And.intro ty.ez22 <| And.intro ty.zero22 <| And.intro ty.und22 <| And.intro ty.sz29 <| And.intro ty.agg29 <| And.intro ty.elem29 <| And.intro ty.zero29 <| And.intro ty.und29 <| And.intro ty.sz32 <| And.intro ty.agg32 <| And.intro ty.fld32_0 <| And.intro ty.fld32_1 <| And.intro ty.elem32 <| And.intro ty.zero32 <| And.intro ty.pl32 <| And.intro ty.sz34 <| And.intro ty.agg34 <| And.intro ty.elem34 <| And.intro ty.by34 <| And.intro ty.ez34 <| And.intro ty.zero34 <| And.intro ty.und34 <| And.intro ty.sz79 <| And.intro ty.agg79 <| And.intro ty.fld79_0 <| And.intro ty.fld79_1 <| And.intro ty.elem79 <| And.intro ty.zero79 <| And.intro ty.pl79 <| And.intro ty.sz83 <| And.intro ty.agg83 <| And.intro ty.elem83 <| And.intro ty.zero83 <| And.intro ty.sz84 <| And.intro ty.agg84 <| And.intro ty.elem84 <| And.intro ty.sz120 <| And.intro ty.agg120 <| And.intro ty.fld120_0 <| And.intro ty.elem120 <| And.intro ty.zero120 <| ty.pl120
theorem ShowE_c (t : HT) (l : List HC) (c : HC) (up : Bool) (hs : small8 t.rows) (hl : l.length ≤ 1000) (hpub : t.pub l ≠ 0) : CallP Tryz.prog G0 38 [t.s, SC l, c.s, B up] (.tup [SL (t.showA l c up).1, I (t.showA l c up).2]) := by
  have hE : t.showA l c up = ([], t.pub l) := by unfold HT.showA; rw [if_pos hpub]
  rw [hE]
  refine CallP.body 37 [.tmp 8, .tmp 9] Tryz.func38 (by kernel_rfl) rfl rfl rfl zP zP ?_
  refine Tr.reg [1, 3, 4, 6] (by
      simp only [↓sxd, sxu, ↓zE, ↓exq, ↓zM, Nat.reduceBEq, Nat.reduceAdd, Nat.reduceLT, Nat.reduceEqDiff]
      (all_goals try exact zF)) ?_
  refine Tr.reg [3, 4, 6, 10, 11] (by
      simp only [↓sxd, sxu, ↓zE, ↓exq, ↓zD, Nat.reduceBEq, Nat.reduceAdd, Nat.reduceLT, tysH21_38]
      (repeat ((with_reducible refine And.intro ?_ ?_); (focus (exact zS))))
      refine work_h t l hs hl _ _ (TnFix.cons (show 1 < 2 by decide) (fun _ _ _ _ => TnO.arr zT) (TnFix.cons (show 0 < 2 by decide) (fun _ _ _ _ => TnO.arr zT) (TnFix.nil _))) _ (fun h => absurd h hpub) (fun _ => ?_)
      try simp only [↓sxd, sxu, ↓zE, ↓exq, ↓zH, Nat.reduceBEq, Nat.reduceAdd, Nat.reduceLT]
      (all_goals try exact zF)) ?_
  refine Tr.seq ?_
  refine Tr.block ?_
  refine Tr.reg [3, 4, 6, 10, 11, 18] (by
      simp only [↓sxd, sxu, ↓zE, ↓exq, Nat.reduceBEq, Nat.reduceLT]
      (all_goals try exact zF)) ?_
  refine Tr.cond rfl (fun h18 => ?_) (fun h18 => ?_)
  · refine Tr.reg [8, 9] (by
        simp only [↓sxd, sxu, ↓zE, ↓exq, Nat.reduceBEq, Nat.reduceLT]
        (all_goals try exact zF)) ?_
    refine Tr.imp (Imp.fin (tm' := [(8, SL []), (9, I (t.pub l))]) (.cons rfl (TnS.dxd _) (.cons rfl (TnS.d _) trivial))) ?_
    refine Tr.ret ?_
    (refine ⟨.inr rfl, ?_⟩; first | rfl | exact ⟨rfl, rfl, trivial⟩ | exact ⟨rfl, rfl, rfl, trivial⟩ | (simp only [Res, ResL, ResOK, ↓sxd, sxu, ↓zE, ↓zC, zJ, ↓exP, ↓exq, ↓zB, ↓zK, ↓zD, ↓zH, ↓zM, ↓zO, Nat.reduceBEq, Nat.reduceAdd, Nat.reduceLT, Nat.reduceMul, Nat.reduceSub, Nat.reduceLeDiff, Nat.reduceEqDiff, Int.reduceLE, Int.reduceLT, Int.reduceToNat, reduceIte, sxe, tysH21_38]; (repeat' (first | rfl | exact trivial | exact fun h => h | exact fun h => (by rw [h]; rfl) | apply And.intro | omega | exact Nat.le_of_ble_eq_true rfl))))
  · exact absurd (by simpa using h18) hpub
set_option maxHeartbeats 1000000 in
theorem ShowO_c (t : HT) (l : List HC) (q : HC) (up : Bool) (hs : small8 t.rows) (hl : l.length ≤ 1000) (hpub : t.pub l = 0) : CallP Tryz.prog G0 38 [t.s, SC l, q.s, B up] (.tup [SL (t.showA l q up).1, I (t.showA l q up).2]) := by
  have hw := HT.w_ok hpub
  have h0 : 0 < t.rows.length := hw.n0
  have hE : t.showA l q up = if t.isCell q = false then ([], 2) else ((t.w l).reach up q.row.toNat q.col.toNat, 0) := by unfold HT.showA; rw [if_neg (by simp [hpub])]
  rw [hE]
  refine CallP.body 37 [.tmp 8, .tmp 9] Tryz.func38 (by kernel_rfl) rfl rfl rfl zP zP ?_
  refine Tr.reg [1, 3, 4, 6] (by
      simp only [↓sxd, sxu, ↓zE, ↓exq, ↓zM, Nat.reduceBEq, Nat.reduceAdd, Nat.reduceLT, Nat.reduceEqDiff]
      (all_goals try exact zF)) ?_
  refine Tr.reg [3, 4, 6, 10, 11] (by
      simp only [↓sxd, sxu, ↓zE, ↓exq, ↓zD, Nat.reduceBEq, Nat.reduceAdd, Nat.reduceLT, tysH21_38]
      (repeat ((with_reducible refine And.intro ?_ ?_); (focus (exact zS))))
      refine work_h t l hs hl _ _ (TnFix.cons (show 1 < 2 by decide) (fun _ _ _ _ => TnO.arr zT) (TnFix.cons (show 0 < 2 by decide) (fun _ _ _ _ => TnO.arr zT) (TnFix.nil _))) _ (fun _ => ?_) (fun h => absurd hpub h)
      try simp only [↓sxd, sxu, ↓zE, ↓exq, ↓zH, Nat.reduceBEq, Nat.reduceAdd, Nat.reduceLT]
      (all_goals try exact zF)) ?_
  refine Tr.seq ?_
  refine Tr.block ?_
  refine Tr.reg [3, 4, 6, 10, 11, 18] (by
      simp only [↓sxd, sxu, ↓zE, ↓exq, Nat.reduceBEq, Nat.reduceLT]
      (all_goals try exact zF)) ?_
  refine Tr.cond rfl (fun h18 => ?_) (fun h18 => ?_)
  · cases h18
  · refine Tr.reg [3, 6, 10, 22] (by
        simp only [↓sxd, sxu, ↓zE, ↓exq, ↓zD, Nat.reduceBEq, Nat.reduceAdd, Nat.reduceLT, tysH21_38]
        (repeat ((with_reducible refine And.intro ?_ ?_); (focus (exact zS))))
        refine CallO.use (cell_c t q hs h0) ?_
        try simp only [↓sxd, sxu, ↓zE, ↓exq, ↓zK, Nat.reduceBEq, Nat.reduceLT]
        (all_goals try exact zF)) ?_
    refine Tr.cond rfl (fun h22 => ?_) (fun h22 => ?_)
    · have hb : t.isCell q = false := by simpa using h22
      rw [if_pos hb]
      refine Tr.reg [8, 9] (by
          simp only [↓sxd, sxu, ↓zE, ↓exq, Nat.reduceBEq, Nat.reduceLT]
          (all_goals try exact zF)) ?_
      refine Tr.imp (Imp.fin (tm' := [(8, SL []), (9, I 2)]) (.cons rfl (TnS.dxd _) (.cons rfl (TnS.d _) trivial))) ?_
      refine Tr.ret ?_
      (refine ⟨.inr rfl, ?_⟩; first | rfl | exact ⟨rfl, rfl, trivial⟩ | exact ⟨rfl, rfl, rfl, trivial⟩ | (simp only [Res, ResL, ResOK, ↓sxd, sxu, ↓zE, ↓zC, zJ, ↓exP, ↓exq, ↓zB, ↓zK, ↓zD, ↓zH, ↓zM, ↓zO, Nat.reduceBEq, Nat.reduceAdd, Nat.reduceLT, Nat.reduceMul, Nat.reduceSub, Nat.reduceLeDiff, Nat.reduceEqDiff, Int.reduceLE, Int.reduceLT, Int.reduceToNat, reduceIte, sxe, tysH21_38]; (repeat' (first | rfl | exact trivial | exact fun h => h | exact fun h => (by rw [h]; rfl) | apply And.intro | omega | exact Nat.le_of_ble_eq_true rfl))))
    · have hb : t.isCell q = true := by simpa using h22
      rw [if_neg (by rw [hb]; decide)]
      have hin := (HT.isCell_iff (n := t.rows.length) (m := (t.rows.getD 0 []).length) rfl rfl).1 hb
      obtain ⟨row, col⟩ := q
      simp only at hin
      obtain ⟨r, rfl⟩ := Int.eq_ofNat_of_zero_le hin.1
      obtain ⟨c, rfl⟩ := Int.eq_ofNat_of_zero_le hin.2.2.1
      have hr : r < t.rows.length := by omega
      have hc : c < (t.rows.getD 0 []).length := by omega
      have hfx : TnFix 1 [(0, .arr 2 [[I (r : Nat), I (c : Nat)]])] := TnFix.cons (show 0 < 1 by decide) (fun _ _ _ _ => TnO.arr zT) (TnFix.nil _)
      refine Tr.reg [6, 10, 27] (by
          simp only [↓sxd, sxu, ↓zE, ↓exq, Nat.reduceBEq, Nat.reduceLT]
          (all_goals try exact zF)) ?_
      refine Tr.cond rfl (fun h27 => ?_) (fun h27 => ?_)
      · have hu : up = true := h27
        subst hu
        refine Tr.imp (st' := ⟨[(6, .ptr 0 0 0), (10, .dp (t.w l).d)], [(0, .arr 2 [[I (r : Nat), I (c : Nat)]])], 1, 37, [], 0⟩) (Imp.go (fun i => if i = 0 then 1 else i + 2) [(1, _)] rfl rfl (.cons _ (.cons_cons _ (.cons _ .slnil))) (fun _ h => absurd h (Nat.not_lt_zero _)) (fun id h => by show 3 ≤ if id = 0 then 1 else id + 2; have : 1 ≤ id := h; rw [if_neg (by omega)]; omega) (.cons rfl (TnS.ptr rfl) (.cons rfl (wbx_fz rfl (by simp)) trivial)) (.cons ⟨rfl, TnO.arr zT⟩ .nil) (fun h => h)) ?_
        refine Tr.reg [8, 9] (by
            simp only [↓sxd, sxu, ↓zE, ↓exq, ↓zD, ↓zO, Nat.reduceBEq, Nat.reduceAdd, Nat.reduceLT, tysH21_38]
            (repeat ((with_reducible refine And.intro ?_ ?_); (focus (exact zS))))
            refine CallH.mono (reachU_h hw hfx hr hc) ?_
            rintro r' hp' nx' ⟨rfl, rfl, rfl⟩
            try simp only [↓sxd, sxu, ↓zE, ↓exq, Nat.reduceBEq, Nat.reduceAdd, Nat.reduceLT]
            (all_goals try exact zF)) ?_
        refine Tr.imp (Imp.fin (tm' := [(8, SL ((t.w l).reach true r c)), (9, I 0)]) (.cons rfl (mat_fz (hw.ends true r c).fit.dim _) (.cons rfl (TnS.d _) trivial))) ?_
        refine Tr.ret ?_
        (refine ⟨.inr rfl, ?_⟩; first | rfl | exact ⟨rfl, rfl, trivial⟩ | exact ⟨rfl, rfl, rfl, trivial⟩ | (simp only [Res, ResL, ResOK, ↓sxd, sxu, ↓zE, ↓zC, zJ, ↓exP, ↓exq, ↓zB, ↓zK, ↓zD, ↓zH, ↓zM, ↓zO, Nat.reduceBEq, Nat.reduceAdd, Nat.reduceLT, Nat.reduceMul, Nat.reduceSub, Nat.reduceLeDiff, Nat.reduceEqDiff, Int.reduceLE, Int.reduceLT, Int.reduceToNat, reduceIte, sxe, tysH21_38]; (repeat' (first | rfl | exact trivial | exact fun h => h | exact fun h => (by rw [h]; rfl) | apply And.intro | omega | exact Nat.le_of_ble_eq_true rfl))))
      · have hu : up = false := h27
        subst hu
        refine Tr.skip ?_
        refine Tr.imp (st' := ⟨[(6, .ptr 0 0 0), (10, .dp (t.w l).d)], [(0, .arr 2 [[I (r : Nat), I (c : Nat)]])], 1, 37, [], 0⟩) (Imp.go (fun i => if i = 0 then 1 else i + 2) [(1, _)] rfl rfl (.cons _ (.cons_cons _ (.cons _ .slnil))) (fun _ h => absurd h (Nat.not_lt_zero _)) (fun id h => by show 3 ≤ if id = 0 then 1 else id + 2; have : 1 ≤ id := h; rw [if_neg (by omega)]; omega) (.cons rfl (TnS.ptr rfl) (.cons rfl (wbx_fz rfl (by simp)) trivial)) (.cons ⟨rfl, TnO.arr zT⟩ .nil) (fun h => h)) ?_
        refine Tr.reg [8, 9] (by
            simp only [↓sxd, sxu, ↓zE, ↓exq, ↓zD, ↓zO, Nat.reduceBEq, Nat.reduceAdd, Nat.reduceLT, tysH21_38]
            (repeat ((with_reducible refine And.intro ?_ ?_); (focus (exact zS))))
            refine CallH.mono (reachD_h hw hfx hr hc) ?_
            rintro r' hp' nx' ⟨rfl, rfl, rfl⟩
            try simp only [↓sxd, sxu, ↓zE, ↓exq, Nat.reduceBEq, Nat.reduceAdd, Nat.reduceLT]
            (all_goals try exact zF)) ?_
        refine Tr.imp (Imp.fin (tm' := [(8, SL ((t.w l).reach false r c)), (9, I 0)]) (.cons rfl (mat_fz (hw.ends false r c).fit.dim _) (.cons rfl (TnS.d _) trivial))) ?_
        refine Tr.ret ?_
        (refine ⟨.inr rfl, ?_⟩; first | rfl | exact ⟨rfl, rfl, trivial⟩ | exact ⟨rfl, rfl, rfl, trivial⟩ | (simp only [Res, ResL, ResOK, ↓sxd, sxu, ↓zE, ↓zC, zJ, ↓exP, ↓exq, ↓zB, ↓zK, ↓zD, ↓zH, ↓zM, ↓zO, Nat.reduceBEq, Nat.reduceAdd, Nat.reduceLT, Nat.reduceMul, Nat.reduceSub, Nat.reduceLeDiff, Nat.reduceEqDiff, Int.reduceLE, Int.reduceLT, Int.reduceToNat, reduceIte, sxe, tysH21_38]; (repeat' (first | rfl | exact trivial | exact fun h => h | exact fun h => (by rw [h]; rfl) | apply And.intro | omega | exact Nat.le_of_ble_eq_true rfl))))
theorem Show_c (t : HT) (l : List HC) (c : HC) (up : Bool) (hs : small8 t.rows) (hl : l.length ≤ 1000) : CallP Tryz.prog G0 38 [t.s, SC l, c.s, B up] (.tup [SL (t.showA l c up).1, I (t.showA l c up).2]) := by
  by_cases hp : t.pub l = 0
  · exact ShowO_c t l c up hs hl hp
  · exact ShowE_c t l c up hs hl hp
end Go.Proofs.YtijechcadlklhaaGreat
