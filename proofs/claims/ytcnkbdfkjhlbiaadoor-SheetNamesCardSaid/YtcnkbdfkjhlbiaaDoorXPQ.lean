/- Lemmas, part XPQ. Conditions: none. -/
import Derived.Test.YtcnkbdfkjhlbiaaDoorXPP
set_option linter.unusedVariables false
namespace Go.Proofs.YtcnkbdfkjhlbiaaDoor
open Go.Sy
set_option maxRecDepth 8000
theorem readW_blk {c : Census} (hc : Readable c) : BlkOk c.entries.length (readW c).blocks := foldJ_ok c.same _ (blocks0_ok c.entries.length) (fun p hp => ⟨(hc.hs p hp).2.2.1, (hc.hs p hp).2.2.2⟩)
def Work.dbl (w : Work) (n : Nat) : Bool :=
  (((w.blocks.getD (idxOf (fun (x : Nat) => x.testBit n) w.blocks).toNat 0 : Nat) : Int) != ((2 ^ n : Nat) : Int)) ||
    decide (wr64 (1 + w.least.getD ((2 ^ w.blocks.length - 1) ^^^ ((2 ^ w.blocks.length - 1) &&& 2 ^ (idxOf (fun (x : Nat) => x.testBit n) w.blocks).toNat)) 0) > w.persons.hi)
def Census.doubled (c : Census) : List Nat × Int := if c.tried true = 0 then ((List.range c.entries.length).filter (readW c).dbl, 0) else ([], c.tried true)
abbrev zX := And.intro ty.sz0 <| And.intro ty.agg0 <| And.intro ty.elem0 <| And.intro ty.sz3 <| And.intro ty.agg3 <| And.intro ty.elem3 <| And.intro ty.zero3 <| And.intro ty.und3 <| And.intro ty.sz4 <| And.intro ty.agg4 <| And.intro ty.elem4 <| And.intro ty.zero4 <| And.intro ty.und4 <| And.intro ty.sz30 <| And.intro ty.agg30 <| And.intro ty.fld30_0 <| And.intro ty.fld30_1 <| And.intro ty.elem30 <| And.intro ty.zero30 <| And.intro ty.pl30 <| And.intro ty.sz31 <| And.intro ty.agg31 <| And.intro ty.elem31 <| And.intro ty.zero31 <| And.intro ty.und31 <| And.intro ty.sz34 <| And.intro ty.agg34 <| And.intro ty.elem34 <| And.intro ty.by34 <| And.intro ty.ez34 <| And.intro ty.zero34 <| And.intro ty.und34 <| And.intro ty.sz37 <| And.intro ty.agg37 <| And.intro ty.fld37_0 <| And.intro ty.fld37_1 <| And.intro ty.fld37_2 <| And.intro ty.fld37_3 <| And.intro ty.fld37_4 <| And.intro ty.elem37 <| And.intro ty.zero37 <| And.intro ty.pl37 <| And.intro ty.sz43 <| And.intro ty.agg43 <| And.intro ty.elem43 <| And.intro ty.by43 <| And.intro ty.ez43 <| And.intro ty.zero43 <| And.intro ty.und43 <| And.intro ty.sz108 <| And.intro ty.agg108 <| And.intro ty.elem108 <| And.intro ty.zero108 <| And.intro ty.sz109 <| And.intro ty.agg109 <| And.intro ty.elem109 <| And.intro ty.sz114 <| And.intro ty.agg114 <| And.intro ty.elem114 <| And.intro ty.zero114 <| And.intro ty.und114 <| And.intro ty.sz142 <| And.intro ty.agg142 <| And.intro ty.elem142 <| And.intro ty.by142 <| And.intro ty.ez142 <| And.intro ty.zero142 <| And.intro ty.und142 <| And.intro ty.sz144 <| And.intro ty.agg144 <| And.intro ty.elem144 <| And.intro ty.arr144 <| And.intro ty.zero144 <| And.intro ty.und144 <| And.intro ty.sz146 <| And.intro ty.agg146 <| And.intro ty.fld146_0 <| And.intro ty.fld146_1 <| And.intro ty.fld146_2 <| And.intro ty.fld146_3 <| And.intro ty.elem146 <| And.intro ty.zero146 <| ty.pl146
theorem Doubled_c (c : Census) (hs : c.small) : CallP Tryd.prog G0 53 [c.s] (.tup [SI (nats c.doubled.1), I c.doubled.2]) := by
  refine CallP.body 59 [.tmp 2, .tmp 3] Tryd.func53 (by kernel_rfl) rfl rfl rfl zP zP ?_
  refine Tr.reg [1] (by
      simp only [↓sxd, sxu, ↓zE, ↓exq, ↓zI, Nat.reduceBEq, Nat.reduceAdd, Nat.reduceLT, Nat.reduceEqDiff]
      (all_goals try exact zF)) ?_
  refine Tr.reg [1, 4, 5] (by
      simp only [↓sxd, sxu, ↓zE, ↓exq, ↓zD, Nat.reduceAdd, Nat.reduceLT, zX]
      (repeat ((with_reducible refine And.intro ?_ ?_); (focus (exact zS))))
      refine CallO.use (tried'_c c hs true) ?_
      try simp only [↓sxd, sxu, ↓zE, ↓exq, ↓zN, Nat.reduceBEq, Nat.reduceAdd, Nat.reduceLT]
      (all_goals try exact zF)) ?_
  refine Tr.seq ?_
  refine Tr.reg [1, 4, 5, 15] (by
      simp only [↓sxd, sxu, ↓zE, ↓exq, Nat.reduceBEq, Nat.reduceLT]
      (all_goals try exact zF)) ?_
  refine Tr.cond rfl (fun h15 => ?_) (fun h15 => ?_)
  · have ht : c.doubled = ([], c.tried true) := if_neg (by simpa using h15)
    rw [ht]
    refine Tr.reg [2, 3] (by
        simp only [↓sxd, sxu, ↓zE, ↓exq, Nat.reduceBEq, Nat.reduceLT]
        (all_goals try exact zF)) ?_
    refine Tr.imp (Imp.fin (tm' := [(2, SI (nats [])), (3, I (c.tried true))]) ?_) ?_
    · exact .cons rfl (TnS.dxd _) (.cons rfl (TnS.d _) trivial)
    refine Tr.ret ?_
    (refine ⟨.inr rfl, ?_⟩; first | rfl | exact ⟨rfl, rfl, trivial⟩ | exact ⟨rfl, rfl, rfl, trivial⟩ | (simp only [Res, ResL, ResOK, ↓sxd, sxu, ↓zE, ↓zC, zK, ↓exP, ↓exq, ↓zB, ↓zH, ↓zL, ↓zJ, ↓zD, ↓zN, ↓zV, ↓zI, ↓zG, ↓zQ, ↓z7, ↓zA, Nat.reduceBEq, Nat.reduceAdd, Nat.reduceLT, Nat.reduceMul, Nat.reduceSub, Nat.reduceLeDiff, Nat.reduceEqDiff, Int.reduceLE, Int.reduceLT, Int.reduceToNat, reduceIte, sxe, zX]; (repeat' (first | rfl | exact trivial | exact fun h => h | exact fun h => (by rw [h]; rfl) | apply And.intro | omega | exact Nat.le_of_ble_eq_true rfl))))
  · have h0 : c.tried true = 0 := by simpa using h15
    have ⟨hk, _⟩ := Census.tried_ok h0
    have hc := Census.readable hk
    have hw := readW_ok hc
    have hbl := readW_blk hc
    have ht : c.doubled = ((List.range c.entries.length).filter (readW c).dbl, 0) := if_pos h0
    rw [ht, Census.triedW_ok h0]
    have hn := Census.small_of hk
    have hwb := hw.hb
    generalize readW c = w at *
    refine Tr.skip ?_
    refine Tr.reg [1, 4, 6] (by
        simp only [↓sxd, sxu, ↓zE, ↓exq, Nat.reduceBEq, Nat.reduceLT]
        (all_goals try exact zF)) ?_
    refine Tr.seq ?_
    refine Tr.reg [4, 6, 19, 20] (by
        simp only [↓sxd, sxu, ↓zE, ↓exq, ↓zB, ↓zJ, ↓zD, ↓zA, Nat.reduceBEq, Nat.reduceAdd, Nat.reduceLT, Nat.reduceEqDiff, sxe, zX]
        (all_goals try exact zF)) ?_
    refine Tr.imp (st' := ⟨[(4, .dp w.d), (6, .slc 1 1 0 [].length [].length), (19, I c.entries.length), (20, I 0)], [(1, .arr 1 ([].map fun (x : Nat) => [I x])), (0, .arr 7 [[SE c.entries, SP c.same, SP c.apart, I c.omitted.lo, I c.omitted.hi, I c.number.lo, I c.number.hi]])], 2, 59, [], 0⟩) (Imp.goV 1 rfl rfl rfl rfl (by repeat' (first | exact trivial | exact F2.nil | refine F2.cons ?_ ?_ | refine TmV.cons rfl VnS.nil ?_ | refine TmV.cons rfl VnS.same ?_ | refine ⟨rfl, ?_⟩ | exact VnO.same _ | refine VnO.arr ?_ | exact VnS.nil | exact VnS.same | exact F2.refl fun _ _ => VnS.same)) (by repeat' (first | exact trivial | exact F2.nil | refine F2.cons ?_ ?_ | refine TmV.cons rfl VnS.nil ?_ | refine TmV.cons rfl VnS.same ?_ | refine ⟨rfl, ?_⟩ | exact VnO.same _ | refine VnO.arr ?_ | exact VnS.nil | exact VnS.same | exact F2.refl fun _ _ => VnS.same))) (Tr.block (Tr.loopI (fun mm ss => ∃ (n : Nat) (o : List Nat), (n ≤ c.entries.length ∧ o = (List.range n).filter w.dbl) ∧ c.entries.length - n = mm ∧ ss = ⟨[(4, .dp w.d), (6, .slc 1 1 0 o.length o.length), (19, I c.entries.length), (20, I n)], [(1, .arr 1 (o.map fun (x : Nat) => [I x])), (0, .arr 7 [[SE c.entries, SP c.same, SP c.apart, I c.omitted.lo, I c.omitted.hi, I c.number.lo, I c.number.hi]])], 2, 59, [], 0⟩) _ ⟨0, [], ?_, rfl, rfl⟩ ?_))
    · exact ⟨Nat.zero_le _, rfl⟩
    rintro mm ss ⟨n, o, hI, rfl, rfl⟩
    obtain ⟨hI, ho⟩ := hI
    have hol : o.length ≤ n := by have := List.length_filter_le w.dbl (List.range n); rw [List.length_range, ← ho] at this; exact this
    refine Tr.reg [4, 6, 19, 20, 21] (by
        simp only [↓sxd, sxu, ↓zE, ↓exq, Nat.reduceBEq, Nat.reduceLT, sxe]
        (all_goals try exact zF)) ?_
    refine Tr.seq ?_
    refine Tr.cond rfl (fun h21 => ?_) (fun h21 => ?_)
    · have hlt : n < c.entries.length := by simpa using h21
      obtain ⟨k, hkk, hkl, hkt⟩ := idx_cov (hbl.cov n hlt)
      have hp10 : 2 ^ w.blocks.length ≤ 2 ^ 10 := Nat.pow_le_pow_right (by omega) hwb
      have hpk : 2 ^ k < 2 ^ w.blocks.length := Nat.pow_lt_pow_right (by omega) hkl
      have hq : (2 ^ w.blocks.length - 1) ^^^ ((2 ^ w.blocks.length - 1) &&& 2 ^ k) < w.least.length := by
        have := andNot_le (2 ^ w.blocks.length - 1) (2 ^ k)
        rw [hw.h2]; omega
      have hqT : ((2 ^ w.blocks.length - 1) ^^^ ((2 ^ w.blocks.length - 1) &&& 2 ^ k) < 1024) = True := by rw [hw.h2] at hq; simpa using hq
      refine Tr.skip ?_
      refine Tr.seq ?_
      refine Tr.block ?_
      refine Tr.reg [4, 6, 7, 19, 20] (by
          simp only [↓sxd, sxu, ↓zE, ↓exq, Nat.reduceBEq, Nat.reduceLT]
          (all_goals try exact zF)) ?_
      refine Tr.reg [4, 6, 7, 8, 19, 20] (by
          simp only [↓sxd, sxu, ↓zE, ↓exq, Nat.reduceBEq, Nat.reduceLT]
          (repeat ((with_reducible refine And.intro ?_ ?_); (focus (exact zS))))
          refine CallO.useB [] (block_c w n (fun x hx => by have := hw.lt x hx; omega) (by have := hw.hb; omega)) (List.nil_sublist _) zT (Rigid.lit _) ?_
          try simp only [↓sxd, sxu, ↓zE, ↓exq, Nat.reduceBEq, Nat.reduceLT]
          (all_goals try exact zF)) ?_
      refine Tr.regD [0, 1, 2, 3, 4, 5, 6, 7, 8, 9, 10, 11, 12, 13, 14, 15, 16, 17, 18, 19, 20, 21, 22, 23, 24, 25, 26] [] [] [4, 6, 7, 19, 20, 52] mix (by kernel_rfl) (by
          simp only [↓sxd, sxu, ↓zC, zK, ↓exq, ↓zD, ↓zV, ↓zA, Nat.reduceBEq, Nat.reduceLT, Nat.reduceEqDiff, sxe, zX, ← hkk, hkl, Work.tl, shl_u (show n < 64 by omega)]
          (repeat ((with_reducible refine And.intro ?_ ?_); (focus (exact zS))))
          refine GdD.mk _ (fun hg => by simp only [sxu, ↓exP, ↓exq, Nat.reduceBEq]; (all_goals try exact zF)) ?_
          simp only [↓sxd, sxu, ↓zC, zK, Nat.reduceBEq, Nat.reduceLT]
          (repeat ((with_reducible refine And.intro ?_ ?_); (focus (exact zS))))
          refine GdD.mk _ (fun hg => by simp only [sxu, ↓exP, ↓exq, Nat.reduceBEq, hg]; (all_goals try exact zF)) ?_
          simp only [↓sxd, sxu, ↓zC, zK, Nat.reduceBEq, Nat.reduceLT]
          (repeat ((with_reducible refine And.intro ?_ ?_); (focus (exact zS))))
          refine GdD.mk _ (fun hg => by simp only [sxu, ↓exP, hg]; first | exact whole_c w (by omega) | exact ⟨whole_c w (by omega), rfl, rfl⟩ | exact ⟨whole_c w (by omega), trivial⟩ | exact ⟨whole_c w (by omega), trivial, trivial⟩) ?_
          simp only [↓sxd, sxu, ↓zC, zK, Nat.reduceBEq, Nat.reduceLT]
          (repeat ((with_reducible refine And.intro ?_ ?_); (focus (exact zS))))
          refine GdD.mk _ (fun hg => by simp only [sxu, ↓exP, ↓exq, Nat.reduceBEq, hg]; (all_goals try exact zF)) ?_
          simp only [↓sxd, sxu, ↓zC, zK, Nat.reduceBEq, Nat.reduceLT]
          (repeat ((with_reducible refine And.intro ?_ ?_); (focus (exact zS))))
          refine GdD.mk _ (fun hg => by simp only [↓sxd, sxu, ↓exP, ↓exq, sxe, shl_u (show k < 64 by omega), hg]; (all_goals try exact zF)) ?_
          simp only [↓sxd, sxu, ↓zC, zK, Nat.reduceBEq, Nat.reduceLT]
          (repeat ((with_reducible refine And.intro ?_ ?_); (focus (exact zS))))
          refine GdD.mk _ (fun hg => by simp only [↓sxd, sxu, ↓exP, ↓exq, Nat.reduceBEq, andNot_u (show 2 ^ w.blocks.length - 1 < 18446744073709551616 by omega) (show 2 ^ k < 18446744073709551616 by omega), hg]; (all_goals try exact zF)) ?_
          simp only [↓sxd, sxu, ↓zC, zK, Nat.reduceBEq, Nat.reduceLT]
          (repeat ((with_reducible refine And.intro ?_ ?_); (focus (exact zS))))
          refine GdD.mk _ (fun hg => by simp only [sxu, ↓exP, ↓exq, ↓zV, Nat.reduceBEq, hg]; (all_goals try exact zF)) ?_
          simp only [↓sxd, sxu, ↓zC, zK, Nat.reduceBEq, Nat.reduceLT]
          (repeat ((with_reducible refine And.intro ?_ ?_); (focus (exact zS))))
          refine GdD.mk _ (fun hg => by simp only [sxu, ↓exP, ↓exq, ↓zA, Nat.reduceEqDiff, zX, Work.tl, tl_least hw.h1, hg]; (all_goals try exact zF)) ?_
          simp only [↓sxd, sxu, ↓zC, zK, Nat.reduceBEq, Nat.reduceLT]
          (repeat ((with_reducible refine And.intro ?_ ?_); (focus (exact zS))))
          refine GdD.mk _ (fun hg => by simp only [↓sxd, sxu, ↓exP, ↓exq, Nat.reduceBEq, sxe, zX, hqT, hg]; (all_goals try exact zF)) ?_
          simp only [↓sxd, sxu, ↓zC, zK, Nat.reduceBEq, Nat.reduceLT]
          (repeat ((with_reducible refine And.intro ?_ ?_); (focus (exact zS))))
          refine GdD.mk _ (fun hg => by simp only [sxu, ↓exP, ↓exq, ↓zD, zX, le_get hq, le_get0 hq, hg]; (all_goals try exact zF)) ?_
          simp only [↓sxd, sxu, ↓zC, zK, Nat.reduceBEq, Nat.reduceLT]
          (repeat ((with_reducible refine And.intro ?_ ?_); (focus (exact zS))))
          refine GdD.mk _ (fun hg => by simp only [↓sxd, sxu, ↓exP, ↓exq, hg]; (all_goals try exact zF)) ?_
          simp only [↓sxd, sxu, ↓zC, zK, Nat.reduceBEq, Nat.reduceLT]
          (repeat ((with_reducible refine And.intro ?_ ?_); (focus (exact zS))))
          refine GdD.mk _ (fun hg => by simp only [sxu, ↓exP, ↓exq, Nat.reduceBEq, hg]; (all_goals try exact zF)) ?_
          simp only [↓sxd, sxu, ↓zC, zK, Nat.reduceBEq, Nat.reduceLT]
          (repeat ((with_reducible refine And.intro ?_ ?_); (focus (exact zS))))
          refine GdD.mk _ (fun hg => by simp only [sxu, ↓exP, hg]; first | exact persons_c w hw | exact ⟨persons_c w hw, rfl, rfl⟩ | exact ⟨persons_c w hw, trivial⟩ | exact ⟨persons_c w hw, trivial, trivial⟩) ?_
          simp only [↓sxd, sxu, ↓zC, zK, Nat.reduceBEq, Nat.reduceLT]
          (repeat ((with_reducible refine And.intro ?_ ?_); (focus (exact zS))))
          refine GdD.mk _ (fun hg => by simp only [sxu, ↓exP, ↓exq, ↓z7, hg]; (all_goals try exact zF)) ?_
          simp only [↓sxd, sxu, ↓zC, zK, Nat.reduceBEq, Nat.reduceLT, List.getElem_toArray, List.getElem_cons_succ, List.getElem_cons_zero]
          (repeat ((with_reducible refine And.intro ?_ ?_); (focus (exact zS))))
          refine GdD.mk _ (fun hg => by simp only [↓sxd, sxu, ↓exP, ↓exq, Nat.reduceBEq, hg]; (all_goals try exact zF)) ?_
          simp only [↓sxd, sxu, ↓zC, ↓exq, ↓zH, Nat.reduceBEq, Nat.reduceLT]
          (all_goals try exact zF)) ?_
      refine Tr.cond rfl (fun h52 => ?_) (fun h52 => ?_)
      · have hd : w.dbl n = true := by rw [← h52]; unfold Work.dbl; rw [← hkk, Int.toNat_natCast]; rfl
        refine Tr.reg1 [4, 6, 19, 20] (by
            simp only [↓sxd, sxu, ↓zE, ↓exq, ↓zB, ↓zG, ↓zQ, Nat.reduceBEq, Nat.reduceAdd, Nat.reduceLT, Nat.reduceLeDiff, Nat.reduceEqDiff, zX]
            (all_goals try exact zF)) ?_
        have w1 : IntKind.i64.wrap ((n : Int) + 1) = ((n + 1 : Nat) : Int) := by rw [wr (by omega) (by omega)]; rfl
        refine Tr.reg1 [4, 6, 19, 20] (by
            simp only [↓sxd, sxu, ↓zE, ↓exq, Nat.reduceBEq, Nat.reduceLT, w1]
            (all_goals try exact zF)) ?_
        have hsu : (List.range (n + 1)).filter w.dbl = o ++ (if w.dbl n then [n] else []) := by
          rw [List.range_succ, List.filter_append, ← ho]; cases hd2 : w.dbl n <;> simp [hd2]
        rw [hd] at hsu
        first |(exact ⟨_, _, by omega, Imp.go (fun i => if i < 1 then i else i + 1) _ rfl rfl (List.Sublist.refl _) (fun _ h => absurd h (Nat.not_lt_zero _)) (fun id h => by simp only [show ¬ id < 1 by omega, if_false]; omega) (by simp only [List.length_append, List.length_cons, List.length_nil, Nat.zero_add, Int.natCast_add, Int.natCast_one]; repeat' (first | exact TmT.cons rfl (TnS.d _) ?_ | exact trivial | exact F2.nil | refine F2.append ?_ ?_ | refine F2.map fun _ _ => ?_ | refine F2.cons ?_ ?_ | refine TmT.cons rfl ?_ ?_ | exact TnS.d _ | exact TnS.dx _ | exact TnS.dp _ | exact TnS.slc rfl | exact TnS.ptr rfl | refine TnS.frzf rfl (by simp) (by simp) (by simp) ?_ | refine TnS.frz0 rfl (by simp) (by simp) (by simp) ?_ | refine TnS.frzm rfl (by simp) ?_ | exact TnS.mapr rfl | exact TnS.yld rfl | refine ⟨rfl, ?_⟩ | refine TnO.arr ?_ | refine TnO.map ?_ | exact TnO.raw _ | exact TnO.iter _ _ | refine TnS.agg ?_ | refine TnS.tup ?_ | exact TnS.pure (Pure.clo (by assumption) (by assumption)) | refine TnS.clo ?_ ?_ | exact TnS.unk _ | exact TnS.pure (Pure.clo (by assumption) (by assumption)))) (by simp only [List.map_append, List.map_cons, List.map_nil]; repeat' (first | exact TmT.cons rfl (TnS.d _) ?_ | exact trivial | exact F2.nil | refine F2.append ?_ ?_ | refine F2.map fun _ _ => ?_ | refine F2.cons ?_ ?_ | refine TmT.cons rfl ?_ ?_ | exact TnS.d _ | exact TnS.dx _ | exact TnS.dp _ | exact TnS.slc rfl | exact TnS.ptr rfl | refine TnS.frzf rfl (by simp) (by simp) (by simp) ?_ | refine TnS.frz0 rfl (by simp) (by simp) (by simp) ?_ | refine TnS.frzm rfl (by simp) ?_ | exact TnS.mapr rfl | exact TnS.yld rfl | refine ⟨rfl, ?_⟩ | refine TnO.arr ?_ | refine TnO.map ?_ | exact TnO.raw _ | exact TnO.iter _ _ | refine TnS.agg ?_ | refine TnS.tup ?_ | exact TnS.pure (Pure.clo (by assumption) (by assumption)) | refine TnS.clo ?_ ?_ | exact TnS.unk _ | exact TnS.pure (Pure.clo (by assumption) (by assumption)))) (fun _ => rfl), ⟨n + 1, o ++ [n], ⟨hlt, by rw [hsu]; rfl⟩, rfl, rfl⟩⟩) |(exact ⟨_, _, by omega, Imp.keepAll, ⟨n + 1, o, ⟨hlt, by rw [hsu]; simp⟩, rfl, rfl⟩⟩)
      · have hd : w.dbl n = false := by rw [← h52]; unfold Work.dbl; rw [← hkk, Int.toNat_natCast]; rfl
        refine Tr.skip ?_
        have w1 : IntKind.i64.wrap ((n : Int) + 1) = ((n + 1 : Nat) : Int) := by rw [wr (by omega) (by omega)]; rfl
        refine Tr.reg1 [4, 6, 19, 20] (by
            simp only [↓sxd, sxu, ↓zE, ↓exq, Nat.reduceBEq, Nat.reduceLT, w1]
            (all_goals try exact zF)) ?_
        have hsu : (List.range (n + 1)).filter w.dbl = o ++ (if w.dbl n then [n] else []) := by
          rw [List.range_succ, List.filter_append, ← ho]; cases hd2 : w.dbl n <;> simp [hd2]
        rw [hd] at hsu
        first |(exact ⟨_, _, by omega, Imp.go (fun i => if i < 1 then i else i + 1) _ rfl rfl (List.Sublist.refl _) (fun _ h => absurd h (Nat.not_lt_zero _)) (fun id h => by simp only [show ¬ id < 1 by omega, if_false]; omega) (by simp only [List.length_append, List.length_cons, List.length_nil, Nat.zero_add, Int.natCast_add, Int.natCast_one]; repeat' (first | exact TmT.cons rfl (TnS.d _) ?_ | exact trivial | exact F2.nil | refine F2.append ?_ ?_ | refine F2.map fun _ _ => ?_ | refine F2.cons ?_ ?_ | refine TmT.cons rfl ?_ ?_ | exact TnS.d _ | exact TnS.dx _ | exact TnS.dp _ | exact TnS.slc rfl | exact TnS.ptr rfl | refine TnS.frzf rfl (by simp) (by simp) (by simp) ?_ | refine TnS.frz0 rfl (by simp) (by simp) (by simp) ?_ | refine TnS.frzm rfl (by simp) ?_ | exact TnS.mapr rfl | exact TnS.yld rfl | refine ⟨rfl, ?_⟩ | refine TnO.arr ?_ | refine TnO.map ?_ | exact TnO.raw _ | exact TnO.iter _ _ | refine TnS.agg ?_ | refine TnS.tup ?_ | exact TnS.pure (Pure.clo (by assumption) (by assumption)) | refine TnS.clo ?_ ?_ | exact TnS.unk _ | exact TnS.pure (Pure.clo (by assumption) (by assumption)))) (by simp only [List.map_append, List.map_cons, List.map_nil]; repeat' (first | exact TmT.cons rfl (TnS.d _) ?_ | exact trivial | exact F2.nil | refine F2.append ?_ ?_ | refine F2.map fun _ _ => ?_ | refine F2.cons ?_ ?_ | refine TmT.cons rfl ?_ ?_ | exact TnS.d _ | exact TnS.dx _ | exact TnS.dp _ | exact TnS.slc rfl | exact TnS.ptr rfl | refine TnS.frzf rfl (by simp) (by simp) (by simp) ?_ | refine TnS.frz0 rfl (by simp) (by simp) (by simp) ?_ | refine TnS.frzm rfl (by simp) ?_ | exact TnS.mapr rfl | exact TnS.yld rfl | refine ⟨rfl, ?_⟩ | refine TnO.arr ?_ | refine TnO.map ?_ | exact TnO.raw _ | exact TnO.iter _ _ | refine TnS.agg ?_ | refine TnS.tup ?_ | exact TnS.pure (Pure.clo (by assumption) (by assumption)) | refine TnS.clo ?_ ?_ | exact TnS.unk _ | exact TnS.pure (Pure.clo (by assumption) (by assumption)))) (fun _ => rfl), ⟨n + 1, o ++ [n], ⟨hlt, by rw [hsu]; rfl⟩, rfl, rfl⟩⟩) |(exact ⟨_, _, by omega, Imp.keepAll, ⟨n + 1, o, ⟨hlt, by rw [hsu]; simp⟩, rfl, rfl⟩⟩)
    · have hge : n = c.entries.length := by simp at h21; omega
      refine Tr.exit ?_
      refine Tr.reg [2, 3] (by
          simp only [↓sxd, sxu, ↓zE, ↓exq, Nat.reduceBEq, Nat.reduceLT]
          (all_goals try exact zF)) ?_
      refine Tr.imp (Imp.fin (tm' := [(2, SI (nats o)), (3, I 0)]) ?_) ?_
      · refine TmT.cons rfl (TnS.frz0 rfl (by simp) (by simp) (by simp) ?_) (.cons rfl (TnS.d _) trivial)
        rw [nats, dI, List.map_map]
        exact F2.map fun n _ => .cons (TnS.d _) .nil
      subst hge
      rw [← ho]
      refine Tr.ret ?_
      (refine ⟨.inr rfl, ?_⟩; first | rfl | exact ⟨rfl, rfl, trivial⟩ | exact ⟨rfl, rfl, rfl, trivial⟩ | (simp only [Res, ResL, ResOK, ↓sxd, sxu, ↓zE, ↓zC, zK, ↓exP, ↓exq, ↓zB, ↓zH, ↓zL, ↓zJ, ↓zD, ↓zN, ↓zV, ↓zI, ↓zG, ↓zQ, ↓z7, ↓zA, Nat.reduceBEq, Nat.reduceAdd, Nat.reduceLT, Nat.reduceMul, Nat.reduceSub, Nat.reduceLeDiff, Nat.reduceEqDiff, Int.reduceLE, Int.reduceLT, Int.reduceToNat, reduceIte, sxe, zX]; (repeat' (first | rfl | exact trivial | exact fun h => h | exact fun h => (by rw [h]; rfl) | apply And.intro | omega | exact Nat.le_of_ble_eq_true rfl))))
def kept (g : Nat → Bool) (l : List Pair) (k : Nat) : List Pair := ((List.range k).filter g).map fun i => l.getD i default
theorem kept_succ (g : Nat → Bool) (l : List Pair) (k : Nat) : kept g l (k + 1) = kept g l k ++ (if g k then [l.getD k default] else []) := by
  unfold kept
  rw [List.range_succ, List.filter_append, List.map_append]
  cases h : g k <;> simp [h]
theorem kept_len (g : Nat → Bool) (l : List Pair) (k : Nat) : (kept g l k).length ≤ k := by
  unfold kept
  have := List.length_filter_le g (List.range k)
  rw [List.length_range] at this
  simpa using this
def Census.without (c : Census) (s : Nat) : Census := { c with same := kept (fun i => !s.testBit i) c.same c.same.length, apart := kept (fun i => !s.testBit (c.same.length + i)) c.apart c.apart.length }
abbrev cs (c : Census) (x y : SV) : List SV := [SE c.entries, x, y, I c.omitted.lo, I c.omitted.hi, I c.number.lo, I c.number.hi]
abbrev yF := And.intro ty.sz0 <| And.intro ty.agg0 <| And.intro ty.elem0 <| And.intro ty.sz3 <| And.intro ty.agg3 <| And.intro ty.elem3 <| And.intro ty.zero3 <| And.intro ty.und3 <| And.intro ty.sz4 <| And.intro ty.agg4 <| And.intro ty.elem4 <| And.intro ty.zero4 <| And.intro ty.und4 <| And.intro ty.sz35 <| And.intro ty.agg35 <| And.intro ty.elem35 <| And.intro ty.by35 <| And.intro ty.ez35 <| And.intro ty.zero35 <| And.intro ty.und35 <| And.intro ty.sz37 <| And.intro ty.agg37 <| And.intro ty.fld37_0 <| And.intro ty.fld37_1 <| And.intro ty.fld37_2 <| And.intro ty.fld37_3 <| And.intro ty.fld37_4 <| And.intro ty.elem37 <| And.intro ty.zero37 <| And.intro ty.pl37 <| And.intro ty.sz104 <| And.intro ty.agg104 <| And.intro ty.fld104_0 <| And.intro ty.fld104_1 <| And.intro ty.elem104 <| And.intro ty.zero104 <| And.intro ty.pl104 <| And.intro ty.sz114 <| And.intro ty.agg114 <| And.intro ty.elem114 <| And.intro ty.zero114 <| ty.und114
theorem without_c (c : Census) (s : Nat) (hs : s < 18446744073709551616) (h1 : c.same.length ≤ 1000) (h2 : c.apart.length ≤ 1000) : CallP Tryd.prog G0 66 [c.s, U s] (c.without s).s := by
  obtain ⟨zr, hzr⟩ : ∃ x : List SV, x = [.dx [], .dx [], .dx [], I 0, I 0, I 0, I 0] := ⟨_, rfl⟩
  refine CallP.body 56 [.cell 4 37] Tryd.func66 (by kernel_rfl) rfl rfl rfl zP zP ?_
  refine Tr.reg [1, 2, 4] (by
      simp only [↓sxd, sxu, ↓zE, ↓exq, ↓zM, ↓zI, Nat.reduceBEq, Nat.reduceAdd, Nat.reduceLT, Nat.reduceEqDiff, yF]
      (all_goals try exact zF)) ?_
  refine Tr.reg [1, 2, 4, 5] (by
      simp only [↓sxd, sxu, ↓zE, ↓exq, ↓zD, ↓zM, Nat.reduceBEq, Nat.reduceAdd, Nat.reduceLT, Nat.reduceEqDiff, yF]
      (all_goals try exact zF)) ?_
  refine Tr.reg [1, 2, 4, 5] (by
      simp only [↓sxd, sxu, ↓zE, ↓exq, ↓zA, Nat.reduceBEq, Nat.reduceAdd, Nat.reduceLT, Nat.reduceLeDiff, Nat.reduceEqDiff, yF]
      (all_goals try exact zF)) ?_
  refine Tr.seq ?_
  refine Tr.reg [1, 2, 4, 5, 14, 15, 16] (by
      simp only [↓sxd, sxu, ↓zE, ↓exq, ↓zB, ↓zJ, ↓zD, ↓zA, Nat.reduceBEq, Nat.reduceAdd, Nat.reduceLT, Nat.reduceEqDiff, sxe, yF]
      (all_goals try exact zF)) ?_
  refine Tr.imp (st' := ⟨[(1, U s), (2, .ptr 0 0 0), (4, .ptr 1 0 0), (5, .ptr 2 0 0), (14, SP c.same), (15, I c.same.length), (16, I 0)], [(3, .arr 2 (pp [])), (2, .arr 7 [cs c (.slc 3 2 0 [].length [].length) (.dx [])]), (1, .arr 7 [[.dx [], .dx [], .dx [], I 0, I 0, I 0, I 0]]), (0, .arr 7 [cs c (SP c.same) (SP c.apart)])], 4, 56, [], 0⟩) (Imp.goV 2 rfl rfl rfl rfl (by repeat' (first | exact trivial | exact F2.nil | refine F2.cons ?_ ?_ | refine TmV.cons rfl VnS.nil ?_ | refine TmV.cons rfl VnS.same ?_ | refine ⟨rfl, ?_⟩ | exact VnO.same _ | refine VnO.arr ?_ | exact VnS.nil | exact VnS.same | exact F2.refl fun _ _ => VnS.same)) (by repeat' (first | exact trivial | exact F2.nil | refine F2.cons ?_ ?_ | refine TmV.cons rfl VnS.nil ?_ | refine TmV.cons rfl VnS.same ?_ | refine ⟨rfl, ?_⟩ | exact VnO.same _ | refine VnO.arr ?_ | exact VnS.nil | exact VnS.same | exact F2.refl fun _ _ => VnS.same))) (Tr.block (Tr.loopI (fun mm ss => ∃ (k : Nat) (o : List Pair), (k ≤ c.same.length ∧ o = kept (fun i => !s.testBit i) c.same k) ∧ c.same.length - k = mm ∧ ss = ⟨[(1, U s), (2, .ptr 0 0 0), (4, .ptr 1 0 0), (5, .ptr 2 0 0), (14, SP c.same), (15, I c.same.length), (16, I k)], [(3, .arr 2 (pp o)), (2, .arr 7 [cs c (.slc 3 2 0 o.length o.length) (.dx [])]), (1, .arr 7 [[.dx [], .dx [], .dx [], I 0, I 0, I 0, I 0]]), (0, .arr 7 [cs c (SP c.same) (SP c.apart)])], 4, 56, [], 0⟩) _ ⟨0, [], ?_, rfl, rfl⟩ ?_))
  · exact ⟨Nat.zero_le _, rfl⟩
  rintro mm ss ⟨k, o, hI, rfl, rfl⟩
  obtain ⟨hI, ho⟩ := hI
  have hol : o.length ≤ k := by rw [ho]; exact kept_len _ _ _
  refine Tr.reg [1, 2, 4, 5, 14, 15, 16, 17] (by
      simp only [↓sxd, sxu, ↓zE, ↓exq, Nat.reduceBEq, Nat.reduceLT, sxe]
      (all_goals try exact zF)) ?_
  refine Tr.seq ?_
  refine Tr.cond rfl (fun h17 => ?_) (fun h17 => ?_)
  · have hlt : k < c.same.length := by simpa using h17
    refine Tr.skip ?_
    refine Tr.seq ?_
    refine Tr.block ?_
    refine Tr.reg [1, 2, 4, 5, 6, 7, 14, 15, 16] (by
        simp only [↓sxd, sxu, ↓zE, ↓exq, ↓zD, ↓zM, Nat.reduceBEq, Nat.reduceAdd, Nat.reduceLT, Nat.reduceEqDiff, sxe, yF, hlt]
        (all_goals try exact zF)) ?_
    refine Tr.reg [1, 2, 4, 5, 7, 14, 15, 16, 24] (by
        simp only [↓sxd, sxu, ↓zE, ↓exq, Nat.reduceBEq, Nat.reduceLT]
        (repeat ((with_reducible refine And.intro ?_ ?_); (focus (exact zS))))
        refine CallO.use (has_c s k hs) ?_
        try simp only [↓sxd, sxu, ↓zE, ↓exq, ↓zL, Nat.reduceBEq, Nat.reduceLT]
        (all_goals try exact zF)) ?_
    refine Tr.cond rfl (fun h24 => ?_) (fun h24 => ?_)
    · have hg : (!s.testBit k) = true := h24
      have hol2 : (o.length + 1 ≤ 1073741824) = True := by simp; omega
      refine Tr.reg1 [1, 2, 4, 5, 14, 15, 16] (by
          simp only [↓sxd, sxu, ↓zE, ↓exq, ↓zB, ↓zD, ↓zG, ↓zQ, ↓zA, Nat.reduceBEq, Nat.reduceAdd, Nat.reduceLT, Nat.reduceLeDiff, Nat.reduceEqDiff, yF, pp_len, hol2]
          (all_goals try exact zF)) ?_
      have w1 : IntKind.i64.wrap ((k : Int) + 1) = ((k + 1 : Nat) : Int) := by rw [wr (by omega) (by omega)]; rfl
      refine Tr.reg1 [1, 2, 4, 5, 14, 15, 16] (by
          simp only [↓sxd, sxu, ↓zE, ↓exq, Nat.reduceBEq, Nat.reduceLT, w1]
          (all_goals try exact zF)) ?_
      have hsu := kept_succ (fun i => !s.testBit i) c.same k
      simp only [hg] at hsu
      rw [← ho] at hsu
      have hpp : pp (o ++ [c.same.getD k default]) = pp o ++ [[I (c.same.getD k default).fst, I (c.same.getD k default).snd]] := by simp [pp, dP]
      first |(exact ⟨_, _, by omega, Imp.go (fun i => if i < 3 then i else i + 2) [_, _, _, _] rfl rfl (.cons_cons _ (.cons _ (.refl _))) (fun _ h => absurd h (Nat.not_lt_zero _)) (fun id h => by simp only [show ¬ id < 3 by omega, if_false]; omega) zT (by simp only [hpp, List.length_append, List.length_cons, List.length_nil, Nat.zero_add]; repeat' (first | exact TmT.cons rfl (TnS.d _) ?_ | exact trivial | exact F2.nil | refine F2.append ?_ ?_ | refine F2.map fun _ _ => ?_ | refine F2.cons ?_ ?_ | refine TmT.cons rfl ?_ ?_ | exact TnS.d _ | exact TnS.dx _ | exact TnS.dp _ | exact TnS.slc rfl | exact TnS.ptr rfl | refine TnS.frzf rfl (by simp) (by simp) (by simp) ?_ | refine TnS.frz0 rfl (by simp) (by simp) (by simp) ?_ | refine TnS.frzm rfl (by simp) ?_ | exact TnS.mapr rfl | exact TnS.yld rfl | refine ⟨rfl, ?_⟩ | refine TnO.arr ?_ | refine TnO.map ?_ | exact TnO.raw _ | exact TnO.iter _ _ | refine TnS.agg ?_ | refine TnS.tup ?_ | exact TnS.pure (Pure.clo (by assumption) (by assumption)) | refine TnS.clo ?_ ?_ | exact TnS.unk _ | exact TnS.pure (Pure.clo (by assumption) (by assumption)))) (fun _ => rfl), ⟨k + 1, o ++ [c.same.getD k default], ⟨hlt, by rw [hsu]; rfl⟩, rfl, rfl⟩⟩) |(exact ⟨_, _, by omega, Imp.go (fun i => if i < 4 then i else i + 1) _ rfl rfl (.cons _ (.refl _)) (fun _ h => absurd h (Nat.not_lt_zero _)) (fun id h => by simp only [show ¬ id < 4 by omega, if_false]; omega) zT zT (fun _ => rfl), ⟨k + 1, o, ⟨hlt, by rw [hsu]; simp⟩, rfl, rfl⟩⟩)
    · have hg : (!s.testBit k) = false := h24
      refine Tr.skip ?_
      have w1 : IntKind.i64.wrap ((k : Int) + 1) = ((k + 1 : Nat) : Int) := by rw [wr (by omega) (by omega)]; rfl
      refine Tr.reg1 [1, 2, 4, 5, 14, 15, 16] (by
          simp only [↓sxd, sxu, ↓zE, ↓exq, Nat.reduceBEq, Nat.reduceLT, w1]
          (all_goals try exact zF)) ?_
      have hsu := kept_succ (fun i => !s.testBit i) c.same k
      simp only [hg] at hsu
      rw [← ho] at hsu
      have hpp : pp (o ++ [c.same.getD k default]) = pp o ++ [[I (c.same.getD k default).fst, I (c.same.getD k default).snd]] := by simp [pp, dP]
      first |(exact ⟨_, _, by omega, Imp.go (fun i => if i < 3 then i else i + 2) [_, _, _, _] rfl rfl (.cons_cons _ (.cons _ (.refl _))) (fun _ h => absurd h (Nat.not_lt_zero _)) (fun id h => by simp only [show ¬ id < 3 by omega, if_false]; omega) zT (by simp only [hpp, List.length_append, List.length_cons, List.length_nil, Nat.zero_add]; repeat' (first | exact TmT.cons rfl (TnS.d _) ?_ | exact trivial | exact F2.nil | refine F2.append ?_ ?_ | refine F2.map fun _ _ => ?_ | refine F2.cons ?_ ?_ | refine TmT.cons rfl ?_ ?_ | exact TnS.d _ | exact TnS.dx _ | exact TnS.dp _ | exact TnS.slc rfl | exact TnS.ptr rfl | refine TnS.frzf rfl (by simp) (by simp) (by simp) ?_ | refine TnS.frz0 rfl (by simp) (by simp) (by simp) ?_ | refine TnS.frzm rfl (by simp) ?_ | exact TnS.mapr rfl | exact TnS.yld rfl | refine ⟨rfl, ?_⟩ | refine TnO.arr ?_ | refine TnO.map ?_ | exact TnO.raw _ | exact TnO.iter _ _ | refine TnS.agg ?_ | refine TnS.tup ?_ | exact TnS.pure (Pure.clo (by assumption) (by assumption)) | refine TnS.clo ?_ ?_ | exact TnS.unk _ | exact TnS.pure (Pure.clo (by assumption) (by assumption)))) (fun _ => rfl), ⟨k + 1, o ++ [c.same.getD k default], ⟨hlt, by rw [hsu]; rfl⟩, rfl, rfl⟩⟩) |(exact ⟨_, _, by omega, Imp.go (fun i => if i < 4 then i else i + 1) _ rfl rfl (.cons _ (.refl _)) (fun _ h => absurd h (Nat.not_lt_zero _)) (fun id h => by simp only [show ¬ id < 4 by omega, if_false]; omega) zT zT (fun _ => rfl), ⟨k + 1, o, ⟨hlt, by rw [hsu]; simp⟩, rfl, rfl⟩⟩)
  · have hge : k = c.same.length := by simp at h17; omega
    subst hge
    obtain ⟨o1, ho1⟩ : ∃ o1, o1 = o := ⟨_, rfl⟩
    rw [← ho1] at ho ⊢
    have hk1 := ho
    refine Tr.exit ?_
    refine Tr.seq ?_
    refine Tr.reg [1, 2, 4, 5, 33, 34, 35] (by
        simp only [↓sxd, sxu, ↓zE, ↓exq, ↓zB, ↓zJ, ↓zD, ↓zA, Nat.reduceBEq, Nat.reduceAdd, Nat.reduceLT, Nat.reduceEqDiff, sxe, yF]
        (all_goals try exact zF)) ?_
    refine Tr.imp (st' := ⟨[(1, U s), (2, .ptr 0 0 0), (4, .ptr 1 0 0), (5, .ptr 2 0 0), (33, SP c.apart), (34, I c.apart.length), (35, I 0)], [(4, .arr 2 (pp [])), (3, .arr 2 (pp o1)), (2, .arr 7 [cs c (.slc 3 2 0 o1.length o1.length) (.slc 4 2 0 [].length [].length)]), (1, .arr 7 [[.dx [], .dx [], .dx [], I 0, I 0, I 0, I 0]]), (0, .arr 7 [cs c (SP c.same) (SP c.apart)])], 5, 56, [], 0⟩) (Imp.goV 2 rfl rfl rfl rfl (by repeat' (first | exact trivial | exact F2.nil | refine F2.cons ?_ ?_ | refine TmV.cons rfl VnS.nil ?_ | refine TmV.cons rfl VnS.same ?_ | refine ⟨rfl, ?_⟩ | exact VnO.same _ | refine VnO.arr ?_ | exact VnS.nil | exact VnS.same | exact F2.refl fun _ _ => VnS.same)) (by repeat' (first | exact trivial | exact F2.nil | refine F2.cons ?_ ?_ | refine TmV.cons rfl VnS.nil ?_ | refine TmV.cons rfl VnS.same ?_ | refine ⟨rfl, ?_⟩ | exact VnO.same _ | refine VnO.arr ?_ | exact VnS.nil | exact VnS.same | exact F2.refl fun _ _ => VnS.same))) (Tr.block (Tr.loopI (fun mm ss => ∃ (k : Nat) (o : List Pair), (k ≤ c.apart.length ∧ o = kept (fun i => !s.testBit (c.same.length + i)) c.apart k) ∧ c.apart.length - k = mm ∧ ss = ⟨[(1, U s), (2, .ptr 0 0 0), (4, .ptr 1 0 0), (5, .ptr 2 0 0), (33, SP c.apart), (34, I c.apart.length), (35, I k)], [(4, .arr 2 (pp o)), (3, .arr 2 (pp o1)), (2, .arr 7 [cs c (.slc 3 2 0 o1.length o1.length) (.slc 4 2 0 o.length o.length)]), (1, .arr 7 [[.dx [], .dx [], .dx [], I 0, I 0, I 0, I 0]]), (0, .arr 7 [cs c (SP c.same) (SP c.apart)])], 5, 56, [], 0⟩) _ ⟨0, [], ?_, rfl, rfl⟩ ?_))
    · exact ⟨Nat.zero_le _, rfl⟩
    rintro mm ss ⟨k, o, hI, rfl, rfl⟩
    obtain ⟨hI, ho⟩ := hI
    have hol : o.length ≤ k := by rw [ho]; exact kept_len _ _ _
    refine Tr.reg [1, 2, 4, 5, 33, 34, 35, 36] (by
        simp only [↓sxd, sxu, ↓zE, ↓exq, Nat.reduceBEq, Nat.reduceLT, sxe]
        (all_goals try exact zF)) ?_
    refine Tr.seq ?_
    refine Tr.cond rfl (fun h36 => ?_) (fun h36 => ?_)
    · have hlt : k < c.apart.length := by simpa using h36
      refine Tr.skip ?_
      refine Tr.seq ?_
      refine Tr.block ?_
      refine Tr.reg [1, 2, 4, 5, 8, 9, 33, 34, 35] (by
          simp only [↓sxd, sxu, ↓zE, ↓exq, ↓zD, ↓zM, Nat.reduceBEq, Nat.reduceAdd, Nat.reduceLT, Nat.reduceEqDiff, sxe, yF, hlt]
          (all_goals try exact zF)) ?_
      have w2 : IntKind.i64.wrap ((c.same.length : Int) + (k : Int)) = ((c.same.length + k : Nat) : Int) := by rw [wr (by omega) (by omega)]; rfl
      refine Tr.reg [1, 2, 4, 5, 9, 33, 34, 35, 47] (by
          simp only [↓sxd, sxu, ↓zE, ↓exq, ↓zB, ↓zJ, ↓zD, ↓zA, Nat.reduceBEq, Nat.reduceAdd, Nat.reduceLT, Nat.reduceEqDiff, sxe, yF, w2]
          (repeat ((with_reducible refine And.intro ?_ ?_); (focus (exact zS))))
          refine CallO.use (has_c s (c.same.length + k) hs) ?_
          try simp only [↓sxd, sxu, ↓zE, ↓exq, ↓zL, Nat.reduceBEq, Nat.reduceLT]
          (all_goals try exact zF)) ?_
      refine Tr.cond rfl (fun h47 => ?_) (fun h47 => ?_)
      · have hg : (!s.testBit (c.same.length + k)) = true := h47
        have hol2 : (o.length + 1 ≤ 1073741824) = True := by simp; omega
        refine Tr.reg1 [1, 2, 4, 5, 33, 34, 35] (by
            simp only [↓sxd, sxu, ↓zE, ↓exq, ↓zB, ↓zD, ↓zG, ↓zQ, ↓zA, Nat.reduceBEq, Nat.reduceAdd, Nat.reduceLT, Nat.reduceLeDiff, Nat.reduceEqDiff, yF, pp_len, hol2]
            (all_goals try exact zF)) ?_
        have w1 : IntKind.i64.wrap ((k : Int) + 1) = ((k + 1 : Nat) : Int) := by rw [wr (by omega) (by omega)]; rfl
        refine Tr.reg1 [1, 2, 4, 5, 33, 34, 35] (by
            simp only [↓sxd, sxu, ↓zE, ↓exq, Nat.reduceBEq, Nat.reduceLT, w1]
            (all_goals try exact zF)) ?_
        have hsu := kept_succ (fun i => !s.testBit (c.same.length + i)) c.apart k
        simp only [hg] at hsu
        rw [← ho] at hsu
        have hpp : pp (o ++ [c.apart.getD k default]) = pp o ++ [[I (c.apart.getD k default).fst, I (c.apart.getD k default).snd]] := by simp [pp, dP]
        first |(exact ⟨_, _, by omega, Imp.go (fun i => if i < 4 then i else i + 2) [_, _, _, _, _] rfl rfl (.cons_cons _ (.cons _ (.refl _))) (fun _ h => absurd h (Nat.not_lt_zero _)) (fun id h => by simp only [show ¬ id < 4 by omega, if_false]; omega) zT (by simp only [hpp, List.length_append, List.length_cons, List.length_nil, Nat.zero_add]; repeat' (first | exact TmT.cons rfl (TnS.d _) ?_ | exact trivial | exact F2.nil | refine F2.append ?_ ?_ | refine F2.map fun _ _ => ?_ | refine F2.cons ?_ ?_ | refine TmT.cons rfl ?_ ?_ | exact TnS.d _ | exact TnS.dx _ | exact TnS.dp _ | exact TnS.slc rfl | exact TnS.ptr rfl | refine TnS.frzf rfl (by simp) (by simp) (by simp) ?_ | refine TnS.frz0 rfl (by simp) (by simp) (by simp) ?_ | refine TnS.frzm rfl (by simp) ?_ | exact TnS.mapr rfl | exact TnS.yld rfl | refine ⟨rfl, ?_⟩ | refine TnO.arr ?_ | refine TnO.map ?_ | exact TnO.raw _ | exact TnO.iter _ _ | refine TnS.agg ?_ | refine TnS.tup ?_ | exact TnS.pure (Pure.clo (by assumption) (by assumption)) | refine TnS.clo ?_ ?_ | exact TnS.unk _ | exact TnS.pure (Pure.clo (by assumption) (by assumption)))) (fun _ => rfl), ⟨k + 1, o ++ [c.apart.getD k default], ⟨hlt, by rw [hsu]; rfl⟩, rfl, rfl⟩⟩) |(exact ⟨_, _, by omega, Imp.go (fun i => if i < 5 then i else i + 1) _ rfl rfl (.cons _ (.refl _)) (fun _ h => absurd h (Nat.not_lt_zero _)) (fun id h => by simp only [show ¬ id < 5 by omega, if_false]; omega) zT zT (fun _ => rfl), ⟨k + 1, o, ⟨hlt, by rw [hsu]; simp⟩, rfl, rfl⟩⟩)
      · have hg : (!s.testBit (c.same.length + k)) = false := h47
        refine Tr.skip ?_
        have w1 : IntKind.i64.wrap ((k : Int) + 1) = ((k + 1 : Nat) : Int) := by rw [wr (by omega) (by omega)]; rfl
        refine Tr.reg1 [1, 2, 4, 5, 33, 34, 35] (by
            simp only [↓sxd, sxu, ↓zE, ↓exq, Nat.reduceBEq, Nat.reduceLT, w1]
            (all_goals try exact zF)) ?_
        have hsu := kept_succ (fun i => !s.testBit (c.same.length + i)) c.apart k
        simp only [hg] at hsu
        rw [← ho] at hsu
        have hpp : pp (o ++ [c.apart.getD k default]) = pp o ++ [[I (c.apart.getD k default).fst, I (c.apart.getD k default).snd]] := by simp [pp, dP]
        first |(exact ⟨_, _, by omega, Imp.go (fun i => if i < 4 then i else i + 2) [_, _, _, _, _] rfl rfl (.cons_cons _ (.cons _ (.refl _))) (fun _ h => absurd h (Nat.not_lt_zero _)) (fun id h => by simp only [show ¬ id < 4 by omega, if_false]; omega) zT (by simp only [hpp, List.length_append, List.length_cons, List.length_nil, Nat.zero_add]; repeat' (first | exact TmT.cons rfl (TnS.d _) ?_ | exact trivial | exact F2.nil | refine F2.append ?_ ?_ | refine F2.map fun _ _ => ?_ | refine F2.cons ?_ ?_ | refine TmT.cons rfl ?_ ?_ | exact TnS.d _ | exact TnS.dx _ | exact TnS.dp _ | exact TnS.slc rfl | exact TnS.ptr rfl | refine TnS.frzf rfl (by simp) (by simp) (by simp) ?_ | refine TnS.frz0 rfl (by simp) (by simp) (by simp) ?_ | refine TnS.frzm rfl (by simp) ?_ | exact TnS.mapr rfl | exact TnS.yld rfl | refine ⟨rfl, ?_⟩ | refine TnO.arr ?_ | refine TnO.map ?_ | exact TnO.raw _ | exact TnO.iter _ _ | refine TnS.agg ?_ | refine TnS.tup ?_ | exact TnS.pure (Pure.clo (by assumption) (by assumption)) | refine TnS.clo ?_ ?_ | exact TnS.unk _ | exact TnS.pure (Pure.clo (by assumption) (by assumption)))) (fun _ => rfl), ⟨k + 1, o ++ [c.apart.getD k default], ⟨hlt, by rw [hsu]; rfl⟩, rfl, rfl⟩⟩) |(exact ⟨_, _, by omega, Imp.go (fun i => if i < 5 then i else i + 1) _ rfl rfl (.cons _ (.refl _)) (fun _ h => absurd h (Nat.not_lt_zero _)) (fun id h => by simp only [show ¬ id < 5 by omega, if_false]; omega) zT zT (fun _ => rfl), ⟨k + 1, o, ⟨hlt, by rw [hsu]; simp⟩, rfl, rfl⟩⟩)
    · have hge : k = c.apart.length := by simp at h36; omega
      refine Tr.exit ?_
      refine Tr.reg [4] (by
          simp only [↓sxd, sxu, ↓zE, ↓exq, ↓zD, Nat.reduceBEq, Nat.reduceAdd, Nat.reduceLT, Nat.reduceEqDiff, yF]
          (all_goals try exact zF)) ?_
      subst hge
      refine Tr.imp (st' := ⟨[(4, .ptr 1 0 0)], [(1, .arr 7 [cs c (SP (c.without s).same) (SP (c.without s).apart)])], _, _, [], _⟩) (Imp.go (fun i => i) [(1, _)] rfl rfl (.cons _ (.cons _ (.cons _ (.cons_cons _ (.cons _ .slnil))))) (fun _ _ => rfl) (fun _ h => h) ?_ ?_ (fun _ => rfl)) ?_
      · repeat' (first | exact TmT.cons rfl (TnS.d _) ?_ | exact trivial | exact F2.nil | refine F2.append ?_ ?_ | refine F2.map fun _ _ => ?_ | refine F2.cons ?_ ?_ | refine TmT.cons rfl ?_ ?_ | exact TnS.d _ | exact TnS.dx _ | exact TnS.dp _ | exact TnS.slc rfl | exact TnS.ptr rfl | refine TnS.frzf rfl (by simp) (by simp) (by simp) ?_ | refine TnS.frz0 rfl (by simp) (by simp) (by simp) ?_ | refine TnS.frzm rfl (by simp) ?_ | exact TnS.mapr rfl | exact TnS.yld rfl | refine ⟨rfl, ?_⟩ | refine TnO.arr ?_ | refine TnO.map ?_ | exact TnO.raw _ | exact TnO.iter _ _ | refine TnS.agg ?_ | refine TnS.tup ?_ | exact TnS.pure (Pure.clo (by assumption) (by assumption)) | refine TnS.clo ?_ ?_ | exact TnS.unk _ | exact TnS.pure (Pure.clo (by assumption) (by assumption)))
      · refine .cons ⟨rfl, TnO.arr ?_⟩ .nil
        refine .cons (.cons (TnS.d _) (.cons ?_ (.cons ?_ zT))) .nil
        · exact pfz (l := (c.without s).same) rfl (by rw [hk1]; rfl) (by simp) (by rw [hk1]; rfl)
        · exact pfz (l := (c.without s).apart) rfl (by rw [ho]; rfl) (by simp) (by rw [ho]; rfl)
      refine Tr.ret ?_
      (refine ⟨.inr rfl, ?_⟩; first | rfl | exact ⟨rfl, rfl, trivial⟩ | exact ⟨rfl, rfl, rfl, trivial⟩ | (simp only [Res, ResOK, sxu, ↓zD, Nat.reduceAdd, Nat.reduceLT, yF]; (repeat' (first | rfl | exact trivial | exact fun h => h | exact fun h => (by rw [h]; rfl) | apply And.intro | omega | exact Nat.le_of_ble_eq_true rfl))))
end Go.Proofs.YtcnkbdfkjhlbiaaDoor
