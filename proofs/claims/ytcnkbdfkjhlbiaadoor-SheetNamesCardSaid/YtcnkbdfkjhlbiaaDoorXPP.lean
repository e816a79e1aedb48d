/- Lemmas, part XPP. Conditions: none. -/
import Derived.Test.YtcnkbdfkjhlbiaaDoorXPO
set_option linter.unusedVariables false
namespace Go.Proofs.YtcnkbdfkjhlbiaaDoor
open Go.Sy
set_option maxRecDepth 8000
structure Work.Ok (w : Work) : Prop where
  h1 : w.one.length = 1024
  h2 : w.least.length = 1024
  hb : w.blocks.length ≤ 10
  lt : ∀ x ∈ w.blocks, x < 1024
theorem readW_ok {c : Census} (hc : Readable c) : (readW c).Ok := by
  have h := foldJ_ok c.same _ (blocks0_ok c.entries.length) (fun p hp => ⟨(hc.hs p hp).2.2.1, (hc.hs p hp).2.2.2⟩)
  refine ⟨(tables_len c _ _).1, (tables_len c _ _).2, ?_, fun x hx => ?_⟩
  · have := h.len; have := hc.ne; show (blocksOf c).length ≤ 10; unfold blocksOf; omega
  · have := h.lt x hx
    have h2 : 2 ^ c.entries.length ≤ 2 ^ 10 := Nat.pow_le_pow_right (by omega) hc.ne
    omega
def Work.persons (w : Work) : Rng := if w.least.getD (2 ^ w.blocks.length - 1) 0 ≥ 1024 then ⟨1, 0⟩ else w.c.limits.cut (w.least.getD (2 ^ w.blocks.length - 1) 0) w.blocks.length
abbrev x7 := And.intro ty.sz0 <| And.intro ty.agg0 <| And.intro ty.elem0 <| And.intro ty.sz3 <| And.intro ty.agg3 <| And.intro ty.elem3 <| And.intro ty.zero3 <| And.intro ty.und3 <| And.intro ty.sz4 <| And.intro ty.agg4 <| And.intro ty.elem4 <| And.intro ty.zero4 <| And.intro ty.und4 <| And.intro ty.sz30 <| And.intro ty.agg30 <| And.intro ty.fld30_0 <| And.intro ty.fld30_1 <| And.intro ty.elem30 <| And.intro ty.zero30 <| And.intro ty.pl30 <| And.intro ty.sz37 <| And.intro ty.agg37 <| And.intro ty.fld37_0 <| And.intro ty.fld37_1 <| And.intro ty.fld37_2 <| And.intro ty.fld37_3 <| And.intro ty.fld37_4 <| And.intro ty.elem37 <| And.intro ty.zero37 <| And.intro ty.pl37 <| And.intro ty.sz108 <| And.intro ty.agg108 <| And.intro ty.elem108 <| And.intro ty.zero108 <| And.intro ty.sz114 <| And.intro ty.agg114 <| And.intro ty.elem114 <| And.intro ty.zero114 <| And.intro ty.und114 <| And.intro ty.sz142 <| And.intro ty.agg142 <| And.intro ty.elem142 <| And.intro ty.by142 <| And.intro ty.ez142 <| And.intro ty.zero142 <| And.intro ty.und142 <| And.intro ty.sz144 <| And.intro ty.agg144 <| And.intro ty.elem144 <| And.intro ty.arr144 <| And.intro ty.zero144 <| And.intro ty.und144 <| And.intro ty.sz146 <| And.intro ty.agg146 <| And.intro ty.fld146_0 <| And.intro ty.fld146_1 <| And.intro ty.fld146_2 <| And.intro ty.fld146_3 <| And.intro ty.elem146 <| And.intro ty.zero146 <| ty.pl146
theorem persons_c (w : Work) (hw : w.Ok) : CallP Tryd.prog G0 63 [.dp w.d] w.persons.s := by
  obtain ⟨h1, h2, hb, _⟩ := hw
  have hp10 : 2 ^ w.blocks.length ≤ 2 ^ 10 := Nat.pow_le_pow_right (by omega) hb
  have hk : 2 ^ w.blocks.length - 1 < w.least.length := by rw [h2]; omega
  refine CallP.body 31 [.cell 2 30] Tryd.func63 (by kernel_rfl) rfl rfl rfl zP zP ?_
  refine Tr.reg [0, 2] (by
      simp only [↓sxd, sxu, ↓zE, ↓exq, ↓zM, Nat.reduceBEq, Nat.reduceAdd, Nat.reduceLT, Nat.reduceEqDiff, x7]
      (all_goals try exact zF)) ?_
  refine Tr.reg [0, 2, 3] (by
      simp only [↓sxd, sxu, ↓zE, ↓exq, Nat.reduceLT]
      (repeat ((with_reducible refine And.intro ?_ ?_); (focus (exact zS))))
      refine CallO.use (whole_c w (by omega)) ?_
      try simp only [↓sxd, sxu, ↓zE, ↓exq, Nat.reduceBEq, Nat.reduceLT]
      (all_goals try exact zF)) ?_
  refine Tr.seq ?_
  refine Tr.reg [0, 2, 3, 12] (by
      simp only [↓sxd, sxu, ↓zE, ↓exq, ↓zD, ↓zV, ↓zA, Nat.reduceBEq, Nat.reduceLT, Nat.reduceEqDiff, sxe, x7, Work.tl, tl_least h1, le_get hk, le_get0 hk]
      (all_goals try exact zF)) ?_
  refine Tr.cond rfl (fun h12 => ?_) (fun h12 => ?_)
  · rw [show w.persons = ⟨1, 0⟩ from if_pos (by simpa using h12)]
    refine Tr.reg [2] (by
        simp only [↓sxd, sxu, ↓zE, ↓exq, ↓zO, Nat.reduceBEq, Nat.reduceAdd, Nat.reduceLT, Nat.reduceLeDiff, x7]
        (all_goals try exact zF)) ?_
    refine Tr.ret ?_
    (refine ⟨.inr rfl, ?_⟩; first | rfl | exact ⟨rfl, rfl, trivial⟩ | exact ⟨rfl, rfl, rfl, trivial⟩ | (simp only [Res, ResOK, sxu, ↓zD, Nat.reduceAdd, Nat.reduceLT, x7]; (repeat' (first | rfl | exact trivial | exact fun h => h | exact fun h => (by rw [h]; rfl) | apply And.intro | omega | exact Nat.le_of_ble_eq_true rfl))))
  · rw [show w.persons = w.c.limits.cut (w.least.getD (2 ^ w.blocks.length - 1) 0) w.blocks.length from if_neg (by simpa using h12)]
    refine Tr.skip ?_
    refine Tr.regD [0, 1, 2, 3, 4, 5, 6, 7, 8, 9, 10, 11, 12, 13, 14, 15, 16, 17] [17] [] [2] mix (by kernel_rfl) (by
        simp only [↓sxd, sxu, ↓zC, zK, ↓exq, ↓zD, ↓zV, ↓zA, Nat.reduceBEq, Nat.reduceLT, Nat.reduceLeDiff, Nat.reduceEqDiff, x7, Work.tl]
        (repeat ((with_reducible refine And.intro ?_ ?_); (focus (exact zS))))
        refine CallD.use (limits_c _ w.c) ?_
        try simp only [↓sxd, sxu, ↓zC, zK, ↓exq, ↓zB, ↓zJ, ↓zD, ↓zV, ↓zA, Nat.reduceBEq, Nat.reduceLT, Nat.reduceEqDiff, sxe, x7, Work.tl, tl_least h1, le_get hk, le_get0 hk]
        (repeat ((with_reducible refine And.intro ?_ ?_); (focus (exact zS))))
        refine CallD.use (cut_c _ _ _) ?_
        try simp only [↓sxd, sxu, ↓zC, ↓exq, Nat.reduceBEq, Nat.reduceAdd, Nat.reduceLT, x7]
        (all_goals try exact zF)) ?_
    refine Tr.ret ?_
    (refine ⟨.inr rfl, ?_⟩; first | rfl | exact ⟨rfl, rfl, trivial⟩ | exact ⟨rfl, rfl, rfl, trivial⟩ | (simp only [Res, ResOK, sxu, ↓zD, Nat.reduceAdd, Nat.reduceLT, x7]; (repeat' (first | rfl | exact trivial | exact fun h => h | exact fun h => (by rw [h]; rfl) | apply And.intro | omega | exact Nat.le_of_ble_eq_true rfl))))
def Census.cons (c : Census) : Bool := decide ((readW c).persons.lo ≤ (readW c).persons.hi)
abbrev wS := And.intro ty.sz0 <| And.intro ty.agg0 <| And.intro ty.elem0 <| And.intro ty.sz3 <| And.intro ty.agg3 <| And.intro ty.elem3 <| And.intro ty.zero3 <| And.intro ty.und3 <| And.intro ty.sz4 <| And.intro ty.agg4 <| And.intro ty.elem4 <| And.intro ty.zero4 <| And.intro ty.und4 <| And.intro ty.sz30 <| And.intro ty.agg30 <| And.intro ty.fld30_0 <| And.intro ty.fld30_1 <| And.intro ty.elem30 <| And.intro ty.zero30 <| And.intro ty.pl30 <| And.intro ty.sz37 <| And.intro ty.agg37 <| And.intro ty.fld37_0 <| And.intro ty.fld37_1 <| And.intro ty.fld37_2 <| And.intro ty.fld37_3 <| And.intro ty.fld37_4 <| And.intro ty.elem37 <| And.intro ty.zero37 <| And.intro ty.pl37 <| And.intro ty.sz108 <| And.intro ty.agg108 <| And.intro ty.elem108 <| ty.zero108
theorem consistent_c (c : Census) (hc : Readable c) : CallP Tryd.prog G0 67 [c.s] (B c.cons) := by
  refine CallP.body 12 [.tmp 2] Tryd.func67 (by kernel_rfl) rfl rfl rfl zP zP ?_
  refine Tr.reg [1] (by
      simp only [↓sxd, sxu, ↓zE, ↓exq, ↓zI, Nat.reduceBEq, Nat.reduceAdd, Nat.reduceLT, Nat.reduceEqDiff]
      (all_goals try exact zF)) ?_
  refine Tr.reg [3] (by
      simp only [↓sxd, sxu, ↓zE, ↓exq, ↓zD, Nat.reduceAdd, Nat.reduceLT, wS]
      (repeat ((with_reducible refine And.intro ?_ ?_); (focus (exact zS))))
      refine CallO.use (read_c c hc) ?_
      try simp only [↓sxd, sxu, ↓zE, Nat.reduceLT]
      (repeat ((with_reducible refine And.intro ?_ ?_); (focus (exact zS))))
      refine CallO.use (persons_c _ (readW_ok hc)) ?_
      try simp only [↓sxd, sxu, ↓zE, ↓exq, ↓zM, Nat.reduceBEq, Nat.reduceAdd, Nat.reduceLT, Nat.reduceEqDiff, wS]
      (all_goals try exact zF)) ?_
  refine Tr.reg [2] (by
      simp only [↓sxd, sxu, ↓zE, ↓exq, ↓zD, ↓zA, Nat.reduceBEq, Nat.reduceAdd, Nat.reduceLT, Nat.reduceEqDiff, wS]
      (all_goals try exact zF)) ?_
  refine Tr.ret ?_
  (refine ⟨.inr rfl, ?_⟩; first | rfl | exact ⟨rfl, rfl, trivial⟩ | exact ⟨rfl, rfl, rfl, trivial⟩ | (simp only [Res, ResL, ResOK, ↓sxd, sxu, ↓zE, ↓zC, zK, ↓exP, ↓exq, ↓zB, ↓zL, ↓zD, ↓zM, ↓zI, ↓zA, Nat.reduceBEq, Nat.reduceAdd, Nat.reduceLT, Nat.reduceMul, Nat.reduceSub, Nat.reduceLeDiff, Nat.reduceEqDiff, Int.reduceLE, Int.reduceLT, Int.reduceToNat, reduceIte, sxe, wS]; (repeat' (first | rfl | exact trivial | exact fun h => h | exact fun h => (by rw [h]; rfl) | apply And.intro | omega | exact Nat.le_of_ble_eq_true rfl))))
def Census.tried (c : Census) (right : Bool) : Int := if c.check ≠ 0 then c.check else if !right then 2 else if (readW c).persons.lo > (readW c).persons.hi then 9 else 0
def Census.triedW (c : Census) (right : Bool) : SV := if c.tried right = 0 then .dp (readW c).d else nilP
abbrev xH := And.intro ty.sz0 <| And.intro ty.agg0 <| And.intro ty.elem0 <| And.intro ty.sz3 <| And.intro ty.agg3 <| And.intro ty.elem3 <| And.intro ty.zero3 <| And.intro ty.und3 <| And.intro ty.sz4 <| And.intro ty.agg4 <| And.intro ty.elem4 <| And.intro ty.zero4 <| And.intro ty.und4 <| And.intro ty.sz30 <| And.intro ty.agg30 <| And.intro ty.fld30_0 <| And.intro ty.fld30_1 <| And.intro ty.elem30 <| And.intro ty.zero30 <| And.intro ty.pl30 <| And.intro ty.sz31 <| And.intro ty.agg31 <| And.intro ty.elem31 <| And.intro ty.zero31 <| And.intro ty.und31 <| And.intro ty.sz37 <| And.intro ty.agg37 <| And.intro ty.fld37_0 <| And.intro ty.fld37_1 <| And.intro ty.fld37_2 <| And.intro ty.fld37_3 <| And.intro ty.fld37_4 <| And.intro ty.elem37 <| And.intro ty.zero37 <| And.intro ty.pl37 <| And.intro ty.sz108 <| And.intro ty.agg108 <| And.intro ty.elem108 <| ty.zero108
theorem tried_c (c : Census) (h1 : c.entries.length < 4611686018427387904) (h2 : c.same.length < 4611686018427387904) (h3 : c.apart.length < 4611686018427387904) (hc : c.check = 0 → Readable c) (right : Bool) : CallP Tryd.prog G0 62 [c.s, B right] (.tup [c.triedW right, I (c.tried right)]) := by
  refine CallP.body 26 [.tmp 4, .tmp 5] Tryd.func62 (by kernel_rfl) rfl rfl rfl zP (by unfold Census.triedW; split <;> repeat' (first | exact Pure.d _ | exact Pure.dx _ | exact Pure.dp _ | exact fa_nil | refine fa_cons ?_ ?_ | refine Pure.agg ?_ | refine Pure.tup ?_ | refine Pure.clo ?_ ?_ | refine Pure.fp ?_ | exact Pure.mapd _ | assumption)) ?_
  refine Tr.reg [1, 2] (by
      simp only [↓sxd, sxu, ↓zE, ↓exq, ↓zI, Nat.reduceBEq, Nat.reduceAdd, Nat.reduceLT, Nat.reduceEqDiff]
      (all_goals try exact zF)) ?_
  refine Tr.seq ?_
  refine Tr.reg [1, 2, 6] (by
      simp only [↓sxd, sxu, ↓zE, ↓exq, ↓zD, Nat.reduceBEq, Nat.reduceAdd, Nat.reduceLT, xH]
      (repeat ((with_reducible refine And.intro ?_ ?_); (focus (exact zS))))
      refine CallO.use (checkCensus_c c h1 h2 h3) ?_
      try simp only [↓sxd, sxu, ↓zE, ↓exq, Nat.reduceBEq, Nat.reduceLT]
      (all_goals try exact zF)) ?_
  refine Tr.reg [1, 2, 6, 12] (by
      simp only [↓sxd, sxu, ↓zE, ↓exq, Nat.reduceBEq, Nat.reduceLT]
      (all_goals try exact zF)) ?_
  refine Tr.cond rfl (fun h12 => ?_) (fun h12 => ?_)
  · have g12 : c.check ≠ 0 := by simpa using h12
    have ht : c.tried right = c.check := if_pos g12
    have hw : c.triedW right = nilP := if_neg (by rw [ht]; exact g12)
    rw [ht, hw]
    refine Tr.reg [4, 5] (by
        simp only [↓sxd, sxu, ↓zE, ↓exq, Nat.reduceBEq, Nat.reduceLT]
        (all_goals try exact zF)) ?_
    refine Tr.ret ?_
    (refine ⟨.inr rfl, ?_⟩; first | rfl | exact ⟨rfl, rfl, trivial⟩ | exact ⟨rfl, rfl, rfl, trivial⟩ | (simp only [Res, ResL, ResOK, ↓sxd, sxu, ↓zE, ↓zC, zK, ↓exP, ↓exq, ↓zB, ↓zL, ↓zD, ↓zM, ↓zI, ↓zA, Nat.reduceBEq, Nat.reduceAdd, Nat.reduceLT, Nat.reduceMul, Nat.reduceSub, Nat.reduceLeDiff, Nat.reduceEqDiff, Int.reduceLE, Int.reduceLT, Int.reduceToNat, reduceIte, sxe, xH]; (repeat' (first | rfl | exact trivial | exact fun h => h | exact fun h => (by rw [h]; rfl) | apply And.intro | omega | exact Nat.le_of_ble_eq_true rfl))))
  · have g12 : c.check = 0 := by simpa using h12
    refine Tr.skip ?_
    refine Tr.seq ?_
    refine Tr.reg [2, 15] (by
        simp only [↓sxd, sxu, ↓zE, ↓exq, ↓zL, Nat.reduceBEq, Nat.reduceLT]
        (all_goals try exact zF)) ?_
    refine Tr.cond rfl (fun h15 => ?_) (fun h15 => ?_)
    · have ht : c.tried right = 2 := by simp at h15; simp [Census.tried, g12, h15]
      have hw : c.triedW right = nilP := if_neg (by rw [ht]; decide)
      rw [ht, hw]
      refine Tr.reg [4, 5] (by
          simp only [↓sxd, sxu, ↓zE, ↓exq, Nat.reduceBEq, Nat.reduceLT]
          (all_goals try exact zF)) ?_
      refine Tr.ret ?_
      (refine ⟨.inr rfl, ?_⟩; first | rfl | exact ⟨rfl, rfl, trivial⟩ | exact ⟨rfl, rfl, rfl, trivial⟩ | (simp only [Res, ResL, ResOK, ↓sxd, sxu, ↓zE, ↓zC, zK, ↓exP, ↓exq, ↓zB, ↓zL, ↓zD, ↓zM, ↓zI, ↓zA, Nat.reduceBEq, Nat.reduceAdd, Nat.reduceLT, Nat.reduceMul, Nat.reduceSub, Nat.reduceLeDiff, Nat.reduceEqDiff, Int.reduceLE, Int.reduceLT, Int.reduceToNat, reduceIte, sxe, xH]; (repeat' (first | rfl | exact trivial | exact fun h => h | exact fun h => (by rw [h]; rfl) | apply And.intro | omega | exact Nat.le_of_ble_eq_true rfl))))
    · have g15 : right = true := by simpa using h15
      refine Tr.skip ?_
      refine Tr.reg [7] (by
          simp only [↓sxd, sxu, ↓zE, ↓exq, ↓zD, Nat.reduceAdd, Nat.reduceLT, xH]
          (repeat ((with_reducible refine And.intro ?_ ?_); (focus (exact zS))))
          refine CallO.use (read_c c (hc (by simpa using h12))) ?_
          try simp only [↓sxd, sxu, ↓zE, ↓exq, Nat.reduceLT]
          (all_goals try exact zF)) ?_
      refine Tr.seq ?_
      refine Tr.reg [7, 8] (by
          simp only [↓sxd, sxu, ↓zE, ↓exq, Nat.reduceLT]
          (repeat ((with_reducible refine And.intro ?_ ?_); (focus (exact zS))))
          refine CallO.use (persons_c _ (readW_ok (hc (by simpa using h12)))) ?_
          try simp only [↓sxd, sxu, ↓zE, ↓exq, ↓zM, Nat.reduceBEq, Nat.reduceAdd, Nat.reduceLT, Nat.reduceEqDiff, xH]
          (all_goals try exact zF)) ?_
      refine Tr.reg [7, 24] (by
          simp only [↓sxd, sxu, ↓zE, ↓exq, ↓zD, ↓zA, Nat.reduceBEq, Nat.reduceAdd, Nat.reduceLT, Nat.reduceEqDiff, xH]
          (all_goals try exact zF)) ?_
      refine Tr.cond rfl (fun h24 => ?_) (fun h24 => ?_)
      · have ht : c.tried right = 9 := by simp at h24; simp [Census.tried, g12, g15, h24]
        have hw : c.triedW right = nilP := if_neg (by rw [ht]; decide)
        rw [ht, hw]
        refine Tr.reg [4, 5] (by
            simp only [↓sxd, sxu, ↓zE, ↓exq, Nat.reduceBEq, Nat.reduceLT]
            (all_goals try exact zF)) ?_
        refine Tr.ret ?_
        (refine ⟨.inr rfl, ?_⟩; first | rfl | exact ⟨rfl, rfl, trivial⟩ | exact ⟨rfl, rfl, rfl, trivial⟩ | (simp only [Res, ResL, ResOK, ↓sxd, sxu, ↓zE, ↓zC, zK, ↓exP, ↓exq, ↓zB, ↓zL, ↓zD, ↓zM, ↓zI, ↓zA, Nat.reduceBEq, Nat.reduceAdd, Nat.reduceLT, Nat.reduceMul, Nat.reduceSub, Nat.reduceLeDiff, Nat.reduceEqDiff, Int.reduceLE, Int.reduceLT, Int.reduceToNat, reduceIte, sxe, xH]; (repeat' (first | rfl | exact trivial | exact fun h => h | exact fun h => (by rw [h]; rfl) | apply And.intro | omega | exact Nat.le_of_ble_eq_true rfl))))
      · have ht : c.tried right = 0 := by simp at h24; simp [Census.tried, g12, g15, h24]
        have hw : c.triedW right = .dp (readW c).d := if_pos ht
        rw [ht, hw]
        refine Tr.skip ?_
        refine Tr.reg [4, 5] (by
            simp only [↓sxd, sxu, ↓zE, ↓exq, Nat.reduceBEq, Nat.reduceLT]
            (all_goals try exact zF)) ?_
        refine Tr.ret ?_
        (refine ⟨.inr rfl, ?_⟩; first | rfl | exact ⟨rfl, rfl, trivial⟩ | exact ⟨rfl, rfl, rfl, trivial⟩ | (simp only [Res, ResL, ResOK, ↓sxd, sxu, ↓zE, ↓zC, zK, ↓exP, ↓exq, ↓zB, ↓zL, ↓zD, ↓zM, ↓zI, ↓zA, Nat.reduceBEq, Nat.reduceAdd, Nat.reduceLT, Nat.reduceMul, Nat.reduceSub, Nat.reduceLeDiff, Nat.reduceEqDiff, Int.reduceLE, Int.reduceLT, Int.reduceToNat, reduceIte, sxe, xH]; (repeat' (first | rfl | exact trivial | exact fun h => h | exact fun h => (by rw [h]; rfl) | apply And.intro | omega | exact Nat.le_of_ble_eq_true rfl))))
end Go.Proofs.YtcnkbdfkjhlbiaaDoor
namespace Go.Proofs.YtcnkbdfkjhlbiaaDoor
open Go.Sy
set_option maxRecDepth 8000
def pp (l : List Pair) : List (List SV) := (dP l).map fun e => e.map SV.d
theorem pp_len (l : List Pair) : (pp l).length = l.length := by simp [pp, dP]
abbrev x8 := And.intro ty.sz4 <| And.intro ty.agg4 <| And.intro ty.elem4 <| And.intro ty.zero4 <| And.intro ty.und4 <| And.intro ty.sz35 <| And.intro ty.agg35 <| And.intro ty.elem35 <| And.intro ty.by35 <| And.intro ty.ez35 <| And.intro ty.zero35 <| ty.und35
theorem clone_h (l : List Pair) (hlen : l.length ≤ 1000) (hp : HpT) (nx : Nat) : CallH Tryd.prog G0 114 [SP l] hp nx (Det (.slc nx 2 0 l.length l.length) ((nx, .arr 2 (pp l)) :: hp) (nx + 1)) := by
  refine CallH.body 8 [.tmp 2] Tryd.func114 (by kernel_rfl) rfl rfl rfl ?_
  refine Tr.reg [0] (by
      simp only [↓sxd, sxu, ↓zE, ↓exq, Nat.reduceBEq, Nat.reduceLT]
      (all_goals try exact zF)) ?_
  refine Tr.seq ?_
  refine Tr.seq (Tr.nilTest rfl rfl rfl rfl rfl rfl rfl rfl (show 3 < 8 by decide) (show 4 < 8 by decide) (fun b hb => ?_))
  refine Tr.cond rfl (fun h4 => ?_) (fun h4 => ?_)
  · have hl : l = [] := by have := hb h4; simpa [dP] using this
    subst hl
    refine Tr.reg [2] (by
        simp only [↓sxd, sxu, ↓zE, ↓exq, Nat.reduceLT]
        (all_goals try exact zF)) ?_
    refine Tr.imp (st' := ⟨[(2, .slc nx 2 0 0 0)], (nx, .arr 2 []) :: hp, nx + 1, _, _, _⟩) (Imp.goV 2 rfl rfl rfl rfl (by repeat' (first | exact trivial | exact F2.nil | refine F2.cons ?_ ?_ | refine TmV.cons rfl VnS.nil ?_ | refine TmV.cons rfl VnS.same ?_ | refine ⟨rfl, ?_⟩ | exact VnO.same _ | refine VnO.arr ?_ | exact VnS.nil | exact VnS.same | exact F2.refl fun _ _ => VnS.same)) ?_) ?_
    · exact F2.refl fun _ _ => ⟨rfl, VnO.same _⟩
    refine Tr.ret ?_
    exact ⟨.inr rfl, _, rfl, rfl, rfl, rfl⟩
  · refine Tr.skip ?_
    have hz : (∀ e ∈ List.map (fun e => List.map SV.d e) (dP l), e.length = 2 ∧ e.all SV.one = true) = True := by simp [dP, SV.one]
    have hl1 : (l.length ≤ 1073741824) = True := by simp; omega
    refine Tr.reg [2] (by
        simp only [↓sxd, sxu, ↓zE, ↓exq, ↓zB, ↓zG, ↓zQ, Nat.reduceBEq, Nat.reduceAdd, Nat.reduceLT, Nat.reduceLeDiff, Nat.reduceEqDiff, sxe, x8, hz, hl1]
        (all_goals try exact zF)) ?_
    refine Tr.ret ?_
    exact ⟨.inr rfl, _, rfl, rfl, rfl, rfl⟩
theorem pfz {r : Nat → Nat} {hp hp' : HpT} {id n n' : Nat} {es : List (List SV)} {l : List Pair} (h : hp.lookup id = some (.arr 2 es)) (he : es = pp l) (hn : ∀ p ∈ hp', p.1 ≠ id) (hl : l.length = n) : TnS r hp hp' (.slc id 2 0 n n') (SP l) := by
  subst he
  refine TnS.frz0 h hn (by decide) (by rw [pp_len]; exact hl) ?_
  exact F2.mapL fun _ _ => F2.mapL fun _ _ => TnS.d _
def Census.with (c : Census) (a b : Int) (same : Bool) : Census := if same then { c with same := c.same ++ [⟨a, b⟩] } else { c with apart := c.apart ++ [⟨a, b⟩] }
abbrev yX := And.intro ty.sz0 <| And.intro ty.agg0 <| And.intro ty.elem0 <| And.intro ty.sz3 <| And.intro ty.agg3 <| And.intro ty.elem3 <| And.intro ty.zero3 <| And.intro ty.und3 <| And.intro ty.sz4 <| And.intro ty.agg4 <| And.intro ty.elem4 <| And.intro ty.zero4 <| And.intro ty.und4 <| And.intro ty.sz35 <| And.intro ty.agg35 <| And.intro ty.elem35 <| And.intro ty.by35 <| And.intro ty.ez35 <| And.intro ty.zero35 <| And.intro ty.und35 <| And.intro ty.sz37 <| And.intro ty.agg37 <| And.intro ty.fld37_0 <| And.intro ty.fld37_1 <| And.intro ty.fld37_2 <| And.intro ty.fld37_3 <| And.intro ty.fld37_4 <| And.intro ty.elem37 <| And.intro ty.zero37 <| And.intro ty.pl37 <| And.intro ty.sz104 <| And.intro ty.agg104 <| And.intro ty.fld104_0 <| And.intro ty.fld104_1 <| And.intro ty.elem104 <| And.intro ty.zero104 <| ty.pl104
theorem with_c (c : Census) (a b : Int) (same : Bool) (h1 : c.same.length ≤ 1000) (h2 : c.apart.length ≤ 1000) : CallP Tryd.prog G0 92 [c.s, I a, I b, B same] (c.with a b same).s := by
  refine CallP.body 29 [.cell 8 37] Tryd.func92 (by kernel_rfl) rfl rfl rfl zP zP ?_
  refine Tr.reg [1, 2, 3, 4, 8] (by
      simp only [↓sxd, sxu, ↓zE, ↓exq, ↓zM, ↓zI, Nat.reduceBEq, Nat.reduceAdd, Nat.reduceLT, Nat.reduceEqDiff, yX]
      (all_goals try exact zF)) ?_
  refine Tr.reg [3, 4, 8, 9] (by
      simp only [↓sxd, sxu, ↓zE, ↓exq, ↓zM, ↓zO, Nat.reduceBEq, Nat.reduceAdd, Nat.reduceLT, Nat.reduceLeDiff, Nat.reduceEqDiff, yX]
      (all_goals try exact zF)) ?_
  refine Tr.seq ?_
  refine Tr.reg [4, 8, 9, 13] (by
      simp only [↓sxd, sxu, ↓zE, ↓exq, Nat.reduceBEq, Nat.reduceLT]
      (all_goals try exact zF)) ?_
  refine Tr.cond rfl (fun h13 => ?_) (fun h13 => ?_)
  · refine Tr.regD1 [3, 0, 1, 2, 4, 5, 6, 7] [2, 5, 7] [3] [4, 8] mix (by kernel_rfl) (by
        simp only [↓sxd, sxu, ↓zC, zK, ↓exq, ↓zD, ↓zA, Nat.reduceBEq, Nat.reduceAdd, Nat.reduceLT, Nat.reduceEqDiff, yX]
        (repeat ((with_reducible refine And.intro ?_ ?_); (focus (exact zS))))
        refine CallL.use (clone_h c.same h1 _ _) (by simp only [stabOk]; (all_goals try exact zF)) ?_
        try simp only [↓sxd, sxu, ↓zC, zK, ↓exq, ↓zB, ↓zG, ↓zQ, ↓zA, Nat.reduceBEq, Nat.reduceAdd, Nat.reduceLT, Nat.reduceLeDiff, Nat.reduceEqDiff, yX, pp_len]
        (all_goals try exact zF)) ?_
    refine Tr.reg [8] (by
        simp only [↓sxd, sxu, ↓zE, ↓exq, ↓zD, Nat.reduceBEq, Nat.reduceAdd, Nat.reduceLT, Nat.reduceEqDiff, yX]
        (all_goals try exact zF)) ?_
    refine Tr.imp (st' := ⟨[(8, .ptr 1 0 0)], [(1, .arr 7 [[SE c.entries, SP (c.with a b same).same, SP (c.with a b same).apart, I c.omitted.lo, I c.omitted.hi, I c.number.lo, I c.number.hi]])], _, _, [], _⟩) (Imp.go (fun i => i) [(1, _)] rfl rfl (.cons _ (.cons _ (.cons_cons _ (.cons _ .slnil)))) (fun _ _ => rfl) (fun _ h => h) ?_ ?_ (fun _ => rfl)) ?_
    · repeat' (first | exact TmT.cons rfl (TnS.d _) ?_ | exact trivial | exact F2.nil | refine F2.append ?_ ?_ | refine F2.map fun _ _ => ?_ | refine F2.cons ?_ ?_ | refine TmT.cons rfl ?_ ?_ | exact TnS.d _ | exact TnS.dx _ | exact TnS.dp _ | exact TnS.slc rfl | exact TnS.ptr rfl | refine TnS.frzf rfl (by simp) (by simp) (by simp) ?_ | refine TnS.frz0 rfl (by simp) (by simp) (by simp) ?_ | refine TnS.frzm rfl (by simp) ?_ | exact TnS.mapr rfl | exact TnS.yld rfl | refine ⟨rfl, ?_⟩ | refine TnO.arr ?_ | refine TnO.map ?_ | exact TnO.raw _ | exact TnO.iter _ _ | refine TnS.agg ?_ | refine TnS.tup ?_ | exact TnS.pure (Pure.clo (by assumption) (by assumption)) | refine TnS.clo ?_ ?_ | exact TnS.unk _ | exact TnS.pure (Pure.clo (by assumption) (by assumption)))
    · simp only [Census.with, h13, if_true]
      refine .cons ⟨rfl, TnO.arr ?_⟩ .nil
      refine .cons (.cons (TnS.d _) (.cons ?_ (.cons ?_ zT))) .nil
      all_goals first |exact TnS.d _ |exact pfz rfl (by simp [pp, dP]) (by simp) (by simp)
    unfold Census.with
    simp only [h13, if_true]
    refine Tr.ret ?_
    (refine ⟨.inr rfl, ?_⟩; first | rfl | exact ⟨rfl, rfl, trivial⟩ | exact ⟨rfl, rfl, rfl, trivial⟩ | (simp only [Res, ResOK, sxu, ↓zD, Nat.reduceAdd, Nat.reduceLT, yX]; (repeat' (first | rfl | exact trivial | exact fun h => h | exact fun h => (by rw [h]; rfl) | apply And.intro | omega | exact Nat.le_of_ble_eq_true rfl))))
  · refine Tr.regD1 [3, 0, 1, 2, 4, 5, 6, 7] [2, 5, 7] [3] [4, 8] mix (by kernel_rfl) (by
        simp only [↓sxd, sxu, ↓zC, zK, ↓exq, ↓zD, ↓zA, Nat.reduceBEq, Nat.reduceAdd, Nat.reduceLT, Nat.reduceEqDiff, yX]
        (repeat ((with_reducible refine And.intro ?_ ?_); (focus (exact zS))))
        refine CallL.use (clone_h c.apart h2 _ _) (by simp only [stabOk]; (all_goals try exact zF)) ?_
        try simp only [↓sxd, sxu, ↓zC, zK, ↓exq, ↓zB, ↓zG, ↓zQ, ↓zA, Nat.reduceBEq, Nat.reduceAdd, Nat.reduceLT, Nat.reduceLeDiff, Nat.reduceEqDiff, yX, pp_len]
        (all_goals try exact zF)) ?_
    refine Tr.reg [8] (by
        simp only [↓sxd, sxu, ↓zE, ↓exq, ↓zD, Nat.reduceBEq, Nat.reduceAdd, Nat.reduceLT, Nat.reduceEqDiff, yX]
        (all_goals try exact zF)) ?_
    refine Tr.imp (st' := ⟨[(8, .ptr 1 0 0)], [(1, .arr 7 [[SE c.entries, SP (c.with a b same).same, SP (c.with a b same).apart, I c.omitted.lo, I c.omitted.hi, I c.number.lo, I c.number.hi]])], _, _, [], _⟩) (Imp.go (fun i => i) [(1, _)] rfl rfl (.cons _ (.cons _ (.cons_cons _ (.cons _ .slnil)))) (fun _ _ => rfl) (fun _ h => h) ?_ ?_ (fun _ => rfl)) ?_
    · repeat' (first | exact TmT.cons rfl (TnS.d _) ?_ | exact trivial | exact F2.nil | refine F2.append ?_ ?_ | refine F2.map fun _ _ => ?_ | refine F2.cons ?_ ?_ | refine TmT.cons rfl ?_ ?_ | exact TnS.d _ | exact TnS.dx _ | exact TnS.dp _ | exact TnS.slc rfl | exact TnS.ptr rfl | refine TnS.frzf rfl (by simp) (by simp) (by simp) ?_ | refine TnS.frz0 rfl (by simp) (by simp) (by simp) ?_ | refine TnS.frzm rfl (by simp) ?_ | exact TnS.mapr rfl | exact TnS.yld rfl | refine ⟨rfl, ?_⟩ | refine TnO.arr ?_ | refine TnO.map ?_ | exact TnO.raw _ | exact TnO.iter _ _ | refine TnS.agg ?_ | refine TnS.tup ?_ | exact TnS.pure (Pure.clo (by assumption) (by assumption)) | refine TnS.clo ?_ ?_ | exact TnS.unk _ | exact TnS.pure (Pure.clo (by assumption) (by assumption)))
    · simp only [Census.with, h13, if_false, Bool.false_eq_true]
      refine .cons ⟨rfl, TnO.arr ?_⟩ .nil
      refine .cons (.cons (TnS.d _) (.cons ?_ (.cons ?_ zT))) .nil
      all_goals first |exact TnS.d _ |exact pfz rfl (by simp [pp, dP]) (by simp) (by simp)
    unfold Census.with
    simp only [h13, if_false, Bool.false_eq_true]
    refine Tr.ret ?_
    (refine ⟨.inr rfl, ?_⟩; first | rfl | exact ⟨rfl, rfl, trivial⟩ | exact ⟨rfl, rfl, rfl, trivial⟩ | (simp only [Res, ResOK, sxu, ↓zD, Nat.reduceAdd, Nat.reduceLT, yX]; (repeat' (first | rfl | exact trivial | exact fun h => h | exact fun h => (by rw [h]; rfl) | apply And.intro | omega | exact Nat.le_of_ble_eq_true rfl))))
def Census.small (c : Census) : Prop := c.entries.length ≤ 1000 ∧ c.same.length ≤ 1000 ∧ c.apart.length ≤ 1000
def Census.personsS (c : Census) : Rng × Rng × Int :=
  if c.tried true = 0 then ((readW c).persons, c.omitted.cut (wr64 (c.number.lo - (readW c).persons.hi)) (wr64 (c.number.hi - (readW c).persons.lo)), 0) else (⟨0, 0⟩, ⟨0, 0⟩, c.tried true)
abbrev yY := And.intro ty.sz0 <| And.intro ty.agg0 <| And.intro ty.elem0 <| And.intro ty.sz3 <| And.intro ty.agg3 <| And.intro ty.elem3 <| And.intro ty.zero3 <| And.intro ty.und3 <| And.intro ty.sz4 <| And.intro ty.agg4 <| And.intro ty.elem4 <| And.intro ty.zero4 <| And.intro ty.und4 <| And.intro ty.sz30 <| And.intro ty.agg30 <| And.intro ty.fld30_0 <| And.intro ty.fld30_1 <| And.intro ty.elem30 <| And.intro ty.zero30 <| And.intro ty.pl30 <| And.intro ty.sz31 <| And.intro ty.agg31 <| And.intro ty.elem31 <| And.intro ty.zero31 <| And.intro ty.und31 <| And.intro ty.sz37 <| And.intro ty.agg37 <| And.intro ty.fld37_0 <| And.intro ty.fld37_1 <| And.intro ty.fld37_2 <| And.intro ty.fld37_3 <| And.intro ty.fld37_4 <| And.intro ty.elem37 <| And.intro ty.zero37 <| And.intro ty.pl37 <| And.intro ty.sz108 <| And.intro ty.agg108 <| And.intro ty.elem108 <| And.intro ty.zero108 <| And.intro ty.sz109 <| And.intro ty.agg109 <| ty.elem109
theorem Persons_c (c : Census) (hs : c.small) (hc : c.check = 0 → Readable c) : CallP Tryd.prog G0 21 [c.s] (.tup [c.personsS.1.s, c.personsS.2.1.s, I c.personsS.2.2]) := by
  refine CallP.body 35 [.cell 2 30, .cell 3 30, .tmp 4] Tryd.func21 (by kernel_rfl) rfl rfl rfl zP zP ?_
  refine Tr.reg [1, 2, 3] (by
      simp only [↓sxd, sxu, ↓zE, ↓exq, ↓zM, ↓zI, Nat.reduceBEq, Nat.reduceAdd, Nat.reduceLT, Nat.reduceEqDiff, yY]
      (all_goals try exact zF)) ?_
  refine Tr.reg [1, 2, 3, 4, 5] (by
      simp only [↓sxd, sxu, ↓zE, ↓exq, ↓zD, Nat.reduceBEq, Nat.reduceAdd, Nat.reduceLT, yY]
      (repeat ((with_reducible refine And.intro ?_ ?_); (focus (exact zS))))
      refine CallO.use (tried_c c (by have := hs.1; omega) (by have := hs.2.1; omega) (by have := hs.2.2; omega) hc true) ?_
      try simp only [↓sxd, sxu, ↓zE, ↓exq, ↓zN, Nat.reduceBEq, Nat.reduceAdd, Nat.reduceLT]
      (all_goals try exact zF)) ?_
  refine Tr.seq ?_
  refine Tr.reg [1, 2, 3, 4, 5, 13] (by
      simp only [↓sxd, sxu, ↓zE, ↓exq, Nat.reduceBEq, Nat.reduceLT]
      (all_goals try exact zF)) ?_
  refine Tr.cond rfl (fun h13 => ?_) (fun h13 => ?_)
  · have ht : c.personsS = (⟨0, 0⟩, ⟨0, 0⟩, c.tried true) := if_neg (by simpa using h13)
    rw [ht]
    refine Tr.reg [2, 3, 4] (by
        simp only [↓sxd, sxu, ↓zE, ↓exq, ↓zO, Nat.reduceBEq, Nat.reduceAdd, Nat.reduceLT, Nat.reduceEqDiff, yY]
        (all_goals try exact zF)) ?_
    refine Tr.ret ?_
    (refine ⟨.inr rfl, ?_⟩; first | rfl | exact ⟨rfl, rfl, trivial⟩ | exact ⟨rfl, rfl, rfl, trivial⟩ | (simp only [Res, ResL, ResOK, sxu, ↓zD, Nat.reduceBEq, Nat.reduceAdd, Nat.reduceLT, yY]; (repeat' (first | rfl | exact trivial | exact fun h => h | exact fun h => (by rw [h]; rfl) | apply And.intro | omega | exact Nat.le_of_ble_eq_true rfl))))
  · have h0 : c.tried true = 0 := by simpa using h13
    have hk : c.check = 0 := by
      unfold Census.tried at h0
      by_cases hk : c.check = 0
      · exact hk
      · rw [if_pos hk] at h0; exact absurd h0 hk
    have htw : c.triedW true = .dp (readW c).d := if_pos h0
    have ht : c.personsS = ((readW c).persons, c.omitted.cut (wr64 (c.number.lo - (readW c).persons.hi)) (wr64 (c.number.hi - (readW c).persons.lo)), 0) := if_pos h0
    rw [ht, htw]
    refine Tr.skip ?_
    refine Tr.reg [1, 2, 3, 6] (by
        simp only [↓sxd, sxu, ↓zE, ↓exq, Nat.reduceBEq, Nat.reduceLT]
        (repeat ((with_reducible refine And.intro ?_ ?_); (focus (exact zS))))
        refine CallO.use (persons_c _ (readW_ok (hc hk))) ?_
        try simp only [↓sxd, sxu, ↓zE, ↓exq, ↓zM, Nat.reduceBEq, Nat.reduceAdd, Nat.reduceLT, Nat.reduceEqDiff, yY]
        (all_goals try exact zF)) ?_
    refine Tr.regD [0, 1, 2, 3, 4, 5, 6, 7, 8, 9, 10, 11, 12, 13, 14, 15, 16, 17, 18] [16, 17] [] [2, 3, 4] mix (by kernel_rfl) (by
        simp only [↓sxd, sxu, ↓zC, zK, ↓exq, ↓zD, ↓zA, Nat.reduceBEq, Nat.reduceAdd, Nat.reduceLT, Nat.reduceLeDiff, Nat.reduceEqDiff, yY]
        (repeat ((with_reducible refine And.intro ?_ ?_); (focus (exact zS))))
        refine CallD.use (cut_c _ _ _) ?_
        try simp only [↓sxd, sxu, ↓zC, zK, ↓exq, Nat.reduceBEq, Nat.reduceAdd, Nat.reduceLT, Nat.reduceEqDiff, yY]
        (all_goals try exact zF)) ?_
    refine Tr.ret ?_
    (refine ⟨.inr rfl, ?_⟩; first | rfl | exact ⟨rfl, rfl, trivial⟩ | exact ⟨rfl, rfl, rfl, trivial⟩ | (simp only [Res, ResL, ResOK, sxu, ↓zD, Nat.reduceBEq, Nat.reduceAdd, Nat.reduceLT, yY]; (repeat' (first | rfl | exact trivial | exact fun h => h | exact fun h => (by rw [h]; rfl) | apply And.intro | omega | exact Nat.le_of_ble_eq_true rfl))))
theorem Census.pair_of {c : Census} {p : Pair} (h : c.pair p = true) (hn : c.entries.length ≤ 10) : 0 ≤ p.fst ∧ 0 ≤ p.snd ∧ p.fst.toNat < c.entries.length ∧ p.snd.toNat < c.entries.length := by
  simp only [Census.pair, within, Bool.and_eq_true, decide_eq_true_eq] at h
  omega
theorem Census.small_of {c : Census} (h : c.check = 0) : c.entries.length ≤ 10 ∧ c.same.length ≤ 6 ∧ c.apart.length ≤ 6 := by
  unfold Census.check at h
  split at h
  · cases h
  · rename_i g
    simp only [Bool.or_eq_true, decide_eq_true_eq, not_or, Int.not_lt] at g
    omega
theorem Census.parts_of {c : Census} (h : c.check = 0) : c.entries.all Entry.valid = true ∧ c.same.all c.pair = true ∧ c.apart.all c.pair = true ∧ c.omitted.valid 100 = true ∧ c.number.valid 200 = true := by
  unfold Census.check at h
  split at h
  · cases h
  · split at h
    · cases h
    · rename_i g
      simpa [and_assoc] using g
theorem Census.readable {c : Census} (h : c.check = 0) : Readable c := by
  have h1 := Census.small_of h
  have h2 := Census.parts_of h
  exact ⟨by omega, by omega, by omega, fun p hp => Census.pair_of (List.all_eq_true.1 h2.2.1 p hp) h1.1, fun p hp => by
    have := Census.pair_of (List.all_eq_true.1 h2.2.2.1 p hp) h1.1
    exact ⟨this.1, this.2.1⟩⟩
theorem Census.tried_ok {c : Census} {r : Bool} (h0 : c.tried r = 0) : c.check = 0 ∧ r = true := by
  unfold Census.tried at h0
  by_cases hk : c.check = 0
  · rw [if_neg (by simpa using hk)] at h0
    cases r
    · cases h0
    · exact ⟨hk, rfl⟩
  · rw [if_pos hk] at h0; exact absurd h0 hk
theorem Census.triedW_ok {c : Census} {r : Bool} (h0 : c.tried r = 0) : c.triedW r = .dp (readW c).d := if_pos h0
theorem tried'_c (c : Census) (hs : c.small) (right : Bool) : CallP Tryd.prog G0 62 [c.s, B right] (.tup [c.triedW right, I (c.tried right)]) :=
  tried_c c (by have := hs.1; omega) (by have := hs.2.1; omega) (by have := hs.2.2; omega) Census.readable right
end Go.Proofs.YtcnkbdfkjhlbiaaDoor
