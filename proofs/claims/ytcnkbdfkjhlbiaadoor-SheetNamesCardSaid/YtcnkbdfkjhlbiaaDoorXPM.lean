/- Lemmas, part XPM. Conditions: none. -/
import Derived.Test.YtcnkbdfkjhlbiaaDoorXPL
set_option linter.unusedVariables false
namespace Go.Proofs.YtcnkbdfkjhlbiaaDoor
open Go.Sy
set_option maxRecDepth 8000
structure Work where
  c : Census
  blocks : List Nat
  one : List Bool
  least : List Int
abbrev Work.tl (w : Work) : List D := w.one.map cB ++ w.least.map cI
abbrev Work.d (w : Work) : List D := .sl (dE w.c.entries) :: .sl (dP w.c.same) :: .sl (dP w.c.apart) :: cI w.c.omitted.lo :: cI w.c.omitted.hi :: cI w.c.number.lo :: cI w.c.number.hi :: .sl (dU w.blocks) :: w.tl
theorem tl_least {a : List Bool} {b : List Int} (h1 : a.length = 1024) : List.drop 1024 (a.map cB ++ b.map cI) = b.map cI := by
  rw [List.drop_append_of_le_length (by simp; omega)]; simp [h1]
theorem le_get {b : List Int} {k : Nat} (h2 : k < b.length) : (List.drop k (b.map cI)).getD 0 default = cI (b.getD k 0) := by
  rw [List.getD_eq_getElem?_getD, List.getElem?_drop]
  simp [List.getD_eq_getElem?_getD, h2]
theorem le_get0 {b : List Int} {k : Nat} (h2 : k < b.length) : 0 < (List.drop k (b.map cI)).length := by simp; omega
theorem nats_len (l : List Nat) : (nats l).length = l.length := List.length_map ..
theorem nats_get {l : List Nat} {i : Nat} : (nats l).getD i 0 = ((l.getD i 0 : Nat) : Int) := by
  unfold nats
  by_cases h : i < l.length
  · simp [List.getD_eq_getElem?_getD, h]
  · simp [List.getD_eq_getElem?_getD, Nat.le_of_not_lt h]
theorem nats_take (l : List Nat) (n : Nat) : (nats l).take n = nats (l.take n) := (List.map_take ..).symm
abbrev vA := And.intro ty.sz3 <| And.intro ty.agg3 <| And.intro ty.elem3 <| And.intro ty.zero3 <| And.intro ty.und3 <| And.intro ty.sz4 <| And.intro ty.agg4 <| And.intro ty.elem4 <| And.intro ty.zero4 <| And.intro ty.und4 <| And.intro ty.sz114 <| And.intro ty.agg114 <| And.intro ty.elem114 <| And.intro ty.zero114 <| ty.und114
theorem block1_c (x n : Nat) (h : x < 18446744073709551616) : CallP Tryd.prog G0 116 [U x, .fp [I n]] (B (x.testBit n)) := by
  refine CallP.body 7 [.tmp 3] Tryd.func116 (by kernel_rfl) rfl rfl rfl zP zP ?_
  refine Tr.reg [0, 1] (by
      simp only [↓sxd, sxu, ↓zE, ↓exq, Nat.reduceBEq, Nat.reduceAdd, Nat.reduceLT]
      (all_goals try exact zF)) ?_
  refine Tr.reg [3] (by
      simp only [↓sxd, sxu, ↓zE, ↓exq, ↓zD, Nat.reduceBEq, Nat.reduceLT, vA]
      (repeat ((with_reducible refine And.intro ?_ ?_); (focus (exact zS))))
      refine CallO.use (has_c x n h) ?_
      try simp only [↓sxd, sxu, ↓zE, ↓exq, Nat.reduceLT]
      (all_goals try exact zF)) ?_
  refine Tr.ret ?_
  (refine ⟨.inr rfl, ?_⟩; first | rfl | exact ⟨rfl, rfl, trivial⟩ | exact ⟨rfl, rfl, rfl, trivial⟩ | (simp only [Res, ResL, ResOK, ↓sxd, sxu, ↓zE, ↓zC, zK, ↓exP, ↓exq, ↓zB, ↓zL, ↓zD, Nat.reduceBEq, Nat.reduceAdd, Nat.reduceLT, Nat.reduceMul, Nat.reduceSub, Nat.reduceLeDiff, Nat.reduceEqDiff, Int.reduceLE, Int.reduceLT, Int.reduceToNat, reduceIte, sxe, vA]; (repeat' (first | rfl | exact trivial | exact fun h => h | exact fun h => (by rw [h]; rfl) | apply And.intro | omega | exact Nat.le_of_ble_eq_true rfl))))
abbrev vX := And.intro ty.sz0 <| And.intro ty.agg0 <| And.intro ty.elem0 <| And.intro ty.sz3 <| And.intro ty.agg3 <| And.intro ty.elem3 <| And.intro ty.zero3 <| And.intro ty.und3 <| And.intro ty.sz108 <| And.intro ty.agg108 <| And.intro ty.elem108 <| And.intro ty.zero108 <| And.intro ty.sz142 <| And.intro ty.agg142 <| And.intro ty.elem142 <| And.intro ty.by142 <| And.intro ty.ez142 <| And.intro ty.zero142 <| And.intro ty.und142 <| And.intro ty.sz146 <| And.intro ty.agg146 <| And.intro ty.fld146_0 <| And.intro ty.fld146_1 <| And.intro ty.fld146_2 <| And.intro ty.fld146_3 <| And.intro ty.elem146 <| And.intro ty.zero146 <| And.intro ty.pl146 <| And.intro ty.sz147 <| And.intro ty.agg147 <| And.intro ty.elem147 <| ty.zero147
theorem block_c (w : Work) (n : Nat) (hb : ∀ x ∈ w.blocks, x < 18446744073709551616) (hl : w.blocks.length < 4611686018427387904) : CallP Tryd.prog G0 93 [.dp w.d, I n] (I (idxOf (fun (x : Nat) => x.testBit n) w.blocks)) := by
  refine CallP.body 11 [.tmp 4] Tryd.func93 (by kernel_rfl) rfl rfl rfl zP zP ?_
  refine Tr.reg [0, 3] (by
      simp only [↓sxd, sxu, ↓zE, ↓exq, ↓zI, Nat.reduceBEq, Nat.reduceAdd, Nat.reduceLT, Nat.reduceEqDiff]
      (all_goals try exact zF)) ?_
  refine Tr.reg [4] (by
      simp only [↓sxd, sxu, ↓zE, ↓exq, ↓zD, ↓zV, ↓zA, Nat.reduceBEq, Nat.reduceLT, Nat.reduceEqDiff, vX]
      (repeat ((with_reducible refine And.intro ?_ ?_); (focus (exact zS))))
      refine CallO.useZ [] (indexU_c (fun x => x.testBit n) w.blocks hl 116 [] [.fp [I n]] zP zP (fun x hx => block1_c x n (hb x hx))) (List.nil_sublist _) zT ?_
      try simp only [↓sxd, sxu, ↓zE, ↓exq, Nat.reduceLT]
      (all_goals try exact zF)) ?_
  refine Tr.ret ?_
  (refine ⟨.inr rfl, ?_⟩; first | rfl | exact ⟨rfl, rfl, trivial⟩ | exact ⟨rfl, rfl, rfl, trivial⟩ | (simp only [Res, ResL, ResOK, ↓sxd, sxu, ↓zE, ↓zC, zK, ↓exP, ↓exq, ↓zB, ↓zL, ↓zD, ↓zV, ↓zI, ↓zA, Nat.reduceBEq, Nat.reduceAdd, Nat.reduceLT, Nat.reduceMul, Nat.reduceSub, Nat.reduceLeDiff, Nat.reduceEqDiff, Int.reduceLE, Int.reduceLT, Int.reduceToNat, reduceIte, sxe, vX]; (repeat' (first | rfl | exact trivial | exact fun h => h | exact fun h => (by rw [h]; rfl) | apply And.intro | omega | exact Nat.le_of_ble_eq_true rfl))))
abbrev uE := And.intro ty.sz0 <| And.intro ty.agg0 <| And.intro ty.elem0 <| And.intro ty.sz3 <| And.intro ty.agg3 <| And.intro ty.elem3 <| And.intro ty.zero3 <| And.intro ty.und3 <| And.intro ty.sz108 <| And.intro ty.agg108 <| And.intro ty.elem108 <| And.intro ty.zero108 <| And.intro ty.sz114 <| And.intro ty.agg114 <| And.intro ty.elem114 <| And.intro ty.zero114 <| And.intro ty.und114 <| And.intro ty.sz142 <| And.intro ty.agg142 <| And.intro ty.elem142 <| And.intro ty.by142 <| And.intro ty.ez142 <| And.intro ty.zero142 <| And.intro ty.und142 <| And.intro ty.sz146 <| And.intro ty.agg146 <| And.intro ty.fld146_0 <| And.intro ty.fld146_1 <| And.intro ty.fld146_2 <| And.intro ty.fld146_3 <| And.intro ty.elem146 <| And.intro ty.zero146 <| ty.pl146
theorem whole_c (w : Work) (hl : w.blocks.length ≤ 20) : CallP Tryd.prog G0 94 [.dp w.d] (U ((2 ^ w.blocks.length - 1 : Nat))) := by
  have e1 : IntKind.u64.wrap (((2 ^ w.blocks.length : Nat) : Int) - 1) = ((2 ^ w.blocks.length - 1 : Nat) : Int) := by
    have h1 : 1 ≤ 2 ^ w.blocks.length := Nat.one_le_two_pow
    have h2 : 2 ^ w.blocks.length ≤ 2 ^ 20 := Nat.pow_le_pow_right (by omega) hl
    rw [wu (by omega) (by omega)]; omega
  refine CallP.body 10 [.tmp 2] Tryd.func94 (by kernel_rfl) rfl rfl rfl zP zP ?_
  refine Tr.reg [0] (by
      simp only [↓sxd, sxu, ↓zE, ↓exq, Nat.reduceBEq, Nat.reduceLT]
      (all_goals try exact zF)) ?_
  refine Tr.reg [2] (by
      simp only [↓sxd, sxu, ↓zE, ↓exq, ↓zB, ↓zJ, ↓zD, ↓zV, ↓zA, Nat.reduceLT, Nat.reduceEqDiff, sxe, uE, shl_u (show w.blocks.length < 64 by omega), e1]
      (all_goals try exact zF)) ?_
  refine Tr.ret ?_
  (refine ⟨.inr rfl, ?_⟩; first | rfl | exact ⟨rfl, rfl, trivial⟩ | exact ⟨rfl, rfl, rfl, trivial⟩ | (simp only [Res, ResL, ResOK, ↓sxd, sxu, ↓zE, ↓zC, zK, ↓exP, ↓exq, ↓zB, ↓zL, ↓zJ, ↓zD, ↓zV, ↓zA, Nat.reduceBEq, Nat.reduceAdd, Nat.reduceLT, Nat.reduceMul, Nat.reduceSub, Nat.reduceLeDiff, Nat.reduceEqDiff, Int.reduceLE, Int.reduceLT, Int.reduceToNat, reduceIte, sxe, uE]; (repeat' (first | rfl | exact trivial | exact fun h => h | exact fun h => (by rw [h]; rfl) | apply And.intro | omega | exact Nat.le_of_ble_eq_true rfl))))
abbrev xF := And.intro ty.sz0 <| And.intro ty.agg0 <| And.intro ty.elem0 <| And.intro ty.sz3 <| And.intro ty.agg3 <| And.intro ty.elem3 <| And.intro ty.zero3 <| And.intro ty.und3 <| And.intro ty.sz4 <| And.intro ty.agg4 <| And.intro ty.elem4 <| And.intro ty.zero4 <| And.intro ty.und4 <| And.intro ty.sz104 <| And.intro ty.agg104 <| And.intro ty.fld104_0 <| And.intro ty.fld104_1 <| And.intro ty.elem104 <| And.intro ty.zero104 <| And.intro ty.pl104 <| And.intro ty.sz114 <| And.intro ty.agg114 <| And.intro ty.elem114 <| And.intro ty.zero114 <| ty.und114
theorem fits1_c (p : Pair) (s : Nat) (hs : s < 18446744073709551616) (h1 : 0 ≤ p.fst) (h2 : 0 ≤ p.snd) : CallP Tryd.prog G0 113 [p.s, .fp [U s]] (B (!s.testBit p.fst.toNat || !s.testBit p.snd.toNat)) := by
  obtain ⟨a, b⟩ := p
  obtain ⟨a, rfl⟩ := Int.eq_ofNat_of_zero_le h1
  obtain ⟨b, rfl⟩ := Int.eq_ofNat_of_zero_le h2
  refine CallP.body 16 [.tmp 3] Tryd.func113 (by kernel_rfl) rfl rfl rfl zP zP ?_
  refine Tr.reg [1, 2] (by
      simp only [↓sxd, sxu, ↓zE, ↓exq, ↓zI, Nat.reduceBEq, Nat.reduceAdd, Nat.reduceLT, Nat.reduceEqDiff]
      (all_goals try exact zF)) ?_
  refine Tr.reg [3] (by
      simp only [↓sxd, sxu, ↓zE, ↓exq, ↓zD, ↓zA, Nat.reduceBEq, Nat.reduceAdd, Nat.reduceLT, Nat.reduceEqDiff, xF]
      (repeat ((with_reducible refine And.intro ?_ ?_); (focus (exact zS))))
      refine CallO.use (has_c s a hs) ?_
      try simp only [↓sxd, sxu, ↓zE, ↓exq, ↓zL, Nat.reduceLT]
      (repeat ((with_reducible refine And.intro ?_ ?_); (focus (exact zS))))
      refine GdO.mk _ (fun hg => by simp only [sxu, ↓exq, ↓zD, Nat.reduceBEq, Nat.reduceLT, xF]; (all_goals try exact zF)) ?_
      simp only [↓sxd, sxu, ↓zE, Nat.reduceBEq, Nat.reduceLT]
      (repeat ((with_reducible refine And.intro ?_ ?_); (focus (exact zS))))
      refine GdO.mk _ (fun hg => by simp only [sxu, ↓exq, ↓zA, Nat.reduceBEq, Nat.reduceEqDiff, xF, hg]; (all_goals try exact zF)) ?_
      simp only [↓sxd, sxu, ↓zE, Nat.reduceBEq, Nat.reduceLT]
      (repeat ((with_reducible refine And.intro ?_ ?_); (focus (exact zS))))
      refine GdO.mk _ (fun hg => by simp only [sxu, ↓exq, ↓zD, Nat.reduceAdd, Nat.reduceLT, xF, hg]; (all_goals try exact zF)) ?_
      simp only [↓sxd, sxu, ↓zE, Nat.reduceBEq, Nat.reduceLT]
      (repeat ((with_reducible refine And.intro ?_ ?_); (focus (exact zS))))
      refine GdO.mk _ (fun hg => by simp only [sxu, ↓exq, ↓zB, Nat.reduceBEq, hg]; (repeat ((with_reducible refine And.intro ?_ ?_); (focus (exact zS)))); exact CallP.use (has_c s b hs) ⟨rfl, rfl, rfl⟩) ?_
      simp only [↓sxd, sxu, ↓zE, Nat.reduceBEq, Nat.reduceLT]
      (repeat ((with_reducible refine And.intro ?_ ?_); (focus (exact zS))))
      refine GdO.mk _ (fun hg => by simp only [sxu, ↓exq, ↓zL, hg]; (all_goals try exact zF)) ?_
      simp only [↓sxd, sxu, ↓zE, ↓exq, ↓zH, Nat.reduceBEq, Nat.reduceLT]
      (all_goals try exact zF)) ?_
  refine Tr.ret ?_
  (refine ⟨.inr rfl, ?_⟩; first | rfl | exact ⟨rfl, rfl, trivial⟩ | exact ⟨rfl, rfl, rfl, trivial⟩ | (simp only [Res, ResL, ResOK, ↓sxd, sxu, ↓zE, ↓zC, zK, ↓exP, ↓exq, ↓zB, ↓zH, ↓zL, ↓zD, ↓zI, ↓zA, Nat.reduceBEq, Nat.reduceAdd, Nat.reduceLT, Nat.reduceMul, Nat.reduceSub, Nat.reduceLeDiff, Nat.reduceEqDiff, Int.reduceLE, Int.reduceLT, Int.reduceToNat, reduceIte, sxe, xF]; (repeat' (first | rfl | exact trivial | exact fun h => h | exact fun h => (by rw [h]; rfl) | apply And.intro | omega | exact Nat.le_of_ble_eq_true rfl))))
def Census.entry (c : Census) (n : Nat) : Entry := c.entries.getD n default
def Census.fitsAll (c : Census) (l : List Nat) : Bool := (List.range l.length).all fun i => (l.take i).all fun b => (c.entry (l.getD i 0)).fits (c.entry b)
def Census.fitsSet (c : Census) (s : Nat) : Bool := c.fitsAll (elems s) && c.apart.all fun p => !s.testBit p.fst.toNat || !s.testBit p.snd.toNat
theorem all_upto {p : Nat → Bool} {n i : Nat} (h : i < n) (hp : p i = false) : (List.range n).all p = false := by
  rw [Bool.eq_false_iff]
  intro hc
  have := List.all_eq_true.1 hc i (List.mem_range.2 h)
  rw [hp] at this; cases this
abbrev xK := And.intro ty.sz0 <| And.intro ty.agg0 <| And.intro ty.elem0 <| And.intro ty.sz3 <| And.intro ty.agg3 <| And.intro ty.elem3 <| And.intro ty.zero3 <| And.intro ty.und3 <| And.intro ty.sz4 <| And.intro ty.agg4 <| And.intro ty.elem4 <| And.intro ty.zero4 <| And.intro ty.und4 <| And.intro ty.sz34 <| And.intro ty.agg34 <| And.intro ty.elem34 <| And.intro ty.by34 <| And.intro ty.ez34 <| And.intro ty.zero34 <| And.intro ty.und34 <| And.intro ty.sz35 <| And.intro ty.agg35 <| And.intro ty.elem35 <| And.intro ty.by35 <| And.intro ty.ez35 <| And.intro ty.zero35 <| And.intro ty.und35 <| And.intro ty.sz37 <| And.intro ty.agg37 <| And.intro ty.fld37_0 <| And.intro ty.fld37_1 <| And.intro ty.fld37_2 <| And.intro ty.fld37_3 <| And.intro ty.fld37_4 <| And.intro ty.elem37 <| And.intro ty.zero37 <| And.intro ty.pl37 <| And.intro ty.sz43 <| And.intro ty.agg43 <| And.intro ty.elem43 <| And.intro ty.by43 <| And.intro ty.ez43 <| And.intro ty.zero43 <| And.intro ty.und43 <| And.intro ty.sz106 <| And.intro ty.agg106 <| And.intro ty.fld106_0 <| And.intro ty.fld106_1 <| And.intro ty.fld106_2 <| And.intro ty.fld106_3 <| And.intro ty.elem106 <| And.intro ty.zero106 <| And.intro ty.pl106 <| And.intro ty.sz108 <| And.intro ty.agg108 <| And.intro ty.elem108 <| And.intro ty.zero108 <| And.intro ty.sz114 <| And.intro ty.agg114 <| And.intro ty.elem114 <| And.intro ty.zero114 <| And.intro ty.und114 <| And.intro ty.sz138 <| And.intro ty.agg138 <| And.intro ty.elem138 <| And.intro ty.zero138 <| And.intro ty.sz146 <| And.intro ty.agg146 <| And.intro ty.fld146_0 <| And.intro ty.fld146_1 <| And.intro ty.fld146_2 <| And.intro ty.fld146_3 <| And.intro ty.elem146 <| And.intro ty.zero146 <| ty.pl146
theorem fits_c (w : Work) (s : Nat) (hs : s < 4096) (hin : ∀ e ∈ elems s, e < w.c.entries.length) (hap : ∀ p ∈ w.c.apart, 0 ≤ p.fst ∧ 0 ≤ p.snd) (hal : w.c.apart.length < 4611686018427387904) : CallP Tryd.prog G0 88 [.dp w.d, U s] (B (w.c.fitsSet s)) := by
  have hel := elems_len s
  refine CallP.body 54 [.tmp 4] Tryd.func88 (by kernel_rfl) rfl rfl rfl zP zP ?_
  refine Tr.reg [0, 3] (by
      simp only [↓sxd, sxu, ↓zE, ↓exq, ↓zI, Nat.reduceBEq, Nat.reduceAdd, Nat.reduceLT, Nat.reduceEqDiff]
      (all_goals try exact zF)) ?_
  refine Tr.reg [0, 3, 5] (by
      simp only [↓sxd, sxu, ↓zE, ↓exq, ↓zD, Nat.reduceBEq, Nat.reduceLT, xK]
      (repeat ((with_reducible refine And.intro ?_ ?_); (focus (exact zS))))
      refine CallO.use (list_c s hs) ?_
      try simp only [↓sxd, sxu, ↓zE, ↓exq, Nat.reduceBEq, Nat.reduceLT]
      (all_goals try exact zF)) ?_
  refine Tr.seq ?_
  refine Tr.reg [0, 3, 5, 12, 13, 14] (by
      simp only [↓sxd, sxu, ↓zE, ↓exq, ↓zB, ↓zJ, Nat.reduceBEq, Nat.reduceLT, sxe, xK, nats_len]
      (all_goals try exact zF)) ?_
  refine Tr.imp (st' := ⟨[(0, .dp w.d), (3, .ptr 0 0 0), (5, SI (nats (elems s))), (12, SI (nats (elems s))), (13, I (elems s).length), (14, I 0)], [(0, .arr 1 [[U s]])], 1, 54, [], 0⟩) (Imp.keepAll) (Tr.block (Tr.loopI (fun mm ss => ∃ (i : Nat), (i ≤ (elems s).length ∧ ∀ j, j < i → ((elems s).take j).all (fun b => (w.c.entry ((elems s).getD j 0)).fits (w.c.entry b)) = true) ∧ (elems s).length - i = mm ∧ ss = ⟨[(0, .dp w.d), (3, .ptr 0 0 0), (5, SI (nats (elems s))), (12, SI (nats (elems s))), (13, I (elems s).length), (14, I i)], [(0, .arr 1 [[U s]])], 1, 54, [], 0⟩) _ ⟨0, ?_, rfl, rfl⟩ ?_))
  · exact ⟨Nat.zero_le _, fun j hj => absurd hj (by omega)⟩
  rintro mm ss ⟨i, hI, rfl, rfl⟩
  obtain ⟨hi, hb⟩ := hI
  refine Tr.reg [0, 3, 5, 12, 13, 14, 15] (by
      simp only [↓sxd, sxu, ↓zE, ↓exq, Nat.reduceBEq, Nat.reduceLT, sxe]
      (all_goals try exact zF)) ?_
  refine Tr.seq ?_
  refine Tr.cond rfl (fun h15 => ?_) (fun h15 => ?_)
  · have hlt : i < (elems s).length := by simpa using h15
    have ha : (elems s).getD i 0 < w.c.entries.length := hin _ (getD_mem hlt)
    refine Tr.skip ?_
    refine Tr.seq ?_
    refine Tr.block ?_
    refine Tr.reg [0, 3, 5, 6, 7, 12, 13, 14] (by
        simp only [↓sxd, sxu, ↓zE, ↓exq, ↓zD, Nat.reduceBEq, Nat.reduceLT, sxe, xK, nats_len, nats_get, hlt]
        (all_goals try exact zF)) ?_
    refine Tr.reg [0, 3, 5, 7, 12, 13, 14, 21, 22, 23] (by
        simp only [↓sxd, sxu, ↓zE, ↓exq, ↓zB, ↓zJ, ↓yC, sbnd, Nat.reduceBEq, Nat.reduceLT, Int.reduceLE, sxe, xK, nats_len, nats_take, hi]
        (all_goals try exact zF)) ?_
    refine Tr.imp (st' := ⟨[(0, .dp w.d), (3, .ptr 0 0 0), (5, SI (nats (elems s))), (7, I ((elems s).getD i 0 : Nat)), (12, SI (nats (elems s))), (13, I (elems s).length), (14, I i), (21, SI (nats ((elems s).take i))), (22, I ((elems s).take i).length), (23, I 0)], [(0, .arr 1 [[U s]])], 1, 54, [], 0⟩) (Imp.keepAll) (Tr.block (Tr.loopI (fun mm ss => ∃ (k : Nat), (k ≤ i ∧ ∀ j, j < k → (w.c.entry ((elems s).getD i 0)).fits (w.c.entry ((elems s).getD j 0)) = true) ∧ i - k = mm ∧ ss = ⟨[(0, .dp w.d), (3, .ptr 0 0 0), (5, SI (nats (elems s))), (7, I ((elems s).getD i 0 : Nat)), (12, SI (nats (elems s))), (13, I (elems s).length), (14, I i), (21, SI (nats ((elems s).take i))), (22, I ((elems s).take i).length), (23, I k)], [(0, .arr 1 [[U s]])], 1, 54, [], 0⟩) _ ⟨0, ?_, rfl, rfl⟩ ?_))
    · exact ⟨Nat.zero_le _, fun j hj => absurd hj (by omega)⟩
    rintro mm ss ⟨k, hI, rfl, rfl⟩
    obtain ⟨hk, hc⟩ := hI
    refine Tr.reg [0, 3, 5, 7, 12, 13, 14, 21, 22, 23, 24] (by
        simp only [↓sxd, sxu, ↓zE, ↓exq, Nat.reduceBEq, Nat.reduceLT, sxe]
        (all_goals try exact zF)) ?_
    refine Tr.seq ?_
    refine Tr.cond rfl (fun h24 => ?_) (fun h24 => ?_)
    · have hlk : k < i := by simp at h24; omega
      have hlk2 : k < ((elems s).take i).length := by simp; omega
      have htk : ((elems s).take i).getD k 0 = (elems s).getD k 0 := by simp [List.getD_eq_getElem?_getD, hlk]
      have hbk : (elems s).getD k 0 < w.c.entries.length := hin _ (getD_mem (by omega))
      refine Tr.skip ?_
      refine Tr.seq ?_
      refine Tr.block ?_
      refine Tr.reg [0, 3, 5, 7, 9, 12, 13, 14, 21, 22, 23] (by
          simp only [↓sxd, sxu, ↓zE, ↓exq, ↓zD, Nat.reduceBEq, Nat.reduceLT, sxe, xK, nats_len, nats_get, hlk2, htk]
          (all_goals try exact zF)) ?_
      refine Tr.regD [0, 1, 2, 3, 4, 5, 6, 7, 8, 9, 10, 11, 12, 13, 14, 15, 16, 17] [] [] [0, 3, 5, 7, 12, 13, 14, 21, 22, 23, 44] mix (by kernel_rfl) (by
          simp only [↓sxd, sxu, ↓zC, zK, ↓exq, ↓zD, ↓zV, ↓zA, Nat.reduceBEq, Nat.reduceAdd, Nat.reduceLT, Nat.reduceEqDiff, sxe, xK, ha, hbk]
          (repeat ((with_reducible refine And.intro ?_ ?_); (focus (exact zS))))
          refine CallD.use (Efits_c (w.c.entry ((elems s).getD i 0)) (w.c.entry ((elems s).getD k 0))) ?_
          try simp only [↓sxd, sxu, ↓zC, ↓exq, ↓zL, Nat.reduceBEq, Nat.reduceLT]
          (all_goals try exact zF)) ?_
      refine Tr.cond rfl (fun h44 => ?_) (fun h44 => ?_)
      · refine Tr.reg [4] (by
            simp only [↓sxd, sxu, ↓zE, ↓exq, Nat.reduceLT]
            (all_goals try exact zF)) ?_
        refine Tr.ret ?_
        exact ⟨.inr rfl, congrArg (fun n => some (B n)) (by
        have h44' : (w.c.entry ((elems s).getD i 0)).fits (w.c.entry ((elems s).getD k 0)) = false := by simpa using h44
        have : ((elems s).take i).all (fun b => (w.c.entry ((elems s).getD i 0)).fits (w.c.entry b)) = false := by
          rw [Bool.eq_false_iff]
          intro hcc
          have := List.all_eq_true.1 hcc ((elems s).getD k 0) (by rw [← htk]; exact getD_mem hlk2)
          rw [h44'] at this; cases this
        unfold Census.fitsSet Census.fitsAll
        rw [all_upto hlt this]; rfl)⟩
      · refine Tr.skip ?_
        have w1 : IntKind.i64.wrap ((k : Int) + 1) = ((k + 1 : Nat) : Int) := by rw [wr (by omega) (by omega)]; rfl
        refine Tr.reg1 [0, 3, 5, 7, 12, 13, 14, 21, 22, 23] (by
            simp only [↓sxd, sxu, ↓zE, ↓exq, Nat.reduceBEq, Nat.reduceLT, w1]
            (all_goals try exact zF)) ?_
        have h44' : (w.c.entry ((elems s).getD i 0)).fits (w.c.entry ((elems s).getD k 0)) = true := by simpa using h44
        refine ⟨_, _, ?_, Imp.keepAll, ⟨k + 1, ⟨hlk, fun j hj => ?_⟩, rfl, rfl⟩⟩
        · omega
        · by_cases hj2 : j < k
          · exact hc j hj2
          · have : j = k := by omega
            subst this; exact h44'
    · have hge2 : k = i := by simp at h24; omega
      refine Tr.exit ?_
      have w1 : IntKind.i64.wrap ((i : Int) + 1) = ((i + 1 : Nat) : Int) := by rw [wr (by omega) (by omega)]; rfl
      refine Tr.reg1 [0, 3, 5, 12, 13, 14] (by
          simp only [↓sxd, sxu, ↓zE, ↓exq, Nat.reduceBEq, Nat.reduceLT, w1]
          (all_goals try exact zF)) ?_
      refine ⟨_, _, ?_, Imp.keepAll, ⟨i + 1, ⟨hlt, fun j hj => ?_⟩, rfl, rfl⟩⟩
      · omega
      · by_cases hj2 : j < i
        · exact hb j hj2
        · have : j = i := by omega
          subst this
          rw [List.all_eq_true]
          intro b hbm
          obtain ⟨q, hq, rfl⟩ := List.getElem_of_mem hbm
          simp only [List.length_take] at hq
          have := hc q (by omega)
          simpa [List.getD_eq_getElem?_getD, show q < (elems s).length by omega] using this
  · have hge : i = (elems s).length := by simp at h15; omega
    refine Tr.exit ?_
    refine Tr.reg [4] (by
        simp only [↓sxd, sxu, ↓zE, ↓exq, ↓zD, ↓zV, ↓zA, Nat.reduceBEq, Nat.reduceLT, Nat.reduceEqDiff, xK]
        (repeat ((with_reducible refine And.intro ?_ ?_); (focus (exact zS))))
        refine CallO.useZ [] (allP_c (fun p => !s.testBit p.fst.toNat || !s.testBit p.snd.toNat) w.c.apart hal 113 [] [.fp [U s]] zP zP (fun p hp => fits1_c p s (by omega) (hap p hp).1 (hap p hp).2)) (List.nil_sublist _) zT ?_
        try simp only [↓sxd, sxu, ↓zE, ↓exq, Nat.reduceLT]
        (all_goals try exact zF)) ?_
    refine Tr.ret ?_
    exact ⟨.inr rfl, congrArg (fun n => some (B n)) (by
    have : w.c.fitsAll (elems s) = true := by
      unfold Census.fitsAll
      rw [List.all_eq_true]
      intro j hj
      exact hb j (by rw [hge]; exact List.mem_range.1 hj)
    unfold Census.fitsSet
    rw [this]; rfl)⟩
end Go.Proofs.YtcnkbdfkjhlbiaaDoor
namespace Go.Proofs.YtcnkbdfkjhlbiaaDoor
open Go.Sy
set_option maxRecDepth 8000
abbrev rU (l : List Nat) : List (List SV) := l.map fun (n : Nat) => [U n]
theorem lookup_upd {hp : HpT} {id : Nat} {o o' : Sy.Obj} : hp.lookup id = some o → (upd hp id o').lookup id = some o' := by
  induction hp with
  | nil => intro h; simp at h
  | cons p l ih =>
    obtain ⟨k, x⟩ := p
    intro h
    unfold upd
    by_cases hk : k = id
    · subst hk; rw [if_pos rfl]; simp
    · rw [if_neg hk]
      have hb : (id == k) = false := by simpa using Ne.symm hk
      simp only [List.lookup_cons, hb] at h ⊢
      exact ih h
theorem upd_upd (hp : HpT) (id : Nat) (o o' : Sy.Obj) : upd (upd hp id o) id o' = upd hp id o' := by
  induction hp with
  | nil => rfl
  | cons p l ih =>
    obtain ⟨k, x⟩ := p
    by_cases hk : k = id
    · subst hk; simp [upd]
    · simp [upd, hk, ih]
theorem rU_all (l : List Nat) : (∀ e ∈ rU l, e.length = 1 ∧ e.all SV.one = true) = True := by simp [rU, SV.one]
theorem rU_take (l : List Nat) (n : Nat) : (rU l).take n = rU (l.take n) := (List.map_take ..).symm
theorem rU_drop (l : List Nat) (n : Nat) : (rU l).drop n = rU (l.drop n) := (List.map_drop ..).symm
theorem rU_app (a b : List Nat) : rU a ++ rU b = rU (a ++ b) := (List.map_append ..).symm
theorem rU_rep (n : Nat) : List.replicate n [U 0] = rU (List.replicate n 0) := by simp [rU]
theorem del_last {bs junk : List Nat} {i : Nat} (hlast : i + 1 = bs.length) : (bs ++ junk).take i ++ List.replicate (bs.length - i) 0 ++ (bs ++ junk).drop (i + (bs.length - i)) = bs.eraseIdx i ++ 0 :: junk := by
  rw [show bs.length - i = 1 by omega, hlast, List.take_append_of_le_length (by omega), List.drop_left', List.eraseIdx_eq_take_drop_succ, hlast, List.drop_length]
  · simp
  · rfl
theorem del_mid {bs junk : List Nat} {i : Nat} (hlast : i + 1 < bs.length) :
    let X := (bs ++ junk).take i ++ ((bs ++ junk).drop (i + 1)).take (bs.length - (i + 1)) ++ (bs ++ junk).drop (bs.length - 1)
    X.take (bs.length - 1) ++ List.replicate (bs.length - (bs.length - 1)) 0 ++ X.drop (bs.length - 1 + (bs.length - (bs.length - 1))) = bs.eraseIdx i ++ 0 :: junk := by
  intro X
  have e1 : (bs ++ junk).take i ++ ((bs ++ junk).drop (i + 1)).take (bs.length - (i + 1)) = bs.eraseIdx i := by
    have a1 : (bs ++ junk).take i = bs.take i := List.take_append_of_le_length (by omega)
    have a2 : ((bs ++ junk).drop (i + 1)).take (bs.length - (i + 1)) = bs.drop (i + 1) := by
      rw [List.drop_append_of_le_length (by omega), List.take_append_of_le_length (by rw [List.length_drop]; exact Nat.le_refl _), List.take_of_length_le (by rw [List.length_drop]; exact Nat.le_refl _)]
    rw [a1, a2, List.eraseIdx_eq_take_drop_succ]
  have hX : X = bs.eraseIdx i ++ (bs ++ junk).drop (bs.length - 1) := by rw [← e1]
  have hl : (bs.eraseIdx i).length = bs.length - 1 := List.length_eraseIdx_of_lt (by omega)
  rw [hX, List.take_append_of_le_length (by omega), List.take_of_length_le (by omega), show bs.length - (bs.length - 1) = 1 by omega, show bs.length - 1 + 1 = bs.length by omega]
  have e2 : (bs.eraseIdx i ++ (bs ++ junk).drop (bs.length - 1)).drop bs.length = junk := by
    rw [List.drop_append, List.drop_of_length_le (by omega), hl, List.drop_drop, show bs.length - 1 + (bs.length - (bs.length - 1)) = bs.length by omega, List.drop_left']
    · rfl
    · rfl
  rw [e2]; simp
abbrev xG := And.intro ty.sz0 <| And.intro ty.agg0 <| And.intro ty.elem0 <| And.intro ty.sz3 <| And.intro ty.agg3 <| And.intro ty.elem3 <| And.intro ty.zero3 <| And.intro ty.und3 <| And.intro ty.sz4 <| And.intro ty.agg4 <| And.intro ty.elem4 <| And.intro ty.zero4 <| And.intro ty.und4 <| And.intro ty.sz142 <| And.intro ty.agg142 <| And.intro ty.elem142 <| And.intro ty.by142 <| And.intro ty.ez142 <| And.intro ty.zero142 <| ty.und142
theorem Delete_last (hp : HpT) (nx id : Nat) (bs junk : List Nat) (i : Nat) (hlast : i + 1 = bs.length) (hlk : hp.lookup id = some (.arr 1 (rU (bs ++ junk)))) (hlen : bs.length ≤ 1000) : CallH Tryd.prog G0 129 [.slc id 1 0 bs.length (bs.length + junk.length), I i, I (i + 1 : Nat)] hp nx (fun r hp' nx' => r = .slc id 1 0 (bs.length - 1) (bs.length + junk.length) ∧ hp' = upd hp id (.arr 1 (rU (bs.eraseIdx i ++ 0 :: junk))) ∧ nx' = nx) := by
  have hi : i < bs.length := by omega
  have c1 : ((i : Int) = ((i + 1 : Nat) : Int)) = False := by simp; omega
  have c2 : (i = bs.length + junk.length) = False := by simp; omega
  have c3 : (¬ ((i + 1 : Nat) : Int) = 0 ∧ ((i + 1 : Nat) : Int) = (bs.length : Int)) = True := by simp; omega
  have c6 : (¬ (i : Int) = 0 ∧ (i : Int) = (bs.length : Int)) = False := by simp; omega
  have hlu := fun o' => lookup_upd (o' := o') hlk
  refine CallH.body 33 [.tmp 6] Tryd.func129 (by kernel_rfl) rfl rfl rfl ?_
  refine Tr.reg [0, 1, 2] (by
      simp only [↓sxd, sxu, ↓zE, ↓exq, Nat.reduceBEq, Nat.reduceAdd, Nat.reduceLT]
      (all_goals try exact zF)) ?_
  refine Tr.reg [0, 1, 2] (by
      simp only [↓sxd, sxu, ↓zE, ↓exq, ↓zB, ↓zJ, ↓yC, sbnd, Nat.reduceBEq, Nat.reduceLT, sxe, xG]
      (all_goals try exact zF)) ?_
  refine Tr.seq ?_
  refine Tr.reg [0, 1, 2, 16] (by
      simp only [↓sxd, sxu, ↓zE, ↓exq, Nat.reduceBEq, Nat.reduceLT]
      (all_goals try exact zF)) ?_
  refine Tr.cond rfl (fun h16 => ?_) (fun h16 => ?_)
  · exfalso; simp at h16; omega
  · refine Tr.skip ?_
    refine Tr.reg [0, 1, 2, 7] (by
        simp only [↓sxd, sxu, ↓zE, ↓exq, ↓zB, ↓zJ, Nat.reduceBEq, Nat.reduceLT, xG]
        (all_goals try exact zF)) ?_
    refine Tr.regD [0, 1, 2, 3, 4, 5, 6, 7] [6] [] [0, 7] mix (by kernel_rfl) (by
        simp only [↓sxd, sxu, ↓zC, zK, ↓exq, ↓zB, ↓zQ, ↓yC, sbnd, Nat.reduceBEq, Nat.reduceLT, Nat.reduceLeDiff, Nat.reduceEqDiff, Int.reduceLE, sxe, xG, hlk, c2, c3, rU_take, rU_drop]
        (all_goals try exact zF)) ?_
    refine Tr.reg [0] (by
        simp only [↓sxd, sxu, ↓zE, ↓exq, ↓zB, ↓zJ, ↓yC, ↓yM, sbnd, Nat.reduceBEq, Nat.reduceLT, sxe, xG, hlu, upd_upd, c6]
        (repeat' (first | rfl | exact trivial | exact fun h => h | exact fun h => (by rw [h]; rfl) | apply And.intro | omega | exact Nat.le_of_ble_eq_true rfl))
        all_goals (simp; omega)) ?_
    refine Tr.reg [6] (by
        simp only [↓sxd, sxu, ↓zE, ↓exq, Nat.reduceLT]
        (all_goals try exact zF)) ?_
    refine Tr.ret ?_
    refine ⟨.inr rfl, _, rfl, ?_, ?_, rfl⟩
    · rw [show i = bs.length - 1 by omega]
    · rw [← del_last hlast]; congr 2; simp only [rU_rep, rU_app, rU_take, rU_drop, List.take_append_drop]
theorem Delete_mid (hp : HpT) (nx id : Nat) (bs junk : List Nat) (i : Nat) (hlast : i + 1 < bs.length) (hlk : hp.lookup id = some (.arr 1 (rU (bs ++ junk)))) (hlen : bs.length ≤ 1000) : CallH Tryd.prog G0 129 [.slc id 1 0 bs.length (bs.length + junk.length), I i, I (i + 1 : Nat)] hp nx (fun r hp' nx' => r = .slc id 1 0 (bs.length - 1) (bs.length + junk.length) ∧ hp' = upd hp id (.arr 1 (rU (bs.eraseIdx i ++ 0 :: junk))) ∧ nx' = nx) := by
  have hi : i < bs.length := by omega
  have c1 : ((i : Int) = ((i + 1 : Nat) : Int)) = False := by simp; omega
  have c2 : (i = bs.length + junk.length) = False := by simp; omega
  have c3 : (¬ ((i + 1 : Nat) : Int) = 0 ∧ ((i + 1 : Nat) : Int) = (bs.length : Int)) = False := by simp; omega
  have c4 : (i + 1 + (bs.length - (i + 1)) ≤ bs.length + junk.length) = True := by simp; omega
  have c5 : min (bs.length - (i + 1)) (bs.length + junk.length - (i + 1)) = bs.length - (i + 1) := by omega
  have c7 : i + (bs.length - (i + 1)) = bs.length - 1 := by omega
  have c6 : (¬ ((bs.length - 1 : Nat) : Int) = 0 ∧ ((bs.length - 1 : Nat) : Int) = (bs.length : Int)) = False := by simp; omega
  have hlu := fun o' => lookup_upd (o' := o') hlk
  refine CallH.body 33 [.tmp 6] Tryd.func129 (by kernel_rfl) rfl rfl rfl ?_
  refine Tr.reg [0, 1, 2] (by
      simp only [↓sxd, sxu, ↓zE, ↓exq, Nat.reduceBEq, Nat.reduceAdd, Nat.reduceLT]
      (all_goals try exact zF)) ?_
  refine Tr.reg [0, 1, 2] (by
      simp only [↓sxd, sxu, ↓zE, ↓exq, ↓zB, ↓zJ, ↓yC, sbnd, Nat.reduceBEq, Nat.reduceLT, sxe, xG]
      (all_goals try exact zF)) ?_
  refine Tr.seq ?_
  refine Tr.reg [0, 1, 2, 16] (by
      simp only [↓sxd, sxu, ↓zE, ↓exq, Nat.reduceBEq, Nat.reduceLT]
      (all_goals try exact zF)) ?_
  refine Tr.cond rfl (fun h16 => ?_) (fun h16 => ?_)
  · exfalso; simp at h16; omega
  · refine Tr.skip ?_
    refine Tr.reg [0, 1, 2, 7] (by
        simp only [↓sxd, sxu, ↓zE, ↓exq, ↓zB, ↓zJ, Nat.reduceBEq, Nat.reduceLT, xG]
        (all_goals try exact zF)) ?_
    refine Tr.regD [0, 1, 2, 3, 4, 5, 6, 7] [6] [] [0, 7] mix (by kernel_rfl) (by
        simp only [↓sxd, sxu, ↓zC, zK, ↓exq, ↓zB, ↓zQ, ↓yC, sbnd, Nat.reduceBEq, Nat.reduceLT, Nat.reduceLeDiff, Nat.reduceEqDiff, Int.reduceLE, sxe, xG, hlk, c2, c3, c4, c5, c7, rU_take, rU_drop, rU_all, List.length_take, List.length_drop]
        (all_goals try exact zF)) ?_
    refine Tr.reg [0] (by
        simp only [↓sxd, sxu, ↓zE, ↓exq, ↓zB, ↓zJ, ↓yC, ↓yM, sbnd, Nat.reduceBEq, Nat.reduceLT, sxe, xG, hlu, upd_upd, c5, c6, List.length_take, List.length_drop]
        (repeat' (first | rfl | exact trivial | exact fun h => h | exact fun h => (by rw [h]; rfl) | apply And.intro | omega | exact Nat.le_of_ble_eq_true rfl))
        all_goals (simp; omega)) ?_
    refine Tr.reg [6] (by
        simp only [↓sxd, sxu, ↓zE, ↓exq, Nat.reduceLT]
        (all_goals try exact zF)) ?_
    refine Tr.ret ?_
    refine ⟨.inr rfl, _, rfl, ?_, ?_, rfl⟩
    · rfl
    · rw [← del_mid hlast]; congr 2; simp only [rU_rep, rU_app, rU_take, rU_drop]
theorem Delete_h (hp : HpT) (nx id : Nat) (bs junk : List Nat) (i : Nat) (hi : i < bs.length) (hlk : hp.lookup id = some (.arr 1 (rU (bs ++ junk)))) (hlen : bs.length ≤ 1000) : CallH Tryd.prog G0 129 [.slc id 1 0 bs.length (bs.length + junk.length), I i, I (i + 1 : Nat)] hp nx (fun r hp' nx' => r = .slc id 1 0 (bs.length - 1) (bs.length + junk.length) ∧ hp' = upd hp id (.arr 1 (rU (bs.eraseIdx i ++ 0 :: junk))) ∧ nx' = nx) := by
  by_cases h : i + 1 = bs.length
  · exact Delete_last hp nx id bs junk i h hlk hlen
  · exact Delete_mid hp nx id bs junk i (by omega) hlk hlen
theorem Delete_n (hp : HpT) (nx id n m : Nat) (bs junk : List Nat) (i : Nat) (hi : i < bs.length) (hlk : hp.lookup id = some (.arr 1 (rU (bs ++ junk)))) (hlen : bs.length ≤ 1000) (hn : n = bs.length) (hm : m = bs.length + junk.length) : CallH Tryd.prog G0 129 [.slc id 1 0 n m, I i, I (i + 1 : Nat)] hp nx (fun r hp' nx' => r = .slc id 1 0 (n - 1) m ∧ hp' = upd hp id (.arr 1 (rU (bs.eraseIdx i ++ 0 :: junk))) ∧ nx' = nx) := by
  subst hn hm
  exact Delete_h hp nx id bs junk i hi hlk hlen
theorem rU_get {l : List Nat} {i : Nat} (h : i < l.length) : (rU l).getD i [] = [U (l.getD i 0 : Nat)] := by
  simp [rU, List.getD_eq_getElem?_getD, h]
theorem rU_getA {a b : List Nat} {i : Nat} (h : i < a.length) : (rU (a ++ b)).getD i [] = [U (a.getD i 0 : Nat)] := by
  rw [rU_get (by simp; omega)]
  simp [List.getD_eq_getElem?_getD, List.getElem?_append_left h]
theorem rU_setA {a b : List Nat} {i : Nat} (h : i < a.length) (v : Nat) : (rU (a ++ b)).set i [U v] = rU (a.set i v ++ b) := by
  rw [rU, ← List.map_set, List.set_append_left _ _ h]
abbrev wsOf (c : Census) (blk : SV) (one : List Bool) (least : List Int) : List SV := SE c.entries :: SP c.same :: SP c.apart :: I c.omitted.lo :: I c.omitted.hi :: I c.number.lo :: I c.number.hi :: blk :: (one.map B ++ least.map I)
def joinB (bs : List Nat) (p : Pair) : List Nat :=
  let a := idxOf (fun (x : Nat) => x.testBit p.fst.toNat) bs
  let b := idxOf (fun (x : Nat) => x.testBit p.snd.toNat) bs
  if a = b then bs else (bs.set a.toNat (bs.getD a.toNat 0 ||| bs.getD b.toNat 0)).eraseIdx b.toNat
theorem frzJ {r : Nat → Nat} {hp hp' : HpT} {id cap n : Nat} {bs junk : List Nat} (h : hp.lookup id = some (.arr 1 (rU (bs ++ junk)))) (hn : ∀ p ∈ hp', p.1 ≠ id) (hl : n = bs.length) : TnS r hp hp' (.slc id 1 0 n cap) (.d (.sl (dU bs))) := by
  subst hl
  refine TnS.frz h hn (by decide) (by simp) ?_
  rw [List.drop_zero, rU_take, List.take_left']
  · exact F2.map fun _ _ => .cons (TnS.d _) .nil
  · rfl
theorem frzW {hp hp' : HpT} {iw ib cap n : Nat} {c : Census} {bs junk : List Nat} {one : List Bool} {least : List Int} (hw : hp.lookup iw = some (.arr 2056 [wsOf c (.slc ib 1 0 n cap) one least])) (hb : hp.lookup ib = some (.arr 1 (rU (bs ++ junk))))
    (h1 : ∀ p ∈ hp', p.1 ≠ iw) (h2 : ∀ p ∈ hp', p.1 ≠ ib) (hl : n = bs.length) : TnS (fun i => i) hp hp' (.ptr iw 0 0) (.dp (Work.mk c bs one least).d) := by
  refine TnS.frzp hw h1 (by decide) (by simp) ?_
  show F2 _ (wsOf c (.slc ib 1 0 n cap) one least) _
  refine .cons (TnS.d _) (.cons (TnS.d _) (.cons (TnS.d _) (.cons (TnS.d _) (.cons (TnS.d _) (.cons (TnS.d _) (.cons (TnS.d _) (.cons (frzJ hb h2 hl) (F2.append ?_ ?_))))))))
  · exact F2.map fun _ _ => TnS.d _
  · exact F2.map fun _ _ => TnS.d _
abbrev xI := And.intro ty.sz0 <| And.intro ty.agg0 <| And.intro ty.elem0 <| And.intro ty.sz3 <| And.intro ty.agg3 <| And.intro ty.elem3 <| And.intro ty.zero3 <| And.intro ty.und3 <| And.intro ty.sz4 <| And.intro ty.agg4 <| And.intro ty.elem4 <| And.intro ty.zero4 <| And.intro ty.und4 <| And.intro ty.sz104 <| And.intro ty.agg104 <| And.intro ty.fld104_0 <| And.intro ty.fld104_1 <| And.intro ty.elem104 <| And.intro ty.zero104 <| And.intro ty.pl104 <| And.intro ty.sz108 <| And.intro ty.agg108 <| And.intro ty.elem108 <| And.intro ty.zero108 <| And.intro ty.sz114 <| And.intro ty.agg114 <| And.intro ty.elem114 <| And.intro ty.zero114 <| And.intro ty.und114 <| And.intro ty.sz142 <| And.intro ty.agg142 <| And.intro ty.elem142 <| And.intro ty.by142 <| And.intro ty.ez142 <| And.intro ty.zero142 <| And.intro ty.und142 <| And.intro ty.sz146 <| And.intro ty.agg146 <| And.intro ty.fld146_0 <| And.intro ty.fld146_1 <| And.intro ty.fld146_2 <| And.intro ty.fld146_3 <| And.intro ty.elem146 <| And.intro ty.zero146 <| ty.pl146
theorem join_eq (o4 o2 o0 : Sy.Obj) (c : Census) (bs junk : List Nat) (one : List Bool) (least : List Int) (a b : Nat) (hb : ∀ x ∈ bs, x < 4096) (hl : bs.length ≤ 1000) (hab : idxOf (fun (x : Nat) => x.testBit a) bs = idxOf (fun (x : Nat) => x.testBit b) bs) : CallH Tryd.prog G0 118 [.ptr 1 0 0, .agg [I a, I b]] [(4, o4), (3, .arr 1 (rU (bs ++ junk))), (2, o2), (1, .arr 2056 [wsOf c (.slc 3 1 0 bs.length (bs.length + junk.length)) one least]), (0, o0)] 5 (fun _ hp' nx' => hp' = [(5, .arr 2 [[I a, I b]]), (4, o4), (3, .arr 1 (rU (bs ++ junk))), (2, o2), (1, .arr 2056 [wsOf c (.slc 3 1 0 bs.length (bs.length + junk.length)) one least]), (0, o0)] ∧ nx' = 6) := by
  have hb' : ∀ x ∈ (Work.mk c bs one least).blocks, x < 18446744073709551616 := fun x hx => Nat.lt_trans (hb x hx) (by decide)
  refine CallH.body 44 [] Tryd.func118 (by kernel_rfl) rfl rfl rfl ?_
  refine Tr.reg [0, 3] (by
      simp only [↓sxd, sxu, ↓zE, ↓exq, ↓zI, Nat.reduceBEq, Nat.reduceAdd, Nat.reduceLT, Nat.reduceEqDiff]
      (all_goals try exact zF)) ?_
  refine Tr.regD [5, 6, 0, 1, 2, 3, 4, 7, 8, 9] [3, 7] [6] [0, 4, 5] mix (by kernel_rfl) (by
      simp only [↓sxd, sxu, ↓zC, zK, ↓exq, ↓zD, ↓zA, Nat.reduceBEq, Nat.reduceAdd, Nat.reduceLT, Nat.reduceEqDiff, xI]
      (repeat ((with_reducible refine And.intro ?_ ?_); (focus (exact zS))))
      refine CallL.use (CallP.useB [] (block_c (Work.mk c bs one least) a hb' (by show bs.length < _; omega)) (List.nil_sublist _) (.cons (frzW (bs := bs) (junk := junk) rfl rfl (by simp) (by simp) rfl) (.cons (TnS.d _) .nil)) (Rigid.lit _) ⟨rfl, rfl, rfl⟩) (by simp only [stabOk]; (all_goals try exact zF)) ?_
      try simp only [↓sxd, sxu, ↓zC, zK, ↓exq, Nat.reduceBEq, Nat.reduceLT]
      (repeat ((with_reducible refine And.intro ?_ ?_); (focus (exact zS))))
      refine CallL.use (CallP.useB [] (block_c (Work.mk c bs one least) b hb' (by show bs.length < _; omega)) (List.nil_sublist _) (.cons (frzW (bs := bs) (junk := junk) rfl rfl (by simp) (by simp) rfl) (.cons (TnS.d _) .nil)) (Rigid.lit _) ⟨rfl, rfl, rfl⟩) (by simp only [stabOk]; (all_goals try exact zF)) ?_
      try simp only [↓sxd, sxu, ↓zC, zK, ↓exq, Nat.reduceBEq, Nat.reduceLT]
      (all_goals try exact zF)) ?_
  refine Tr.reg [0, 4, 5, 16] (by
      simp only [↓sxd, sxu, ↓zE, ↓exq, Nat.reduceBEq, Nat.reduceLT]
      (all_goals try exact zF)) ?_
  refine Tr.cond rfl (fun h16 => ?_) (fun h16 => ?_)
  · exfalso; simp [hab] at h16
  · refine Tr.skip ?_
    exact ⟨.inl rfl, .tup [], trivial, rfl, rfl⟩
theorem join_ne (o4 o2 o0 : Sy.Obj) (c : Census) (bs junk : List Nat) (one : List Bool) (least : List Int) (a b : Nat) (hb : ∀ x ∈ bs, x < 4096) (hl : bs.length ≤ 1000) (i j : Nat) (hia : (i : Int) = idxOf (fun (x : Nat) => x.testBit a) bs) (hjb : (j : Int) = idxOf (fun (x : Nat) => x.testBit b) bs) (hi : i < bs.length) (hj : j < bs.length) (hij : i ≠ j) : CallH Tryd.prog G0 118 [.ptr 1 0 0, .agg [I a, I b]] [(4, o4), (3, .arr 1 (rU (bs ++ junk))), (2, o2), (1, .arr 2056 [wsOf c (.slc 3 1 0 bs.length (bs.length + junk.length)) one least]), (0, o0)] 5 (fun _ hp' nx' => hp' = [(5, .arr 2 [[I a, I b]]), (4, o4), (3, .arr 1 (rU (((bs.set i (bs.getD i 0 ||| bs.getD j 0)).eraseIdx j) ++ (0 :: junk)))), (2, o2), (1, .arr 2056 [wsOf c (.slc 3 1 0 (bs.length - 1) (bs.length + junk.length)) one least]), (0, o0)] ∧ nx' = 6) := by
  have hb' : ∀ x ∈ (Work.mk c bs one least).blocks, x < 18446744073709551616 := fun x hx => Nat.lt_trans (hb x hx) (by decide)
  refine CallH.body 44 [] Tryd.func118 (by kernel_rfl) rfl rfl rfl ?_
  refine Tr.reg [0, 3] (by
      simp only [↓sxd, sxu, ↓zE, ↓exq, ↓zI, Nat.reduceBEq, Nat.reduceAdd, Nat.reduceLT, Nat.reduceEqDiff]
      (all_goals try exact zF)) ?_
  refine Tr.regD [5, 6, 0, 1, 2, 3, 4, 7, 8, 9] [3, 7] [6] [0, 4, 5] mix (by kernel_rfl) (by
      simp only [↓sxd, sxu, ↓zC, zK, ↓exq, ↓zD, ↓zA, Nat.reduceBEq, Nat.reduceAdd, Nat.reduceLT, Nat.reduceEqDiff, xI]
      (repeat ((with_reducible refine And.intro ?_ ?_); (focus (exact zS))))
      refine CallL.use (CallP.useB [] (block_c (Work.mk c bs one least) a hb' (by show bs.length < _; omega)) (List.nil_sublist _) (.cons (frzW (bs := bs) (junk := junk) rfl rfl (by simp) (by simp) rfl) (.cons (TnS.d _) .nil)) (Rigid.lit _) ⟨rfl, rfl, rfl⟩) (by simp only [stabOk]; (all_goals try exact zF)) ?_
      try simp only [↓sxd, sxu, ↓zC, zK, ↓exq, Nat.reduceBEq, Nat.reduceLT]
      (repeat ((with_reducible refine And.intro ?_ ?_); (focus (exact zS))))
      refine CallL.use (CallP.useB [] (block_c (Work.mk c bs one least) b hb' (by show bs.length < _; omega)) (List.nil_sublist _) (.cons (frzW (bs := bs) (junk := junk) rfl rfl (by simp) (by simp) rfl) (.cons (TnS.d _) .nil)) (Rigid.lit _) ⟨rfl, rfl, rfl⟩) (by simp only [stabOk]; (all_goals try exact zF)) ?_
      try simp only [↓sxd, sxu, ↓zC, zK, ↓exq, Nat.reduceBEq, Nat.reduceLT]
      (all_goals try exact zF)) ?_
  refine Tr.reg [0, 4, 5, 16] (by
      simp only [↓sxd, sxu, ↓zE, ↓exq, Nat.reduceBEq, Nat.reduceLT]
      (all_goals try exact zF)) ?_
  refine Tr.cond rfl (fun h16 => ?_) (fun h16 => ?_)
  · have g1 : bs.getD i 0 < 18446744073709551616 := Nat.lt_trans (hb _ (getD_mem hi)) (by decide)
    have g2 : bs.getD j 0 < 18446744073709551616 := Nat.lt_trans (hb _ (getD_mem hj)) (by decide)
    refine Tr.regD [0, 1, 2, 3, 4, 5, 6, 7, 8, 9, 10, 11, 12, 13, 14, 15, 16] [16] [] [0, 5] mix (by kernel_rfl) (by
        simp only [↓sxd, sxu, ↓zC, zK, ↓exq, ↓zD, ↓zV, ↓zA, Nat.reduceBEq, Nat.reduceLT, Nat.reduceEqDiff, sxe, xI, ← hia, ← hjb, rU_getA hi, rU_getA hj, or_u g1 g2, rU_setA hi]
        (all_goals try exact zF)) ?_
    have w1 : IntKind.i64.wrap ((j : Int) + 1) = ((j + 1 : Nat) : Int) := by rw [wr (by omega) (by omega)]; rfl
    refine Tr.reg1 [] (by
        simp only [↓sxd, sxu, ↓zE, ↓exq, ↓zD, ↓zV, ↓zA, Nat.reduceBEq, Nat.reduceLT, Nat.reduceEqDiff, xI, w1]
        (repeat ((with_reducible refine And.intro ?_ ?_); (focus (exact zS))))
        refine (Delete_n _ 6 3 bs.length (bs.length + junk.length) (bs.set i (bs.getD i 0 ||| bs.getD j 0)) junk j (by simpa using hj) rfl (by simpa using hl) (by simp) (by simp)).mono ?_
        rintro r hp' nx' ⟨rfl, rfl, rfl⟩
        try simp only [↓sxd, sxu, ↓zE, ↓exq, ↓zV, ↓zA, Nat.reduceBEq, Nat.reduceAdd, Nat.reduceLT, Nat.reduceLeDiff, Nat.reduceEqDiff, xI]
        (all_goals try exact zF)) ?_
    exact ⟨.inl rfl, .tup [], trivial, rfl, rfl⟩
  · exfalso; simp [← hia, ← hjb] at h16; omega
end Go.Proofs.YtcnkbdfkjhlbiaaDoor
