/- Lemmas, part XPR. Conditions: none. -/
import Derived.Test.YtcnkbdfkjhlbiaaDoorXPQ
set_option linter.unusedVariables false
namespace Go.Proofs.YtcnkbdfkjhlbiaaDoor
open Go.Sy
set_option maxRecDepth 8000
def cmpL : List Int → List Int → Int
  | [], [] => 0
  | [], _ :: _ => -1
  | _ :: _, [] => 1
  | a :: x, b :: y => if cmp a b = 0 then cmpL x y else cmp a b
theorem drop_cons {l : List Int} {i : Nat} (h : i < l.length) : l.drop i = l.getD i 0 :: l.drop (i + 1) := by
  rw [List.drop_eq_getElem_cons h, List.getD_eq_getElem?_getD, List.getElem?_eq_getElem h]; rfl
abbrev yJ := And.intro ty.sz0 <| And.intro ty.agg0 <| And.intro ty.elem0 <| And.intro ty.sz3 <| And.intro ty.agg3 <| And.intro ty.elem3 <| And.intro ty.zero3 <| And.intro ty.und3 <| And.intro ty.sz4 <| And.intro ty.agg4 <| And.intro ty.elem4 <| And.intro ty.zero4 <| And.intro ty.und4 <| And.intro ty.sz43 <| And.intro ty.agg43 <| And.intro ty.elem43 <| And.intro ty.by43 <| And.intro ty.ez43 <| And.intro ty.zero43 <| ty.und43
theorem Compare_c (a b : List Int) (ha : a.length < 4611686018427387904) (hb : b.length < 4611686018427387904) : CallP Tryd.prog G0 69 [SI a, SI b] (I (cmpL a b)) := by
  refine CallP.body 36 [.tmp 4] Tryd.func69 (by kernel_rfl) rfl rfl rfl zP zP ?_
  refine Tr.reg [0, 1] (by
      simp only [↓sxd, sxu, ↓zE, ↓exq, Nat.reduceBEq, Nat.reduceAdd, Nat.reduceLT]
      (all_goals try exact zF)) ?_
  refine Tr.seq ?_
  refine Tr.reg [0, 1, 9, 10, 11] (by
      simp only [↓sxd, sxu, ↓zE, ↓exq, ↓zB, ↓zJ, Nat.reduceBEq, Nat.reduceLT, sxe, yJ]
      (all_goals try exact zF)) ?_
  refine Tr.imp (st' := ⟨[(0, SI a), (1, SI b), (9, SI a), (10, I a.length), (11, I 0)], [], 0, 36, [], 0⟩) (Imp.keepAll) (Tr.block (Tr.loopI (fun mm ss => ∃ (i : Nat), (i ≤ a.length ∧ i ≤ b.length ∧ cmpL (a.drop i) (b.drop i) = cmpL a b) ∧ a.length - i = mm ∧ ss = ⟨[(0, SI a), (1, SI b), (9, SI a), (10, I a.length), (11, I i)], [], 0, 36, [], 0⟩) _ ⟨0, ?_, rfl, rfl⟩ ?_))
  · exact ⟨Nat.zero_le _, Nat.zero_le _, rfl⟩
  rintro mm ss ⟨i, hI, rfl, rfl⟩
  obtain ⟨h1, h2, hc⟩ := hI
  refine Tr.reg [0, 1, 9, 10, 11, 12] (by
      simp only [↓sxd, sxu, ↓zE, ↓exq, Nat.reduceBEq, Nat.reduceLT, sxe]
      (all_goals try exact zF)) ?_
  refine Tr.seq ?_
  refine Tr.cond rfl (fun h12 => ?_) (fun h12 => ?_)
  · have hlt : i < a.length := by simpa using h12
    rw [drop_cons hlt] at hc
    refine Tr.skip ?_
    refine Tr.seq ?_
    refine Tr.block ?_
    refine Tr.reg [0, 1, 5, 6, 9, 10, 11] (by
        simp only [↓sxd, sxu, ↓zE, ↓exq, ↓zD, Nat.reduceBEq, Nat.reduceLT, sxe, yJ, hlt]
        (all_goals try exact zF)) ?_
    refine Tr.seq ?_
    refine Tr.reg [0, 1, 5, 6, 9, 10, 11, 19] (by
        simp only [↓sxd, sxu, ↓zE, ↓exq, ↓zB, ↓zJ, Nat.reduceBEq, Nat.reduceLT, sxe, yJ]
        (all_goals try exact zF)) ?_
    refine Tr.cond rfl (fun h19 => ?_) (fun h19 => ?_)
    · have hb2 : b.drop i = [] := List.drop_eq_nil_of_le (by simpa using h19)
      rw [hb2] at hc
      refine Tr.reg [4] (by
          simp only [↓sxd, sxu, ↓zE, ↓exq, Nat.reduceLT]
          (all_goals try exact zF)) ?_
      refine Tr.ret ?_
      exact ⟨.inr rfl, congrArg (fun n => some (I n)) (by rw [← hc]; rfl)⟩
    · have hlt2 : i < b.length := by simpa using h19
      rw [drop_cons hlt2, cmpL] at hc
      refine Tr.skip ?_
      refine Tr.reg [0, 1, 6, 7, 9, 10, 11] (by
          simp only [↓sxd, sxu, ↓zE, ↓exq, ↓zD, Nat.reduceBEq, Nat.reduceLT, sxe, yJ, hlt2]
          (all_goals try exact zF)) ?_
      refine Tr.reg [0, 1, 8, 9, 10, 11] (by
          simp only [↓sxd, sxu, ↓zE, ↓exq, Nat.reduceBEq, Nat.reduceLT]
          (repeat ((with_reducible refine And.intro ?_ ?_); (focus (exact zS))))
          refine CallO.use (cmp_c _ _ _) ?_
          try simp only [↓sxd, sxu, ↓zE, ↓exq, Nat.reduceBEq, Nat.reduceLT]
          (all_goals try exact zF)) ?_
      refine Tr.reg [0, 1, 8, 9, 10, 11, 28] (by
          simp only [↓sxd, sxu, ↓zE, ↓exq, Nat.reduceBEq, Nat.reduceLT]
          (all_goals try exact zF)) ?_
      refine Tr.cond rfl (fun h28 => ?_) (fun h28 => ?_)
      · have hz : ¬ cmp (a.getD i 0) (b.getD i 0) = 0 := by simpa using h28
        rw [if_neg hz] at hc
        rw [← hc]
        refine Tr.reg [4] (by
            simp only [↓sxd, sxu, ↓zE, ↓exq, Nat.reduceBEq, Nat.reduceLT]
            (all_goals try exact zF)) ?_
        refine Tr.ret ?_
        (refine ⟨.inr rfl, ?_⟩; first | rfl | exact ⟨rfl, rfl, trivial⟩ | exact ⟨rfl, rfl, rfl, trivial⟩ | (simp only [Res, ResL, ResOK, ↓sxd, sxu, ↓zE, ↓zC, zK, ↓exP, ↓exq, ↓zB, ↓zL, ↓zJ, ↓zD, Nat.reduceBEq, Nat.reduceAdd, Nat.reduceLT, Nat.reduceMul, Nat.reduceSub, Nat.reduceLeDiff, Nat.reduceEqDiff, Int.reduceLE, Int.reduceLT, Int.reduceToNat, reduceIte, sxe, yJ]; (repeat' (first | rfl | exact trivial | exact fun h => h | exact fun h => (by rw [h]; rfl) | apply And.intro | omega | exact Nat.le_of_ble_eq_true rfl))))
      · have hz : cmp (a.getD i 0) (b.getD i 0) = 0 := by simpa using h28
        rw [if_pos hz] at hc
        refine Tr.skip ?_
        have w1 : IntKind.i64.wrap ((i : Int) + 1) = ((i + 1 : Nat) : Int) := by rw [wr (by omega) (by omega)]; rfl
        refine Tr.reg1 [0, 1, 9, 10, 11] (by
            simp only [↓sxd, sxu, ↓zE, ↓exq, Nat.reduceBEq, Nat.reduceLT, w1]
            (all_goals try exact zF)) ?_
        exact ⟨_, _, by omega, Imp.keepAll, ⟨i + 1, ⟨hlt, hlt2, hc⟩, rfl, rfl⟩⟩
  · have hge : i = a.length := by simp at h12; omega
    subst hge
    rw [List.drop_length] at hc
    refine Tr.exit ?_
    refine Tr.seq ?_
    refine Tr.reg [35] (by
        simp only [↓sxd, sxu, ↓zE, ↓exq, ↓zB, ↓zJ, Nat.reduceBEq, Nat.reduceLT, sxe, yJ]
        (all_goals try exact zF)) ?_
    refine Tr.cond rfl (fun h35 => ?_) (fun h35 => ?_)
    · have hlt3 : a.length < b.length := by simpa using h35
      rw [drop_cons hlt3] at hc
      refine Tr.reg [4] (by
          simp only [↓sxd, sxu, ↓zE, ↓exq, Nat.reduceLT]
          (all_goals try exact zF)) ?_
      refine Tr.ret ?_
      exact ⟨.inr rfl, congrArg (fun n => some (I n)) (by rw [← hc]; rfl)⟩
    · have hb2 : b.drop a.length = [] := List.drop_eq_nil_of_le (by simpa using h35)
      rw [hb2] at hc
      refine Tr.skip ?_
      refine Tr.reg [4] (by
          simp only [↓sxd, sxu, ↓zE, ↓exq, Nat.reduceLT]
          (all_goals try exact zF)) ?_
      refine Tr.ret ?_
      exact ⟨.inr rfl, congrArg (fun n => some (I n)) (by rw [← hc]; rfl)⟩
theorem kept_mem {g : Nat → Bool} {l : List Pair} {k : Nat} (hk : k ≤ l.length) {p : Pair} (h : p ∈ kept g l k) : p ∈ l := by
  simp only [kept, List.mem_map, List.mem_filter, List.mem_range] at h
  obtain ⟨i, ⟨hi, _⟩, rfl⟩ := h
  exact getD_mem (by omega)
theorem Readable.without {c : Census} (h : Readable c) (s : Nat) : Readable (c.without s) :=
  ⟨h.ne, Nat.le_trans (kept_len _ _ _) h.ns, Nat.le_trans (kept_len _ _ _) h.na, fun p hp => h.hs p (kept_mem (Nat.le_refl _) hp), fun p hp => h.ha p (kept_mem (Nat.le_refl _) hp)⟩
def Census.dropStep (c : Census) (many : Nat) (best : Option (List Nat)) (s : Nat) : Option (List Nat) :=
  if ((elems s).length ≠ many ∨ (best.isSome = true ∧ decide (cmpL (nats (elems s)) (nats (best.getD [])) > 0) = true)) ∨ (c.without s).cons = false then best else some (elems s)
def Census.dropOf (c : Census) (p many n : Nat) : Option (List Nat) := (List.range n).foldl (c.dropStep many) none
def Census.pairs (c : Census) : Nat := c.same.length + c.apart.length
def Census.dropL (c : Census) : List Nat := ((List.range (c.pairs + 1)).findSome? fun k => c.dropOf c.pairs k (2 ^ c.pairs)).getD []
theorem fs_none {α : Type} {f : Nat → Option α} {n : Nat} (h : ∀ j, j < n → f j = none) : (List.range n).findSome? f = none := by
  rw [List.findSome?_eq_none_iff]
  intro x hx; exact h x (List.mem_range.1 hx)
theorem fs_some {α : Type} {f : Nat → Option α} {k : Nat} {l : α} (h : ∀ j, j < k → f j = none) (hk : f k = some l) : ∀ {n : Nat}, k < n → (List.range n).findSome? f = some l
  | 0, hn => absurd hn (Nat.not_lt_zero _)
  | n + 1, hn => by
    rw [List.range_succ, List.findSome?_append]
    by_cases hkn : k = n
    · subst hkn; rw [fs_none h]; simp [hk]
    · rw [fs_some h hk (show k < n by omega)]; rfl
def Census.dropS (c : Census) : List Nat × Int := if c.check ≠ 0 then ([], c.check) else if (c.without (2 ^ c.pairs - 1)).cons = false then ([], 9) else (c.dropL, 0)
theorem dropOf_len (c : Census) (p many : Nat) : ∀ n, ((c.dropOf p many n).getD []).length ≤ 16
  | 0 => by simp [Census.dropOf]
  | n + 1 => by
    have ih := dropOf_len c p many n
    unfold Census.dropOf at ih ⊢
    rw [List.range_succ, List.foldl_append]
    simp only [List.foldl_cons, List.foldl_nil]
    unfold Census.dropStep
    split
    · exact ih
    · exact elems_len n
theorem dropOf_succ (c : Census) (p many n : Nat) : c.dropOf p many (n + 1) = c.dropStep many (c.dropOf p many n) n := by
  simp [Census.dropOf, List.range_succ]
theorem drop_t {m k : Nat} {a b x : Bool} (h : (((m : Int) != (k : Int)) || (a && b) || !x) = true) : (m ≠ k ∨ (a = true ∧ b = true)) ∨ x = false := by
  simpa [Int.ofNat_inj] using h
theorem drop_f {m k : Nat} {a b x : Bool} (h : (((m : Int) != (k : Int)) || (a && b) || !x) = false) : ¬ ((m ≠ k ∨ (a = true ∧ b = true)) ∨ x = false) := by
  intro h2
  have : (((m : Int) != (k : Int)) || (a && b) || !x) = true := by simpa [Int.ofNat_inj] using h2
  rw [this] at h; cases h
abbrev zW := And.intro ty.sz0 <| And.intro ty.agg0 <| And.intro ty.elem0 <| And.intro ty.sz3 <| And.intro ty.agg3 <| And.intro ty.elem3 <| And.intro ty.zero3 <| And.intro ty.und3 <| And.intro ty.sz4 <| And.intro ty.agg4 <| And.intro ty.elem4 <| And.intro ty.zero4 <| And.intro ty.und4 <| And.intro ty.sz31 <| And.intro ty.agg31 <| And.intro ty.elem31 <| And.intro ty.zero31 <| And.intro ty.und31 <| And.intro ty.sz35 <| And.intro ty.agg35 <| And.intro ty.elem35 <| And.intro ty.by35 <| And.intro ty.ez35 <| And.intro ty.zero35 <| And.intro ty.und35 <| And.intro ty.sz37 <| And.intro ty.agg37 <| And.intro ty.fld37_0 <| And.intro ty.fld37_1 <| And.intro ty.fld37_2 <| And.intro ty.fld37_3 <| And.intro ty.fld37_4 <| And.intro ty.elem37 <| And.intro ty.zero37 <| And.intro ty.pl37 <| And.intro ty.sz43 <| And.intro ty.agg43 <| And.intro ty.elem43 <| And.intro ty.by43 <| And.intro ty.ez43 <| And.intro ty.zero43 <| And.intro ty.und43 <| And.intro ty.sz114 <| And.intro ty.agg114 <| And.intro ty.elem114 <| And.intro ty.zero114 <| ty.und114
theorem Drop_c (c : Census) (hs : c.small) : CallP Tryd.prog G0 29 [c.s] (.tup [SI (nats c.dropS.1), I c.dropS.2]) := by
  refine CallP.body 67 [.tmp 2, .tmp 3] Tryd.func29 (by kernel_rfl) rfl rfl rfl zP zP ?_
  refine Tr.reg [1] (by
      simp only [↓sxd, sxu, ↓zE, ↓exq, ↓zI, Nat.reduceBEq, Nat.reduceAdd, Nat.reduceLT, Nat.reduceEqDiff]
      (all_goals try exact zF)) ?_
  refine Tr.scope ?_
  refine Tr.seq ?_
  refine Tr.reg [1, 4] (by
      simp only [↓sxd, sxu, ↓zE, ↓exq, ↓zD, Nat.reduceAdd, Nat.reduceLT, zW]
      (repeat ((with_reducible refine And.intro ?_ ?_); (focus (exact zS))))
      refine CallO.use (checkCensus_c c (by have := hs.1; omega) (by have := hs.2.1; omega) (by have := hs.2.2; omega)) ?_
      try simp only [↓sxd, sxu, ↓zE, ↓exq, Nat.reduceBEq, Nat.reduceLT]
      (all_goals try exact zF)) ?_
  refine Tr.reg [1, 4, 14] (by
      simp only [↓sxd, sxu, ↓zE, ↓exq, Nat.reduceBEq, Nat.reduceLT]
      (all_goals try exact zF)) ?_
  refine Tr.cond rfl (fun h14 => ?_) (fun h14 => ?_)
  · have hk : c.check ≠ 0 := by simpa using h14
    rw [show c.dropS = ([], c.check) from if_pos hk]
    refine Tr.reg [2, 3] (by
        simp only [↓sxd, sxu, ↓zE, ↓exq, Nat.reduceBEq, Nat.reduceLT]
        (all_goals try exact zF)) ?_
    refine Tr.imp (Imp.fin (tm' := [(2, SI (nats [])), (3, I c.check)]) ?_) ?_
    · exact .cons rfl (TnS.dxd _) (.cons rfl (TnS.d _) trivial)
    refine Tr.ret ?_
    refine ⟨fun _ hc => (by cases hc), ?_⟩
    (refine ⟨.inr rfl, ?_⟩; first | rfl | exact ⟨rfl, rfl, trivial⟩ | exact ⟨rfl, rfl, rfl, trivial⟩ | (simp only [Res, ResL, ResOK, ↓sxd, sxu, ↓zE, ↓zC, zK, ↓exP, ↓exq, ↓zB, ↓zH, ↓zL, ↓zJ, ↓zD, ↓zI, ↓zA, Nat.reduceBEq, Nat.reduceAdd, Nat.reduceLT, Nat.reduceMul, Nat.reduceSub, Nat.reduceLeDiff, Nat.reduceEqDiff, Int.reduceLE, Int.reduceLT, Int.reduceToNat, reduceIte, sxe, zW]; (repeat' (first | rfl | exact trivial | exact fun h => h | exact fun h => (by rw [h]; rfl) | apply And.intro | omega | exact Nat.le_of_ble_eq_true rfl))))
  · have hk : c.check = 0 := by simpa using h14
    have hR := Census.readable hk
    have hn := Census.small_of hk
    obtain ⟨p, hp⟩ : ∃ p, p = c.same.length + c.apart.length := ⟨_, rfl⟩
    have hp12 : p ≤ 12 := by omega
    have hpp : 2 ^ p ≤ 2 ^ 12 := Nat.pow_le_pow_right (by omega) hp12
    have hp1 : 1 ≤ 2 ^ p := Nat.one_le_two_pow
    refine Tr.skip ?_
    have wp : IntKind.i64.wrap ((c.same.length : Int) + (c.apart.length : Int)) = ((p : Nat) : Int) := by rw [wr (by omega) (by omega)]; omega
    refine Tr.reg [1, 5] (by
        simp only [↓sxd, sxu, ↓zE, ↓exq, ↓zB, ↓zJ, ↓zD, ↓zA, Nat.reduceBEq, Nat.reduceAdd, Nat.reduceLT, Nat.reduceEqDiff, sxe, zW, wp]
        (all_goals try exact zF)) ?_
    refine Tr.seq ?_
    have wq : IntKind.u64.wrap (((2 ^ p : Nat) : Int) - 1) = ((2 ^ p - 1 : Nat) : Int) := by rw [wu (by omega) (by omega)]; omega
    refine Tr.regD [0, 1, 2, 3, 4, 5, 6] [] [] [1, 5, 29] mix (by kernel_rfl) (by
        simp only [↓sxd, sxu, ↓zC, zK, ↓exq, ↓zD, Nat.reduceBEq, Nat.reduceAdd, Nat.reduceLT, sxe, zW, shl_u (show p < 64 by omega), wq]
        (repeat ((with_reducible refine And.intro ?_ ?_); (focus (exact zS))))
        refine CallD.use (without_c c (2 ^ p - 1) (by omega) (by omega) (by omega)) ?_
        try simp only [↓sxd, sxu, ↓zC, Nat.reduceLT]
        (repeat ((with_reducible refine And.intro ?_ ?_); (focus (exact zS))))
        refine CallD.use (consistent_c _ (hR.without _)) ?_
        try simp only [↓sxd, sxu, ↓zC, ↓exq, ↓zL, Nat.reduceBEq, Nat.reduceLT]
        (all_goals try exact zF)) ?_
    refine Tr.cond rfl (fun h29 => ?_) (fun h29 => ?_)
    · have hcf : (c.without (2 ^ c.pairs - 1)).cons = false := by simp only [Census.pairs, ← hp]; simpa using h29
      rw [show c.dropS = ([], 9) by unfold Census.dropS; rw [if_neg (by simpa using hk), if_pos hcf]]
      refine Tr.reg [2, 3] (by
          simp only [↓sxd, sxu, ↓zE, ↓exq, Nat.reduceBEq, Nat.reduceLT]
          (all_goals try exact zF)) ?_
      refine Tr.imp (Imp.fin (tm' := [(2, SI (nats [])), (3, I 9)]) ?_) ?_
      · exact .cons rfl (TnS.dxd _) (.cons rfl (TnS.d _) trivial)
      refine Tr.ret ?_
      refine ⟨fun _ hc => (by cases hc), ?_⟩
      (refine ⟨.inr rfl, ?_⟩; first | rfl | exact ⟨rfl, rfl, trivial⟩ | exact ⟨rfl, rfl, rfl, trivial⟩ | (simp only [Res, ResL, ResOK, ↓sxd, sxu, ↓zE, ↓zC, zK, ↓exP, ↓exq, ↓zB, ↓zH, ↓zL, ↓zJ, ↓zD, ↓zI, ↓zA, Nat.reduceBEq, Nat.reduceAdd, Nat.reduceLT, Nat.reduceMul, Nat.reduceSub, Nat.reduceLeDiff, Nat.reduceEqDiff, Int.reduceLE, Int.reduceLT, Int.reduceToNat, reduceIte, sxe, zW]; (repeat' (first | rfl | exact trivial | exact fun h => h | exact fun h => (by rw [h]; rfl) | apply And.intro | omega | exact Nat.le_of_ble_eq_true rfl))))
    · have hcf : ¬ (c.without (2 ^ c.pairs - 1)).cons = false := by simp only [Census.pairs, ← hp]; simpa using h29
      rw [show c.dropS = (c.dropL, 0) by unfold Census.dropS; rw [if_neg (by simpa using hk), if_neg hcf]]
      refine Tr.skip ?_
      refine Tr.reg [1, 5, 6] (by
          simp only [↓sxd, sxu, ↓zE, ↓exq, Nat.reduceBEq, Nat.reduceLT]
          (all_goals try exact zF)) ?_
      refine Tr.reg [1, 5, 6, 7] (by
          simp only [↓sxd, sxu, ↓zE, ↓exq, Nat.reduceBEq, Nat.reduceLT]
          (all_goals try exact zF)) ?_
      refine Tr.seq ?_
      refine Tr.label ?_
      refine Tr.seq ?_
      have wp1 : IntKind.i64.wrap ((p : Int) + 1) = ((p + 1 : Nat) : Int) := by rw [wr (by omega) (by omega)]; rfl
      refine Tr.reg [1, 5, 6, 7, 31, 32] (by
          simp only [↓sxd, sxu, ↓zE, ↓exq, Nat.reduceBEq, Nat.reduceLT, wp1]
          (all_goals try exact zF)) ?_
      refine Tr.imp (st' := ⟨[(1, .ptr 0 0 0), (5, I p), (6, SI (nats [])), (7, B false), (31, I (p + 1 : Nat)), (32, I 0)], [(0, .arr 7 [cs c (SP c.same) (SP c.apart)])], 1, 67, [], 0⟩) (Imp.go (fun i => i) _ rfl rfl (List.Sublist.refl _) (fun _ _ => rfl) (fun _ h => h) (.cons rfl (TnS.ptr rfl) (.cons rfl (TnS.d _) (.cons rfl (TnS.dxd _) (.cons rfl (TnS.d _) (.cons rfl (TnS.d _) (.cons rfl (TnS.d _) trivial)))))) zT (fun _ => rfl)) (Tr.block (Tr.loopI (fun mm ss => ∃ (k : Nat), (k ≤ p + 1 ∧ ∀ j < k, c.dropOf p j (2 ^ p) = none) ∧ p + 1 - k = mm ∧ ss = ⟨[(1, .ptr 0 0 0), (5, I p), (6, SI (nats [])), (7, B false), (31, I (p + 1 : Nat)), (32, I k)], [(0, .arr 7 [cs c (SP c.same) (SP c.apart)])], 1, 67, [], 0⟩) _ ⟨0, ?_, rfl, rfl⟩ ?_))
      · exact ⟨Nat.zero_le _, fun j hj => absurd hj (Nat.not_lt_zero _)⟩
      rintro mm ss ⟨k, hI, rfl, rfl⟩
      obtain ⟨hI, hno⟩ := hI
      refine Tr.reg [1, 5, 6, 7, 31, 32, 33] (by
          simp only [↓sxd, sxu, ↓zE, ↓exq, Nat.reduceBEq, Nat.reduceLT, sxe]
          (all_goals try exact zF)) ?_
      refine Tr.seq ?_
      refine Tr.cond rfl (fun h33 => ?_) (fun h33 => ?_)
      · have hlt : k < p + 1 := by simp at h33; omega
        refine Tr.skip ?_
        refine Tr.seq ?_
        refine Tr.block ?_
        refine Tr.reg [1, 5, 6, 7, 8, 31, 32] (by
            simp only [↓sxd, sxu, ↓zE, ↓exq, Nat.reduceBEq, Nat.reduceLT]
            (all_goals try exact zF)) ?_
        refine Tr.seq ?_
        refine Tr.reg [1, 5, 6, 7, 8, 31, 32, 36, 37] (by
            simp only [↓sxd, sxu, ↓zE, ↓exq, Nat.reduceBEq, Nat.reduceLT, sxe, shl_u (show p < 64 by omega)]
            (all_goals try exact zF)) ?_
        refine Tr.imp (st' := ⟨[(1, .ptr 0 0 0), (5, I p), (6, SI (nats (none.getD []))), (7, B none.isSome), (8, I k), (31, I (p + 1 : Nat)), (32, I k), (36, U (2 ^ p : Nat)), (37, U 0)], [(0, .arr 7 [cs c (SP c.same) (SP c.apart)])], 1, 67, [], 0⟩) (Imp.keepAll) (Tr.block (Tr.loopI (fun mm ss => ∃ (s : Nat) (o : Option (List Nat)), (s ≤ 2 ^ p ∧ o = c.dropOf p k s) ∧ 2 ^ p - s = mm ∧ ss = ⟨[(1, .ptr 0 0 0), (5, I p), (6, SI (nats (o.getD []))), (7, B o.isSome), (8, I k), (31, I (p + 1 : Nat)), (32, I k), (36, U (2 ^ p : Nat)), (37, U s)], [(0, .arr 7 [cs c (SP c.same) (SP c.apart)])], 1, 67, [], 0⟩) _ ⟨0, none, ?_, rfl, rfl⟩ ?_))
        · exact ⟨Nat.zero_le _, rfl⟩
        rintro mm ss ⟨s, o, hI, rfl, rfl⟩
        obtain ⟨hI2, ho⟩ := hI
        refine Tr.reg [1, 5, 6, 7, 8, 31, 32, 36, 37, 38] (by
            simp only [↓sxd, sxu, ↓zE, ↓exq, Nat.reduceBEq, Nat.reduceLT, sxe]
            (all_goals try exact zF)) ?_
        refine Tr.seq ?_
        refine Tr.cond rfl (fun h38 => ?_) (fun h38 => ?_)
        · have hlt2 : s < 2 ^ p := by simpa using h38
          refine Tr.skip ?_
          refine Tr.seq ?_
          refine Tr.block ?_
          refine Tr.reg [1, 5, 6, 7, 8, 9, 31, 32, 36, 37] (by
              simp only [↓sxd, sxu, ↓zE, ↓exq, Nat.reduceBEq, Nat.reduceLT]
              (all_goals try exact zF)) ?_
          refine Tr.reg [1, 5, 6, 7, 8, 9, 10, 31, 32, 36, 37] (by
              simp only [↓sxd, sxu, ↓zE, ↓exq, Nat.reduceBEq, Nat.reduceLT]
              (repeat ((with_reducible refine And.intro ?_ ?_); (focus (exact zS))))
              refine CallO.use (list_c s (by omega)) ?_
              try simp only [↓sxd, sxu, ↓zE, ↓exq, Nat.reduceBEq, Nat.reduceLT]
              (all_goals try exact zF)) ?_
          refine Tr.seq ?_
          have hl1 : (nats (elems s)).length < 4611686018427387904 := by have := elems_len s; rw [nats_len]; omega
          have hl2 : (nats (o.getD [])).length < 4611686018427387904 := by have := ho ▸ dropOf_len c p k s; rw [nats_len]; omega
          refine Tr.reg [1, 5, 6, 7, 8, 10, 31, 32, 36, 37, 61] (by
              simp only [↓sxd, sxu, ↓zE, ↓exq, ↓zB, ↓zJ, Nat.reduceBEq, Nat.reduceLT, sxe, zW, nats_len]
              (repeat ((with_reducible refine And.intro ?_ ?_); (focus (exact zS))))
              refine GdO.mk _ (fun hg => by simp only [sxu, ↓exq, Nat.reduceBEq]; (all_goals try exact zF)) ?_
              simp only [↓sxd, sxu, ↓zE, Nat.reduceBEq, Nat.reduceLT]
              (repeat ((with_reducible refine And.intro ?_ ?_); (focus (exact zS))))
              refine GdO.mk _ (fun hg => by simp only [sxu, ↓exq, hg]; (all_goals try exact zF)) ?_
              simp only [↓sxd, sxu, ↓zE, Nat.reduceLT]
              (repeat ((with_reducible refine And.intro ?_ ?_); (focus (exact zS))))
              refine GdO.mk _ (fun hg => by simp only [sxu, ↓exq, Nat.reduceBEq]; (all_goals try exact zF)) ?_
              simp only [↓sxd, sxu, ↓zE, Nat.reduceBEq, Nat.reduceLT]
              (repeat ((with_reducible refine And.intro ?_ ?_); (focus (exact zS))))
              refine GdO.mk _ (fun hg => by simp only [sxu, ↓exq, Nat.reduceBEq, hg]; (all_goals try exact zF)) ?_
              simp only [↓sxd, sxu, ↓zE, Nat.reduceBEq, Nat.reduceLT]
              (repeat ((with_reducible refine And.intro ?_ ?_); (focus (exact zS))))
              refine GdO.mk _ (fun hg => by simp only [sxu, ↓exq, ↓zB, Nat.reduceBEq, hg]; (repeat ((with_reducible refine And.intro ?_ ?_); (focus (exact zS)))); exact CallP.use (Compare_c _ _ hl1 hl2) ⟨rfl, rfl, rfl⟩) ?_
              simp only [↓sxd, sxu, ↓zE, Nat.reduceBEq, Nat.reduceLT]
              (repeat ((with_reducible refine And.intro ?_ ?_); (focus (exact zS))))
              refine GdO.mk _ (fun hg => by simp only [↓sxd, sxu, ↓exq, hg]; (all_goals try exact zF)) ?_
              simp only [↓sxd, sxu, ↓zE, Nat.reduceBEq, Nat.reduceLT]
              (repeat ((with_reducible refine And.intro ?_ ?_); (focus (exact zS))))
              refine GdO.mk (B (o.isSome && decide (cmpL (nats (elems s)) (nats (o.getD [])) > 0))) (fun hg => by
                simp only [sxu, ↓exq, ↓zH, Nat.reduceBEq, hg]
                (repeat ((with_reducible refine And.intro ?_ ?_); (focus (exact zS))))
                cases hos : o.isSome <;> simp) ?_
              try simp only [↓sxd, sxu, ↓zE, ↓exq, ↓zH, Nat.reduceBEq, Nat.reduceLT]
              (repeat ((with_reducible refine And.intro ?_ ?_); (focus (exact zS))))
              refine GdO.mk _ (fun hg => by simp only [sxu, ↓exq, ↓zD, Nat.reduceBEq, Nat.reduceAdd, Nat.reduceLT, zW]; (all_goals try exact zF)) ?_
              simp only [↓sxd, sxu, ↓zE, Nat.reduceBEq, Nat.reduceLT]
              (repeat ((with_reducible refine And.intro ?_ ?_); (focus (exact zS))))
              refine GdO.mk _ (fun hg => by simp only [sxu, ↓exq, Nat.reduceBEq, hg]; (all_goals try exact zF)) ?_
              simp only [↓sxd, sxu, ↓zE, Nat.reduceBEq, Nat.reduceLT]
              (repeat ((with_reducible refine And.intro ?_ ?_); (focus (exact zS))))
              refine GdO.mk _ (fun hg => by simp only [sxu, ↓exq, ↓zB, Nat.reduceBEq, hg]; (repeat ((with_reducible refine And.intro ?_ ?_); (focus (exact zS)))); exact CallP.use (without_c c s (by omega) (by omega) (by omega)) ⟨rfl, rfl, rfl⟩) ?_
              simp only [↓sxd, sxu, ↓zE, Nat.reduceBEq, Nat.reduceLT]
              (repeat ((with_reducible refine And.intro ?_ ?_); (focus (exact zS))))
              refine GdO.mk _ (fun hg => by simp only [sxu, ↓exq, ↓zB, hg]; (repeat ((with_reducible refine And.intro ?_ ?_); (focus (exact zS)))); exact CallP.use (consistent_c _ (hR.without _)) ⟨rfl, rfl, rfl⟩) ?_
              simp only [↓sxd, sxu, ↓zE, Nat.reduceBEq, Nat.reduceLT]
              (repeat ((with_reducible refine And.intro ?_ ?_); (focus (exact zS))))
              refine GdO.mk _ (fun hg => by simp only [sxu, ↓exq, ↓zL, hg]; (all_goals try exact zF)) ?_
              simp only [↓sxd, sxu, ↓zE, ↓exq, ↓zH, Nat.reduceBEq, Nat.reduceLT]
              (all_goals try exact zF)) ?_
          refine Tr.cond rfl (fun h61 => ?_) (fun h61 => ?_)
          · have hd : c.dropStep k o s = o := if_pos (drop_t h61)
            refine Tr.exit ?_
            have w1 : IntKind.u64.wrap ((s : Int) + 1) = ((s + 1 : Nat) : Int) := by rw [wu (by omega) (by omega)]; rfl
            refine Tr.reg1 [1, 5, 6, 7, 8, 31, 32, 36, 37] (by
                simp only [↓sxd, sxu, ↓zE, ↓exq, Nat.reduceBEq, Nat.reduceLT, w1]
                (all_goals try exact zF)) ?_
            first |(exact ⟨_, _, by omega, Imp.keepAll, ⟨s + 1, o, ⟨hlt2, by rw [dropOf_succ, ← ho, hd]⟩, rfl, rfl⟩⟩) |(exact ⟨_, _, by omega, Imp.keepAll, ⟨s + 1, some (elems s), ⟨hlt2, by rw [dropOf_succ, ← ho, hd]⟩, rfl, rfl⟩⟩)
          · have hd : c.dropStep k o s = some (elems s) := if_neg (drop_f h61)
            refine Tr.skip ?_
            refine Tr.reg1 [1, 5, 6, 7, 8, 31, 32, 36, 37] (by
                simp only [↓sxd, sxu, ↓zE, ↓exq, Nat.reduceBEq, Nat.reduceLT]
                (all_goals try exact zF)) ?_
            have w1 : IntKind.u64.wrap ((s : Int) + 1) = ((s + 1 : Nat) : Int) := by rw [wu (by omega) (by omega)]; rfl
            refine Tr.reg1 [1, 5, 6, 7, 8, 31, 32, 36, 37] (by
                simp only [↓sxd, sxu, ↓zE, ↓exq, Nat.reduceBEq, Nat.reduceLT, w1]
                (all_goals try exact zF)) ?_
            first |(exact ⟨_, _, by omega, Imp.keepAll, ⟨s + 1, o, ⟨hlt2, by rw [dropOf_succ, ← ho, hd]⟩, rfl, rfl⟩⟩) |(exact ⟨_, _, by omega, Imp.keepAll, ⟨s + 1, some (elems s), ⟨hlt2, by rw [dropOf_succ, ← ho, hd]⟩, rfl, rfl⟩⟩)
        · have hge2 : s = 2 ^ p := by simp at h38; omega
          refine Tr.exit ?_
          refine Tr.reg [1, 5, 6, 7, 31, 32, 64] (by
              simp only [↓sxd, sxu, ↓zE, ↓exq, Nat.reduceBEq, Nat.reduceLT]
              (all_goals try exact zF)) ?_
          refine Tr.cond rfl (fun h64 => ?_) (fun h64 => ?_)
          · have hdl : c.dropL = o.getD [] := by
              have hsm : o.isSome = true := h64
              obtain ⟨l, hl⟩ := Option.isSome_iff_exists.1 hsm
              subst hl
              subst hge2
              unfold Census.dropL
              simp only [Census.pairs, ← hp]
              rw [fs_some hno ho.symm hlt]
            rw [hdl]
            refine Tr.exit ?_
            refine Tr.reg [2, 3] (by
                simp only [↓sxd, sxu, ↓zE, ↓exq, Nat.reduceBEq, Nat.reduceLT]
                (all_goals try exact zF)) ?_
            refine Tr.ret ?_
            refine ⟨fun _ hc => (by cases hc), ?_⟩
            (refine ⟨.inr rfl, ?_⟩; first | rfl | exact ⟨rfl, rfl, trivial⟩ | exact ⟨rfl, rfl, rfl, trivial⟩ | (simp only [Res, ResL, ResOK, ↓sxd, sxu, ↓zE, ↓zC, zK, ↓exP, ↓exq, ↓zB, ↓zH, ↓zL, ↓zJ, ↓zD, ↓zI, ↓zA, Nat.reduceBEq, Nat.reduceAdd, Nat.reduceLT, Nat.reduceMul, Nat.reduceSub, Nat.reduceLeDiff, Nat.reduceEqDiff, Int.reduceLE, Int.reduceLT, Int.reduceToNat, reduceIte, sxe, zW]; (repeat' (first | rfl | exact trivial | exact fun h => h | exact fun h => (by rw [h]; rfl) | apply And.intro | omega | exact Nat.le_of_ble_eq_true rfl))))
          · have hz : o = none := by simpa using h64
            subst hz
            subst hge2
            refine Tr.skip ?_
            have w1 : IntKind.i64.wrap ((k : Int) + 1) = ((k + 1 : Nat) : Int) := by rw [wr (by omega) (by omega)]; rfl
            refine Tr.reg1 [1, 5, 6, 7, 31, 32] (by
                simp only [↓sxd, sxu, ↓zE, ↓exq, Nat.reduceBEq, Nat.reduceLT, w1]
                (all_goals try exact zF)) ?_
            exact ⟨_, _, by omega, Imp.keepAll, ⟨k + 1, ⟨hlt, fun j hj => by
              by_cases hjk : j = k
              · subst hjk; exact ho.symm
              · exact hno j (by omega)⟩, rfl, rfl⟩⟩
      · have hge : k = p + 1 := by simp at h33; omega
        have hdl : c.dropL = [] := by
          unfold Census.dropL
          simp only [Census.pairs, ← hp]
          rw [fs_none (fun j hj => hno j (by omega))]; rfl
        rw [hdl]
        refine Tr.exit ?_
        refine Tr.reg [2, 3] (by
            simp only [↓sxd, sxu, ↓zE, ↓exq, Nat.reduceBEq, Nat.reduceLT]
            (all_goals try exact zF)) ?_
        refine Tr.ret ?_
        refine ⟨fun _ hc => (by cases hc), ?_⟩
        (refine ⟨.inr rfl, ?_⟩; first | rfl | exact ⟨rfl, rfl, trivial⟩ | exact ⟨rfl, rfl, rfl, trivial⟩ | (simp only [Res, ResL, ResOK, ↓sxd, sxu, ↓zE, ↓zC, zK, ↓exP, ↓exq, ↓zB, ↓zH, ↓zL, ↓zJ, ↓zD, ↓zI, ↓zA, Nat.reduceBEq, Nat.reduceAdd, Nat.reduceLT, Nat.reduceMul, Nat.reduceSub, Nat.reduceLeDiff, Nat.reduceEqDiff, Int.reduceLE, Int.reduceLT, Int.reduceToNat, reduceIte, sxe, zW]; (repeat' (first | rfl | exact trivial | exact fun h => h | exact fun h => (by rw [h]; rfl) | apply And.intro | omega | exact Nat.le_of_ble_eq_true rfl))))
end Go.Proofs.YtcnkbdfkjhlbiaaDoor
