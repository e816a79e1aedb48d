/- Lemmas, part XPZ. Conditions: none. -/
import Derived.Test.YtcnkbdfkjhlbiaaDoorXPY
set_option linter.unusedVariables false
namespace Go.Proofs.YtcnkbdfkjhlbiaaDoor
open Go.Sy
set_option maxRecDepth 8000
theorem nat_beq (x y : Nat) : ((x : Int) == (y : Int)) = (x == y) := by
  rw [Bool.eq_iff_iff, beq_iff_eq, beq_iff_eq]; omega
theorem nat_bne (x y : Nat) : ((x : Int) != (y : Int)) = (x != y) := by unfold bne; rw [nat_beq]
theorem Fine.ages {c : Census} (h : Fine c) {i : Nat} (hi : i < c.entries.length) : 0 ≤ (c.entries.getD i default).ages.lo ∧ (c.entries.getD i default).ages.lo ≤ (c.entries.getD i default).ages.hi ∧ (c.entries.getD i default).ages.hi ≤ 120 := by
  have := h.ents _ (getD_mem (d := default) hi)
  unfold Entry.valid at this
  rw [Bool.and_eq_true] at this
  exact rvalid_iff.1 this.2
def Census.cell (c : Census) (v : List Nat) (i k : Nat) : Bool := !(v.getD i 0 == v.getD k 0) || (c.entry i).fits (c.entry k)
def Census.rowA (c : Census) (v : List Nat) (i : Nat) : Bool := (List.range i).all (c.cell v i)
theorem allow_parts (c : Census) (v : List Nat) : c.allowB v = ((List.range v.length).all (c.rowA v) && (c.same.all fun p => v.getD p.fst.toNat 0 == v.getD p.snd.toNat 0) && (c.apart.all fun p => v.getD p.fst.toNat 0 != v.getD p.snd.toNat 0)) := rfl
theorem all_getD {l : List Pair} {f : Pair → Bool} (h : ∀ j, j < l.length → f (l.getD j default) = true) : l.all f = true := by
  rw [List.all_eq_true]
  intro x hx
  obtain ⟨j, hj, rfl⟩ := List.getElem_of_mem hx
  have := h j hj
  simpa [List.getD_eq_getElem?_getD, hj] using this
theorem all_getF {l : List Pair} {f : Pair → Bool} {j : Nat} (hj : j < l.length) (h : f (l.getD j default) = false) : l.all f = false := by
  rw [← Bool.not_eq_true, List.all_eq_true]
  intro h2
  rw [h2 _ (getD_mem hj)] at h; cases h
theorem all_range {n : Nat} {f : Nat → Bool} (h : ∀ j, j < n → f j = true) : (List.range n).all f = true := by
  rw [List.all_eq_true]; exact fun x hx => h x (List.mem_range.1 hx)
abbrev z9 := And.intro ty.sz0 <| And.intro ty.agg0 <| And.intro ty.elem0 <| And.intro ty.sz3 <| And.intro ty.agg3 <| And.intro ty.elem3 <| And.intro ty.zero3 <| And.intro ty.und3 <| And.intro ty.sz4 <| And.intro ty.agg4 <| And.intro ty.elem4 <| And.intro ty.zero4 <| And.intro ty.und4 <| And.intro ty.sz22 <| And.intro ty.agg22 <| And.intro ty.elem22 <| And.intro ty.by22 <| And.intro ty.ez22 <| And.intro ty.zero22 <| And.intro ty.und22 <| And.intro ty.sz23 <| And.intro ty.agg23 <| And.intro ty.elem23 <| And.intro ty.by23 <| And.intro ty.ez23 <| And.intro ty.zero23 <| And.intro ty.und23 <| And.intro ty.sz27 <| And.intro ty.agg27 <| And.intro ty.fld27_0 <| And.intro ty.fld27_1 <| And.intro ty.fld27_2 <| And.intro ty.fld27_3 <| And.intro ty.fld27_4 <| And.intro ty.elem27 <| And.intro ty.zero27 <| And.intro ty.pl27 <| And.intro ty.sz43 <| And.intro ty.agg43 <| And.intro ty.elem43 <| And.intro ty.by43 <| And.intro ty.ez43 <| And.intro ty.zero43 <| And.intro ty.und43 <| And.intro ty.sz71 <| And.intro ty.agg71 <| And.intro ty.fld71_0 <| And.intro ty.fld71_1 <| And.intro ty.fld71_2 <| And.intro ty.fld71_3 <| And.intro ty.elem71 <| And.intro ty.zero71 <| And.intro ty.pl71 <| And.intro ty.sz73 <| And.intro ty.agg73 <| And.intro ty.fld73_0 <| And.intro ty.fld73_1 <| And.intro ty.elem73 <| And.intro ty.zero73 <| ty.pl73
set_option maxHeartbeats 1000000 in
theorem Allowed_c (c : Census) (h : Fine c) (v : List Nat) (hv : v.length = c.entries.length) : CallP Tryd.prog G0 70 [c.s, SI (nats v)] (B (c.allowB v)) := by
  have h10 := h.n10
  have hs6 := h.s6
  have ha6 := h.a6
  rw [allow_parts]
  refine CallP.body 95 [.tmp 4] Tryd.func70 (by kernel_rfl) rfl rfl rfl zP zP ?_
  refine Tr.reg [1, 2] (by
      simp only [↓sxd, sxu, ↓zE, ↓exq, ↓zI, Nat.reduceBEq, Nat.reduceAdd, Nat.reduceLT, Nat.reduceEqDiff]
      (all_goals try exact zF)) ?_
  refine Tr.seq ?_
  refine Tr.reg [1, 2, 5] (by
      simp only [↓sxd, sxu, ↓zE, ↓exq, Nat.reduceBEq, Nat.reduceLT]
      (all_goals try exact zF)) ?_
  refine Tr.imp (st' := ⟨[(1, SI (nats v)), (2, .ptr 0 0 0), (5, I 0)], [(0, .arr 7 [[SE c.entries, SP c.same, SP c.apart, I c.omitted.lo, I c.omitted.hi, I c.number.lo, I c.number.hi]])], 1, 95, [], 0⟩) (Imp.keepAll) (Tr.block (Tr.loopI (fun mm ss => ∃ (i : Nat), (i ≤ v.length ∧ ∀ j, j < i → c.rowA v j = true) ∧ v.length - i = mm ∧ ss = ⟨[(1, SI (nats v)), (2, .ptr 0 0 0), (5, I i)], [(0, .arr 7 [[SE c.entries, SP c.same, SP c.apart, I c.omitted.lo, I c.omitted.hi, I c.number.lo, I c.number.hi]])], 1, 95, [], 0⟩) _ ⟨0, ?_, rfl, rfl⟩ ?_))
  · exact ⟨Nat.zero_le _, fun j hj => absurd hj (Nat.not_lt_zero _)⟩
  rintro mm ss ⟨i, hI, rfl, rfl⟩
  obtain ⟨hI, hrows⟩ := hI
  refine Tr.seq ?_
  refine Tr.reg [1, 2, 5, 12] (by
      simp only [↓sxd, sxu, ↓zE, ↓exq, ↓zB, ↓zJ, Nat.reduceBEq, Nat.reduceLT, sxe, z9]
      (all_goals try exact zF)) ?_
  refine Tr.cond rfl (fun h12 => ?_) (fun h12 => ?_)
  · have hlt : i < v.length := by simp [nats_len] at h12; omega
    have hie : i < c.entries.length := by omega
    obtain ⟨g0, g1, g2⟩ := h.ages hie
    refine Tr.skip ?_
    refine Tr.seq ?_
    refine Tr.block ?_
    refine Tr.reg [1, 2, 5, 6] (by
        simp only [↓sxd, sxu, ↓zE, ↓exq, Nat.reduceBEq, Nat.reduceLT]
        (all_goals try exact zF)) ?_
    refine Tr.imp (st' := ⟨[(1, SI (nats v)), (2, .ptr 0 0 0), (5, I i), (6, I 0)], [(0, .arr 7 [[SE c.entries, SP c.same, SP c.apart, I c.omitted.lo, I c.omitted.hi, I c.number.lo, I c.number.hi]])], 1, 95, [], 0⟩) (Imp.keepAll) (Tr.block (Tr.loopI (fun mm ss => ∃ (k : Nat), (k ≤ i ∧ ∀ j, j < k → c.cell v i j = true) ∧ i - k = mm ∧ ss = ⟨[(1, SI (nats v)), (2, .ptr 0 0 0), (5, I i), (6, I k)], [(0, .arr 7 [[SE c.entries, SP c.same, SP c.apart, I c.omitted.lo, I c.omitted.hi, I c.number.lo, I c.number.hi]])], 1, 95, [], 0⟩) _ ⟨0, ?_, rfl, rfl⟩ ?_))
    · exact ⟨Nat.zero_le _, fun j hj => absurd hj (Nat.not_lt_zero _)⟩
    rintro mm ss ⟨k, hI, rfl, rfl⟩
    obtain ⟨hK, hcells⟩ := hI
    refine Tr.seq ?_
    refine Tr.reg [1, 2, 5, 6, 17] (by
        simp only [↓sxd, sxu, ↓zE, ↓exq, Nat.reduceBEq, Nat.reduceLT, sxe]
        (all_goals try exact zF)) ?_
    refine Tr.cond rfl (fun h17 => ?_) (fun h17 => ?_)
    · have hki : k < i := by simpa using h17
      have hkv : k < v.length := by omega
      have hke : k < c.entries.length := by omega
      refine Tr.skip ?_
      refine Tr.seq ?_
      refine Tr.block ?_
      refine Tr.regD [0, 1, 2, 3, 4, 5, 6, 7, 8, 9, 10, 11, 12, 13, 14, 15, 16, 17, 18, 19, 20, 21, 22] [] [] [1, 2, 5, 6, 42] mix (by kernel_rfl) (by
          simp only [↓sxd, sxu, ↓zC, zK, ↓exq, ↓zD, Nat.reduceBEq, Nat.reduceLT, sxe, z9, nats_len, nats_get, hlt, hkv, nat_beq]
          iterate 10
            (repeat ((with_reducible refine And.intro ?_ ?_); (focus (exact zS))))
            refine GdD.mk _ (fun hg => by simp only [↓sxd, sxu, ↓exP, ↓exq, ↓zD, ↓zA, Nat.reduceBEq, Nat.reduceAdd, Nat.reduceLT, Nat.reduceEqDiff, sxe, z9, hie, hke, hg]; (all_goals try exact zF)) ?_
            simp only [↓sxd, sxu, ↓zC, zK, Nat.reduceBEq, Nat.reduceLT]
          (repeat ((with_reducible refine And.intro ?_ ?_); (focus (exact zS))))
          refine GdD.mk _ (fun hg => by simp only [sxu, ↓exP, Nat.reduceBEq, hg]; first | exact rFits_c (c.entries.getD i default) (c.entries.getD k default) g0 g1 g2 | exact ⟨rFits_c (c.entries.getD i default) (c.entries.getD k default) g0 g1 g2, rfl, rfl⟩ | exact ⟨rFits_c (c.entries.getD i default) (c.entries.getD k default) g0 g1 g2, trivial⟩ | exact ⟨rFits_c (c.entries.getD i default) (c.entries.getD k default) g0 g1 g2, trivial, trivial⟩) ?_
          simp only [↓sxd, sxu, ↓zC, zK, Nat.reduceBEq, Nat.reduceLT]
          (repeat ((with_reducible refine And.intro ?_ ?_); (focus (exact zS))))
          refine GdD.mk _ (fun hg => by simp only [sxu, ↓exP, ↓exq, ↓zL, hg]; (all_goals try exact zF)) ?_
          simp only [↓sxd, sxu, ↓zC, ↓exq, ↓zH, Nat.reduceBEq, Nat.reduceLT]
          (all_goals try exact zF)) ?_
      refine Tr.cond rfl (fun h42 => ?_) (fun h42 => ?_)
      · have hc : c.cell v i k = false := by
          unfold Census.cell Census.entry
          have : _ := h42
          revert this
          cases (v.getD i 0 == v.getD k 0) <;> cases (c.entries.getD i default).fits (c.entries.getD k default) <;> simp
        have hrow : c.rowA v i = false := all_upto hki hc
        have hR : (List.range v.length).all (c.rowA v) = false := all_upto hlt hrow
        rw [hR]
        refine Tr.reg [4] (by
            simp only [↓sxd, sxu, ↓zE, ↓exq, Nat.reduceLT]
            (all_goals try exact zF)) ?_
        refine Tr.ret ?_
        (refine ⟨.inr rfl, ?_⟩; first | rfl | exact ⟨rfl, rfl, trivial⟩ | exact ⟨rfl, rfl, rfl, trivial⟩ | (simp only [Res, ResL, ResOK, ↓sxd, sxu, ↓zE, ↓zC, zK, ↓exP, ↓exq, ↓zB, ↓zH, ↓zL, ↓zJ, ↓zD, ↓zI, ↓zA, Nat.reduceBEq, Nat.reduceAdd, Nat.reduceLT, Nat.reduceMul, Nat.reduceSub, Nat.reduceLeDiff, Nat.reduceEqDiff, Int.reduceLE, Int.reduceLT, Int.reduceToNat, reduceIte, sxe, z9]; (repeat' (first | rfl | exact trivial | exact fun h => h | exact fun h => (by rw [h]; rfl) | apply And.intro | omega | exact Nat.le_of_ble_eq_true rfl))))
      · have hc : c.cell v i k = true := by
          unfold Census.cell Census.entry
          have : _ := h42
          revert this
          cases (v.getD i 0 == v.getD k 0) <;> cases (c.entries.getD i default).fits (c.entries.getD k default) <;> simp
        refine Tr.skip ?_
        have w1 : IntKind.i64.wrap ((k : Int) + 1) = ((k + 1 : Nat) : Int) := by rw [wr (by omega) (by omega)]; rfl
        refine Tr.reg1 [1, 2, 5, 6] (by
            simp only [↓sxd, sxu, ↓zE, ↓exq, Nat.reduceBEq, Nat.reduceLT, w1]
            (all_goals try exact zF)) ?_
        exact ⟨_, _, by omega, Imp.keepAll, ⟨k + 1, ⟨hki, fun j hj => by
          by_cases hjk : j = k
          · subst hjk; exact hc
          · exact hcells j (by omega)⟩, rfl, rfl⟩⟩
    · have hkge : k = i := by simp at h17; omega
      have hrow : c.rowA v i = true := all_range (fun j hj => hcells j (by omega))
      refine Tr.exit ?_
      have w1 : IntKind.i64.wrap ((i : Int) + 1) = ((i + 1 : Nat) : Int) := by rw [wr (by omega) (by omega)]; rfl
      refine Tr.reg1 [1, 2, 5] (by
          simp only [↓sxd, sxu, ↓zE, ↓exq, Nat.reduceBEq, Nat.reduceLT, w1]
          (all_goals try exact zF)) ?_
      exact ⟨_, _, by omega, Imp.keepAll, ⟨i + 1, ⟨hlt, fun j hj => by
        by_cases hji : j = i
        · subst hji; exact hrow
        · exact hrows j (by omega)⟩, rfl, rfl⟩⟩
  · have hge : i = v.length := by simp [nats_len] at h12; omega
    have hR : (List.range v.length).all (c.rowA v) = true := all_range (by rw [← hge]; exact hrows)
    rw [hR]
    refine Tr.exit ?_
    refine Tr.seq ?_
    refine Tr.reg [1, 2, 7] (by
        simp only [↓sxd, sxu, ↓zE, ↓exq, Nat.reduceBEq, Nat.reduceLT]
        (all_goals try exact zF)) ?_
    refine Tr.imp (st' := ⟨[(1, SI (nats v)), (2, .ptr 0 0 0), (7, I 0)], [(0, .arr 7 [[SE c.entries, SP c.same, SP c.apart, I c.omitted.lo, I c.omitted.hi, I c.number.lo, I c.number.hi]])], 1, 95, [], 0⟩) (Imp.keepAll) (Tr.block (Tr.loopI (fun mm ss => ∃ (a : Nat), (a ≤ c.same.length ∧ ∀ j, j < a → (v.getD (c.same.getD j default).fst.toNat 0 == v.getD (c.same.getD j default).snd.toNat 0) = true) ∧ c.same.length - a = mm ∧ ss = ⟨[(1, SI (nats v)), (2, .ptr 0 0 0), (7, I a)], [(0, .arr 7 [[SE c.entries, SP c.same, SP c.apart, I c.omitted.lo, I c.omitted.hi, I c.number.lo, I c.number.hi]])], 1, 95, [], 0⟩) _ ⟨0, ?_, rfl, rfl⟩ ?_))
    · exact ⟨Nat.zero_le _, fun j hj => absurd hj (Nat.not_lt_zero _)⟩
    rintro mm ss ⟨a, hI, rfl, rfl⟩
    obtain ⟨hA, hsame⟩ := hI
    refine Tr.seq ?_
    refine Tr.reg [1, 2, 7, 47] (by
        simp only [↓sxd, sxu, ↓zE, ↓exq, ↓zB, ↓zJ, ↓zD, ↓zA, Nat.reduceBEq, Nat.reduceAdd, Nat.reduceLT, Nat.reduceEqDiff, sxe, z9]
        (all_goals try exact zF)) ?_
    refine Tr.cond rfl (fun h47 => ?_) (fun h47 => ?_)
    · have hlt2 : a < c.same.length := by simpa using h47
      have hpr := pair_iff.1 (h.ps _ (getD_mem (d := default) hlt2))
      obtain ⟨x, hx⟩ := Int.eq_ofNat_of_zero_le hpr.1
      obtain ⟨y, hy⟩ := Int.eq_ofNat_of_zero_le hpr.2.2.1
      have hxl : x < v.length := by omega
      have hyl : y < v.length := by omega
      refine Tr.skip ?_
      refine Tr.seq ?_
      refine Tr.block ?_
      refine Tr.regD [0, 1, 2, 3, 4, 5, 6, 7, 8, 9, 10, 11, 12, 13, 14, 15, 16, 17, 18] [] [] [1, 2, 7, 68] mix (by kernel_rfl) (by
          simp only [↓sxd, sxu, ↓zC, zK, ↓exq, ↓zD, ↓zA, Nat.reduceBEq, Nat.reduceAdd, Nat.reduceLT, Nat.reduceEqDiff, sxe, z9, hlt2, hx, hy, nats_len, hxl, hyl, nats_get, nat_bne]
          (all_goals try exact zF)) ?_
      refine Tr.cond rfl (fun h68 => ?_) (fun h68 => ?_)
      · have hf : (c.same.all fun p => v.getD p.fst.toNat 0 == v.getD p.snd.toNat 0) = false := all_getF hlt2 (by
          rw [hx, hy]
          have : _ := h68
          simpa using this)
        rw [hf]
        refine Tr.reg [4] (by
            simp only [↓sxd, sxu, ↓zE, ↓exq, Nat.reduceLT]
            (all_goals try exact zF)) ?_
        refine Tr.ret ?_
        (refine ⟨.inr rfl, ?_⟩; first | rfl | exact ⟨rfl, rfl, trivial⟩ | exact ⟨rfl, rfl, rfl, trivial⟩ | (simp only [Res, ResL, ResOK, ↓sxd, sxu, ↓zE, ↓zC, zK, ↓exP, ↓exq, ↓zB, ↓zH, ↓zL, ↓zJ, ↓zD, ↓zI, ↓zA, Nat.reduceBEq, Nat.reduceAdd, Nat.reduceLT, Nat.reduceMul, Nat.reduceSub, Nat.reduceLeDiff, Nat.reduceEqDiff, Int.reduceLE, Int.reduceLT, Int.reduceToNat, reduceIte, sxe, z9]; (repeat' (first | rfl | exact trivial | exact fun h => h | exact fun h => (by rw [h]; rfl) | apply And.intro | omega | exact Nat.le_of_ble_eq_true rfl))))
      · have hok : (v.getD (c.same.getD a default).fst.toNat 0 == v.getD (c.same.getD a default).snd.toNat 0) = true := by
          rw [hx, hy]
          have : _ := h68
          simpa using this
        refine Tr.skip ?_
        have w1 : IntKind.i64.wrap ((a : Int) + 1) = ((a + 1 : Nat) : Int) := by rw [wr (by omega) (by omega)]; rfl
        refine Tr.reg1 [1, 2, 7] (by
            simp only [↓sxd, sxu, ↓zE, ↓exq, Nat.reduceBEq, Nat.reduceLT, w1]
            (all_goals try exact zF)) ?_
        exact ⟨_, _, by omega, Imp.keepAll, ⟨a + 1, ⟨hlt2, fun j hj => by
          by_cases hja : j = a
          · subst hja; exact hok
          · exact hsame j (by omega)⟩, rfl, rfl⟩⟩
    · have hge2 : a = c.same.length := by simp at h47; omega
      have hS : (c.same.all fun p => v.getD p.fst.toNat 0 == v.getD p.snd.toNat 0) = true := all_getD (by rw [← hge2]; exact hsame)
      rw [hS]
      refine Tr.exit ?_
      refine Tr.seq ?_
      refine Tr.reg [1, 2, 8] (by
          simp only [↓sxd, sxu, ↓zE, ↓exq, Nat.reduceBEq, Nat.reduceLT]
          (all_goals try exact zF)) ?_
      refine Tr.imp (st' := ⟨[(1, SI (nats v)), (2, .ptr 0 0 0), (8, I 0)], [(0, .arr 7 [[SE c.entries, SP c.same, SP c.apart, I c.omitted.lo, I c.omitted.hi, I c.number.lo, I c.number.hi]])], 1, 95, [], 0⟩) (Imp.keepAll) (Tr.block (Tr.loopI (fun mm ss => ∃ (b : Nat), (b ≤ c.apart.length ∧ ∀ j, j < b → (v.getD (c.apart.getD j default).fst.toNat 0 != v.getD (c.apart.getD j default).snd.toNat 0) = true) ∧ c.apart.length - b = mm ∧ ss = ⟨[(1, SI (nats v)), (2, .ptr 0 0 0), (8, I b)], [(0, .arr 7 [[SE c.entries, SP c.same, SP c.apart, I c.omitted.lo, I c.omitted.hi, I c.number.lo, I c.number.hi]])], 1, 95, [], 0⟩) _ ⟨0, ?_, rfl, rfl⟩ ?_))
      · exact ⟨Nat.zero_le _, fun j hj => absurd hj (Nat.not_lt_zero _)⟩
      rintro mm ss ⟨b, hI, rfl, rfl⟩
      obtain ⟨hB, hap⟩ := hI
      refine Tr.seq ?_
      refine Tr.reg [1, 2, 8, 73] (by
          simp only [↓sxd, sxu, ↓zE, ↓exq, ↓zB, ↓zJ, ↓zD, ↓zA, Nat.reduceBEq, Nat.reduceAdd, Nat.reduceLT, Nat.reduceEqDiff, sxe, z9]
          (all_goals try exact zF)) ?_
      refine Tr.cond rfl (fun h73 => ?_) (fun h73 => ?_)
      · have hlt3 : b < c.apart.length := by simpa using h73
        have hpr := pair_iff.1 (h.pa _ (getD_mem (d := default) hlt3))
        obtain ⟨x, hx⟩ := Int.eq_ofNat_of_zero_le hpr.1
        obtain ⟨y, hy⟩ := Int.eq_ofNat_of_zero_le hpr.2.2.1
        have hxl : x < v.length := by omega
        have hyl : y < v.length := by omega
        refine Tr.skip ?_
        refine Tr.seq ?_
        refine Tr.block ?_
        refine Tr.regD [0, 1, 2, 3, 4, 5, 6, 7, 8, 9, 10, 11, 12, 13, 14, 15, 16, 17, 18] [] [] [1, 2, 8, 94] mix (by kernel_rfl) (by
            simp only [↓sxd, sxu, ↓zC, zK, ↓exq, ↓zD, ↓zA, Nat.reduceBEq, Nat.reduceAdd, Nat.reduceLT, Nat.reduceEqDiff, sxe, z9, hlt3, hx, hy, nats_len, hxl, hyl, nats_get, nat_beq]
            (all_goals try exact zF)) ?_
        refine Tr.cond rfl (fun h94 => ?_) (fun h94 => ?_)
        · have hf : (c.apart.all fun p => v.getD p.fst.toNat 0 != v.getD p.snd.toNat 0) = false := all_getF hlt3 (by
            rw [hx, hy]
            have : _ := h94
            simpa using this)
          rw [hf]
          refine Tr.reg [4] (by
              simp only [↓sxd, sxu, ↓zE, ↓exq, Nat.reduceLT]
              (all_goals try exact zF)) ?_
          refine Tr.ret ?_
          (refine ⟨.inr rfl, ?_⟩; first | rfl | exact ⟨rfl, rfl, trivial⟩ | exact ⟨rfl, rfl, rfl, trivial⟩ | (simp only [Res, ResL, ResOK, ↓sxd, sxu, ↓zE, ↓zC, zK, ↓exP, ↓exq, ↓zB, ↓zH, ↓zL, ↓zJ, ↓zD, ↓zI, ↓zA, Nat.reduceBEq, Nat.reduceAdd, Nat.reduceLT, Nat.reduceMul, Nat.reduceSub, Nat.reduceLeDiff, Nat.reduceEqDiff, Int.reduceLE, Int.reduceLT, Int.reduceToNat, reduceIte, sxe, z9]; (repeat' (first | rfl | exact trivial | exact fun h => h | exact fun h => (by rw [h]; rfl) | apply And.intro | omega | exact Nat.le_of_ble_eq_true rfl))))
        · have hok : (v.getD (c.apart.getD b default).fst.toNat 0 != v.getD (c.apart.getD b default).snd.toNat 0) = true := by
            rw [hx, hy]
            have : _ := h94
            simpa using this
          refine Tr.skip ?_
          have w1 : IntKind.i64.wrap ((b : Int) + 1) = ((b + 1 : Nat) : Int) := by rw [wr (by omega) (by omega)]; rfl
          refine Tr.reg1 [1, 2, 8] (by
              simp only [↓sxd, sxu, ↓zE, ↓exq, Nat.reduceBEq, Nat.reduceLT, w1]
              (all_goals try exact zF)) ?_
          exact ⟨_, _, by omega, Imp.keepAll, ⟨b + 1, ⟨hlt3, fun j hj => by
            by_cases hjb : j = b
            · subst hjb; exact hok
            · exact hap j (by omega)⟩, rfl, rfl⟩⟩
      · have hge3 : b = c.apart.length := by simp at h73; omega
        have hP : (c.apart.all fun p => v.getD p.fst.toNat 0 != v.getD p.snd.toNat 0) = true := all_getD (by rw [← hge3]; exact hap)
        rw [hP]
        refine Tr.exit ?_
        refine Tr.reg [4] (by
            simp only [↓sxd, sxu, ↓zE, ↓exq, Nat.reduceLT]
            (all_goals try exact zF)) ?_
        refine Tr.ret ?_
        (refine ⟨.inr rfl, ?_⟩; first | rfl | exact ⟨rfl, rfl, trivial⟩ | exact ⟨rfl, rfl, rfl, trivial⟩ | (simp only [Res, ResL, ResOK, ↓sxd, sxu, ↓zE, ↓zC, zK, ↓exP, ↓exq, ↓zB, ↓zH, ↓zL, ↓zJ, ↓zD, ↓zI, ↓zA, Nat.reduceBEq, Nat.reduceAdd, Nat.reduceLT, Nat.reduceMul, Nat.reduceSub, Nat.reduceLeDiff, Nat.reduceEqDiff, Int.reduceLE, Int.reduceLT, Int.reduceToNat, reduceIte, sxe, z9]; (repeat' (first | rfl | exact trivial | exact fun h => h | exact fun h => (by rw [h]; rfl) | apply And.intro | omega | exact Nat.le_of_ble_eq_true rfl))))
end Go.Proofs.YtcnkbdfkjhlbiaaDoor
