/- Lemmas, part XYA. Conditions: none. -/
import Derived.Test.YtcnkbdfkjhlbiaaDoorXPBC
import Derived.Carry
set_option linter.unusedVariables false
namespace Go.Proofs.YtcnkbdfkjhlbiaaDoor
open Go.Sy
theorem ty.sz91 : tsz Tryd.prog 91 = some 1 := by kernel_rfl
theorem ty.agg91 : tagg Tryd.prog 91 = some false := by kernel_rfl
theorem ty.elem91 : telem Tryd.prog 91 = none := by kernel_rfl
end Go.Proofs.YtcnkbdfkjhlbiaaDoor
namespace Go.Proofs.YtcnkbdfkjhlbiaaDoor
open Go.Sy
set_option maxRecDepth 8000
theorem Readable.with {c : Census} (hc : c.check = 0) {a b : Int} {s : Bool} (ha : within a 0 (c.entries.length - 1) = true) (hb : within b 0 (c.entries.length - 1) = true) : Readable (c.with a b s) := by
  have h := Census.readable hc
  have h1 := Census.small_of hc
  simp only [within, Bool.and_eq_true, decide_eq_true_eq] at ha hb
  cases s
  · refine ⟨h.ne, h.ns, ?_, h.hs, fun p hp => ?_⟩
    · simp [Census.with]; omega
    · simp only [Census.with, Bool.false_eq_true, if_false, List.mem_append, List.mem_singleton] at hp
      rcases hp with hp | rfl
      · exact h.ha p hp
      · exact ⟨ha.1, hb.1⟩
  · refine ⟨h.ne, ?_, h.na, fun p hp => ?_, h.ha⟩
    · simp [Census.with]; omega
    · simp only [Census.with, if_true, List.mem_append, List.mem_singleton] at hp
      rcases hp with hp | rfl
      · exact h.hs p hp
      · refine ⟨ha.1, hb.1, ?_, ?_⟩ <;> simp only [Census.with, if_true] <;> omega
def Census.both (c : Census) (a b : Int) : Bool := within a 0 (c.entries.length - 1) && within b 0 (c.entries.length - 1)
def Census.together (c : Census) (a b : Int) : Bool × Bool × Int :=
  if c.tried (c.both a b) = 0 then (if a = b then (true, true, 0) else ((c.with a b true).cons, !(c.with a b false).cons, 0)) else (false, false, c.tried (c.both a b))
abbrev tysW10_52 := And.intro ty.sz0 <| And.intro ty.agg0 <| And.intro ty.elem0 <| And.intro ty.sz3 <| And.intro ty.agg3 <| And.intro ty.elem3 <| And.intro ty.zero3 <| And.intro ty.und3 <| And.intro ty.sz4 <| And.intro ty.agg4 <| And.intro ty.elem4 <| And.intro ty.zero4 <| And.intro ty.und4 <| And.intro ty.sz31 <| And.intro ty.agg31 <| And.intro ty.elem31 <| And.intro ty.zero31 <| And.intro ty.und31 <| And.intro ty.sz34 <| And.intro ty.agg34 <| And.intro ty.elem34 <| And.intro ty.by34 <| And.intro ty.ez34 <| And.intro ty.zero34 <| And.intro ty.und34 <| And.intro ty.sz37 <| And.intro ty.agg37 <| And.intro ty.fld37_0 <| And.intro ty.fld37_1 <| And.intro ty.fld37_2 <| And.intro ty.fld37_3 <| And.intro ty.fld37_4 <| And.intro ty.elem37 <| And.intro ty.zero37 <| And.intro ty.pl37 <| And.intro ty.sz108 <| And.intro ty.agg108 <| And.intro ty.elem108 <| And.intro ty.zero108 <| And.intro ty.sz109 <| And.intro ty.agg109 <| ty.elem109
theorem Together_c (c : Census) (a b : Int) (hs : c.small) : CallP Tryd.prog G0 52 [c.s, I a, I b] (.tup [B (c.together a b).1, B (c.together a b).2.1, I (c.together a b).2.2]) := by
  refine CallP.body 46 [.tmp 6, .tmp 7, .tmp 8] Tryd.func52 (by kernel_rfl) rfl rfl rfl (by repeat' (first | exact Pure.d _ | exact Pure.dx _ | exact Pure.dp _ | exact fa_nil | refine fa_cons ?_ ?_ | refine Pure.agg ?_ | refine Pure.tup ?_ | refine Pure.clo ?_ ?_ | refine Pure.fp ?_ | exact Pure.mapd _ | assumption)) (by repeat' (first | exact Pure.d _ | exact Pure.dx _ | exact Pure.dp _ | exact fa_nil | refine fa_cons ?_ ?_ | refine Pure.agg ?_ | refine Pure.tup ?_ | refine Pure.clo ?_ ?_ | refine Pure.fp ?_ | exact Pure.mapd _ | assumption)) ?_
  refine Tr.reg [1, 2, 3] (by
      simp only [↓sxd, sxu, ↓zE, ↓exq, St.keep, ↓zI, Nat.reduceBEq, Nat.reduceAdd, Nat.reduceLT, Nat.reduceEqDiff]
      (repeat' (first | rfl | exact trivial | exact fun h => h | exact fun h => (by rw [h]; rfl) | apply And.intro | omega | exact Nat.le_of_ble_eq_true rfl))) ?_
  have w1 : IntKind.i64.wrap ((c.entries.length : Int) - 1) = c.entries.length - 1 := wr (by have := hs.1; omega) (by have := hs.1; omega)
  refine Tr.reg [1, 2, 3, 9] (by
      simp only [↓sxd, sxu, ↓zE, ↓exq, ↓zB, St.keep, ↓zJ, ↓zD, ↓zA, Nat.reduceBEq, Nat.reduceAdd, Nat.reduceLT, Nat.reduceEqDiff, sxe, tysW10_52, w1]
      (repeat' (first | rfl | exact trivial | exact fun h => h | exact fun h => (by rw [h]; rfl) | apply And.intro | omega | exact Nat.le_of_ble_eq_true rfl))) ?_
  refine Tr.regD [0, 1, 2, 3, 4, 5, 6, 7, 8, 9, 10, 11, 12, 13] [] [] [1, 2, 3, 8] mix (by kernel_rfl) (by
      simp only [↓sxd, sxu, ↓zC, zK, ↓exq, St.keep, ↓zD, Nat.reduceBEq, Nat.reduceAdd, Nat.reduceLT, tysW10_52]
      (repeat ((with_reducible refine And.intro ?_ ?_); (focus (first | with_reducible rfl | trivial | exact fun h => h | exact fun h => (by rw [h]; rfl) | omega | assumption))))
      refine CallD.use (within_c _ a 0 (c.entries.length - 1)) ?_
      try simp only [↓sxd, sxu, ↓zC, zK, ↓exq, Nat.reduceLT]
      iterate 2
        (repeat ((with_reducible refine And.intro ?_ ?_); (focus (first | with_reducible rfl | trivial | exact fun h => h | exact fun h => (by rw [h]; rfl) | omega | assumption))))
        refine GdD.mk _ (fun hg => by simp only [sxu, ↓exP, ↓exq, Nat.reduceBEq, hg]; (repeat' (first | rfl | exact trivial | exact fun h => h | exact fun h => (by rw [h]; rfl) | apply And.intro | omega | exact Nat.le_of_ble_eq_true rfl))) ?_
        simp only [↓sxd, sxu, ↓zC, zK, Nat.reduceBEq, Nat.reduceLT]
      (repeat ((with_reducible refine And.intro ?_ ?_); (focus (first | with_reducible rfl | trivial | exact fun h => h | exact fun h => (by rw [h]; rfl) | omega | assumption))))
      refine GdD.mk _ (fun hg => by simp only [sxu, ↓exP, Nat.reduceBEq, hg]; first | exact within_c _ b 0 (c.entries.length - 1) | exact ⟨within_c _ b 0 (c.entries.length - 1), rfl, rfl⟩ | exact ⟨within_c _ b 0 (c.entries.length - 1), trivial⟩ | exact ⟨within_c _ b 0 (c.entries.length - 1), trivial, trivial⟩) ?_
      simp only [↓sxd, sxu, ↓zC, zK, ↓exq, ↓zH, Nat.reduceBEq, Nat.reduceLT]
      (repeat ((with_reducible refine And.intro ?_ ?_); (focus (first | with_reducible rfl | trivial | exact fun h => h | exact fun h => (by rw [h]; rfl) | omega | assumption))))
      refine CallD.use (tried'_c c hs _) ?_
      try simp only [↓sxd, sxu, ↓zC, zK, ↓exq, ↓zN, Nat.reduceBEq, Nat.reduceAdd, Nat.reduceLT]
      (repeat' (first | rfl | exact trivial | exact fun h => h | exact fun h => (by rw [h]; rfl) | apply And.intro | omega | exact Nat.le_of_ble_eq_true rfl))) ?_
  refine Tr.seq ?_
  refine Tr.block ?_
  refine Tr.reg [1, 2, 3, 8, 27] (by
      simp only [↓sxd, sxu, ↓zE, ↓exq, St.keep, Nat.reduceBEq, Nat.reduceLT]
      (repeat' (first | rfl | exact trivial | exact fun h => h | exact fun h => (by rw [h]; rfl) | apply And.intro | omega | exact Nat.le_of_ble_eq_true rfl))) ?_
  refine Tr.cond rfl (fun h27 => ?_) (fun h27 => ?_)
  · have ht : c.together a b = (false, false, c.tried (c.both a b)) := if_neg (by simpa [Census.both, within] using h27)
    rw [ht]
    refine Tr.reg [6, 7, 8] (by
        simp only [↓sxd, sxu, ↓zE, ↓exq, St.keep, Nat.reduceBEq, Nat.reduceLT]
        (repeat' (first | rfl | exact trivial | exact fun h => h | exact fun h => (by rw [h]; rfl) | apply And.intro | omega | exact Nat.le_of_ble_eq_true rfl))) ?_
    refine Tr.ret ?_
    (refine ⟨.inr rfl, ?_⟩; first | rfl | exact ⟨rfl, rfl, trivial⟩ | exact ⟨rfl, rfl, rfl, trivial⟩ | (simp only [Res, ResL, ResOK, ↓sxd, sxu, ↓zE, ↓zC, zK, ↓exP, ↓exq, ↓zB, St.keep, ↓zH, ↓zL, ↓zJ, ↓zD, ↓zN, ↓zI, ↓zA, Nat.reduceBEq, Nat.reduceAdd, Nat.reduceLT, Nat.reduceMul, Nat.reduceSub, Nat.reduceLeDiff, Nat.reduceEqDiff, Int.reduceLE, Int.reduceLT, Int.reduceToNat, reduceIte, implies_true, sxe, tysW10_52]; (repeat' (first | rfl | exact trivial | exact fun h => h | exact fun h => (by rw [h]; rfl) | apply And.intro | omega | exact Nat.le_of_ble_eq_true rfl))))
  · have h0 : c.tried (c.both a b) = 0 := by simpa [Census.both, within] using h27
    have ⟨hk, hb⟩ := Census.tried_ok h0
    have hn := Census.small_of hk
    simp only [Census.both, Bool.and_eq_true] at hb
    refine Tr.reg [1, 2, 3, 31] (by
        simp only [↓sxd, sxu, ↓zE, ↓exq, St.keep, Nat.reduceBEq, Nat.reduceLT]
        (repeat' (first | rfl | exact trivial | exact fun h => h | exact fun h => (by rw [h]; rfl) | apply And.intro | omega | exact Nat.le_of_ble_eq_true rfl))) ?_
    refine Tr.cond rfl (fun h31 => ?_) (fun h31 => ?_)
    · have ht : c.together a b = (true, true, 0) := by unfold Census.together; rw [if_pos h0, if_pos (by simpa using h31)]
      rw [ht]
      refine Tr.reg [6, 7, 8] (by
          simp only [↓sxd, sxu, ↓zE, ↓exq, St.keep, Nat.reduceBEq, Nat.reduceLT]
          (repeat' (first | rfl | exact trivial | exact fun h => h | exact fun h => (by rw [h]; rfl) | apply And.intro | omega | exact Nat.le_of_ble_eq_true rfl))) ?_
      refine Tr.ret ?_
      (refine ⟨.inr rfl, ?_⟩; first | rfl | exact ⟨rfl, rfl, trivial⟩ | exact ⟨rfl, rfl, rfl, trivial⟩ | (simp only [Res, ResL, ResOK, ↓sxd, sxu, ↓zE, ↓zC, zK, ↓exP, ↓exq, ↓zB, St.keep, ↓zH, ↓zL, ↓zJ, ↓zD, ↓zN, ↓zI, ↓zA, Nat.reduceBEq, Nat.reduceAdd, Nat.reduceLT, Nat.reduceMul, Nat.reduceSub, Nat.reduceLeDiff, Nat.reduceEqDiff, Int.reduceLE, Int.reduceLT, Int.reduceToNat, reduceIte, implies_true, sxe, tysW10_52]; (repeat' (first | rfl | exact trivial | exact fun h => h | exact fun h => (by rw [h]; rfl) | apply And.intro | omega | exact Nat.le_of_ble_eq_true rfl))))
    · have ht : c.together a b = ((c.with a b true).cons, !(c.with a b false).cons, 0) := by unfold Census.together; rw [if_pos h0, if_neg (by simpa using h31)]
      rw [ht]
      refine Tr.skip ?_
      refine Tr.regD [0, 1, 2, 3, 4, 5, 6, 7, 8, 9, 10, 11, 12, 13] [] [] [6, 7, 8] mix (by kernel_rfl) (by
          simp only [↓sxd, sxu, ↓zC, zK, ↓exq, St.keep, ↓zD, Nat.reduceBEq, Nat.reduceAdd, Nat.reduceLT, tysW10_52]
          (repeat ((with_reducible refine And.intro ?_ ?_); (focus (first | with_reducible rfl | trivial | exact fun h => h | exact fun h => (by rw [h]; rfl) | omega | assumption))))
          refine CallD.use (with_c c a b true (by omega) (by omega)) ?_
          try simp only [↓sxd, sxu, ↓zC, Nat.reduceLT]
          (repeat ((with_reducible refine And.intro ?_ ?_); (focus (first | with_reducible rfl | trivial | exact fun h => h | exact fun h => (by rw [h]; rfl) | omega | assumption))))
          refine CallD.use (consistent_c _ (Readable.with hk hb.1 hb.2)) ?_
          try simp only [↓sxd, sxu, ↓zC, zK, ↓exq, ↓zD, Nat.reduceBEq, Nat.reduceAdd, Nat.reduceLT, tysW10_52]
          (repeat ((with_reducible refine And.intro ?_ ?_); (focus (first | with_reducible rfl | trivial | exact fun h => h | exact fun h => (by rw [h]; rfl) | omega | assumption))))
          refine CallD.use (with_c c a b false (by omega) (by omega)) ?_
          try simp only [↓sxd, sxu, ↓zC, Nat.reduceLT]
          (repeat ((with_reducible refine And.intro ?_ ?_); (focus (first | with_reducible rfl | trivial | exact fun h => h | exact fun h => (by rw [h]; rfl) | omega | assumption))))
          refine CallD.use (consistent_c _ (Readable.with hk hb.1 hb.2)) ?_
          try simp only [↓sxd, sxu, ↓zC, zK, ↓exq, ↓zL, Nat.reduceBEq, Nat.reduceLT]
          (repeat' (first | rfl | exact trivial | exact fun h => h | exact fun h => (by rw [h]; rfl) | apply And.intro | omega | exact Nat.le_of_ble_eq_true rfl))) ?_
      refine Tr.ret ?_
      (refine ⟨.inr rfl, ?_⟩; first | rfl | exact ⟨rfl, rfl, trivial⟩ | exact ⟨rfl, rfl, rfl, trivial⟩ | (simp only [Res, ResL, ResOK, ↓sxd, sxu, ↓zE, ↓zC, zK, ↓exP, ↓exq, ↓zB, St.keep, ↓zH, ↓zL, ↓zJ, ↓zD, ↓zN, ↓zI, ↓zA, Nat.reduceBEq, Nat.reduceAdd, Nat.reduceLT, Nat.reduceMul, Nat.reduceSub, Nat.reduceLeDiff, Nat.reduceEqDiff, Int.reduceLE, Int.reduceLT, Int.reduceToNat, reduceIte, implies_true, sxe, tysW10_52]; (repeat' (first | rfl | exact trivial | exact fun h => h | exact fun h => (by rw [h]; rfl) | apply And.intro | omega | exact Nat.le_of_ble_eq_true rfl))))
end Go.Proofs.YtcnkbdfkjhlbiaaDoor
namespace Go.Proofs.YtcnkbdfkjhlbiaaDoor
set_option maxRecDepth 8000
theorem with_pairs {c : Census} (h : PairsOk c) {a b : Int} {s : Bool} (ha : a.toNat < c.entries.length) (hb : b.toNat < c.entries.length) : PairsOk (c.with a b s) := by
  cases s
  · exact ⟨h.ns, fun p hp => by
      rcases List.mem_append.1 hp with hp | hp
      · exact h.na p hp
      · rw [List.mem_singleton] at hp; subst hp; exact ⟨ha, hb⟩⟩
  · exact ⟨fun p hp => by
      rcases List.mem_append.1 hp with hp | hp
      · exact h.ns p hp
      · rw [List.mem_singleton] at hp; subst hp; exact ⟨ha, hb⟩, h.na⟩
theorem with_n (c : Census) (a b : Int) (s : Bool) : (c.with a b s).entries = c.entries ∧ (c.with a b s).omitted = c.omitted ∧ (c.with a b s).number = c.number := by cases s <;> exact ⟨rfl, rfl, rfl⟩
theorem with_lims {c : Census} (h : Lims c) (a b : Int) (s : Bool) : Lims (c.with a b s) := by
  obtain ⟨_, h2, h3⟩ := with_n c a b s
  exact ⟨by rw [h2]; exact h.om, by rw [h3]; exact h.nu⟩
theorem with_sums (c : Census) (a b : Int) (s : Bool) (m : Nat) : Sums (c.with a b s) m ↔ Sums c m := by
  obtain ⟨_, h2, h3⟩ := with_n c a b s
  unfold Sums; rw [h2, h3]
theorem with_allow (c : Census) (a b : Int) (s : Bool) (f : Nat → Nat) : Allow (c.with a b s) f ↔ Allow c f ∧ (if s then f a.toNat = f b.toNat else f a.toNat ≠ f b.toNat) := by
  cases s
  · constructor
    · intro h
      exact ⟨⟨h.fits, h.same, fun p hp => h.apart p (List.mem_append.2 (.inl hp))⟩, h.apart ⟨a, b⟩ (List.mem_append.2 (.inr (List.mem_singleton.2 rfl)))⟩
    · rintro ⟨h, h2⟩
      refine ⟨h.fits, h.same, fun p hp => ?_⟩
      rcases List.mem_append.1 hp with hp | hp
      · exact h.apart p hp
      · rw [List.mem_singleton] at hp; subst hp; exact h2
  · constructor
    · intro h
      exact ⟨⟨h.fits, fun p hp => h.same p (List.mem_append.2 (.inl hp)), h.apart⟩, h.same ⟨a, b⟩ (List.mem_append.2 (.inr (List.mem_singleton.2 rfl)))⟩
    · rintro ⟨h, h2⟩
      refine ⟨h.fits, fun p hp => ?_, h.apart⟩
      rcases List.mem_append.1 hp with hp | hp
      · exact h.same p hp
      · rw [List.mem_singleton] at hp; subst hp; exact h2
theorem with_cons {c : Census} (h : Fine c) {a b : Int} {s : Bool} (ha : a.toNat < c.entries.length) (hb : b.toNat < c.entries.length) : (c.with a b s).cons = true ↔ ∃ v ∈ c.all, if s then fn v a.toNat = fn v b.toNat else fn v a.toNat ≠ fn v b.toNat := by
  have hn := with_n c a b s
  have hp := with_pairs h.pairs (s := s) ha hb
  rw [cons_iff hp (by rw [hn.1]; exact h.n10) (with_lims h.lims a b s)]
  constructor
  · rintro ⟨m, h1, h2⟩
    obtain ⟨v, e1, e2, e3, e4⟩ := (Sem.rgs hp).1 h1
    obtain ⟨e5, e6⟩ := (with_allow c a b s _).1 e3
    exact ⟨v, (mem_all h.lims).2 ⟨by rw [e1, hn.1], e2, e5, by rw [e4]; exact (with_sums c a b s m).1 h2⟩, e6⟩
  · rintro ⟨v, hv, h2⟩
    obtain ⟨e1, e2, e3, e4⟩ := (mem_all h.lims).1 hv
    exact ⟨many v, (Sem.rgs hp).2 ⟨v, by rw [e1, hn.1], e2, (with_allow c a b s _).2 ⟨e3, h2⟩, rfl⟩, (with_sums c a b s _).2 e4⟩
theorem both_iff {c : Census} {a b : Int} : c.both a b = true ↔ 0 ≤ a ∧ a < c.entries.length ∧ 0 ≤ b ∧ b < c.entries.length := by
  simp only [Census.both, within, Bool.and_eq_true, decide_eq_true_eq]; omega
def someOf (l : List (List Nat)) (a b : Nat) : Bool := l.any fun v => fn v a == fn v b
def everyOf (l : List (List Nat)) (a b : Nat) : Bool := l.all fun v => fn v a == fn v b
theorem together_law {c : Census} {a b : Int} (h : c.tried (c.both a b) = 0) : c.together a b = (someOf c.all a.toNat b.toNat, everyOf c.all a.toNat b.toNat, 0) := by
  unfold Census.together
  rw [if_pos h]
  obtain ⟨hf, hb, hc⟩ := tried_iff.1 h
  rw [both_iff] at hb
  by_cases hab : a = b
  · subst hab
    rw [if_pos rfl]
    have h1 : someOf c.all a.toNat a.toNat = true := by
      cases hl : c.all with
      | nil => rw [(all_nil hf).1 hl] at hc; cases hc
      | cons v l => simp [someOf]
    have h2 : everyOf c.all a.toNat a.toNat = true := by simp [everyOf]
    rw [h1, h2]
  · rw [if_neg hab]
    have e1 := with_cons hf (a := a) (b := b) (s := true) (by omega) (by omega)
    have e2 := with_cons hf (a := a) (b := b) (s := false) (by omega) (by omega)
    have h1 : (c.with a b true).cons = someOf c.all a.toNat b.toNat := by
      rw [Bool.eq_iff_iff, e1]; simp [someOf]
    have h2 : (!(c.with a b false).cons) = everyOf c.all a.toNat b.toNat := by
      rw [Bool.eq_iff_iff, Bool.not_eq_true', ← Bool.not_eq_true, e2]; simp [everyOf]
    rw [h1, h2]
theorem together_err {c : Census} {a b : Int} (h : c.tried (c.both a b) ≠ 0) : c.together a b = (false, false, c.tried (c.both a b)) := by
  unfold Census.together
  rw [if_neg h]
end Go.Proofs.YtcnkbdfkjhlbiaaDoor
namespace Go.Proofs.YtcnkbdfkjhlbiaaDoor
set_option maxRecDepth 8000
structure Says (c x : Census) : Prop where
  len : x.entries.length = c.entries.length
  ent : ∀ i, i < c.entries.length → (x.entry i).sched = (c.entry i).sched ∧ (x.entry i).sex = (c.entry i).sex ∧ (x.entry i).key = (c.entry i).key ∧ (c.entry i).ages.lo ≤ (x.entry i).ages.lo ∧ (x.entry i).ages.hi ≤ (c.entry i).ages.hi
  same : ∀ p ∈ c.same, p ∈ x.same
  apart : ∀ p ∈ c.apart, p ∈ x.apart
  om : c.omitted.lo ≤ x.omitted.lo ∧ x.omitted.hi ≤ c.omitted.hi
  nu : c.number.lo ≤ x.number.lo ∧ x.number.hi ≤ c.number.hi
theorem fine_tried {c : Census} (h : Fine c) : c.tried true = if c.cons then 0 else 9 := by
  have hk := fine_iff.2 h
  unfold Census.tried Census.cons
  rw [if_neg (fun hc => hc hk)]
  simp only [Bool.not_true, Bool.false_eq_true, if_false, decide_eq_true_eq]
  by_cases hg : (readW c).persons.lo > (readW c).persons.hi
  · rw [if_pos hg, if_neg (by omega)]
  · rw [if_neg hg, if_pos (by omega)]
theorem personsS_yes {c : Census} (h : Fine c) (hc : c.cons = true) : c.personsS = (pers c, c.omitted.cut (c.number.lo - (pers c).hi) (c.number.hi - (pers c).lo), 0) := by
  have h0 : 0 ≤ (readW c).persons.lo ∧ (readW c).persons.hi ≤ c.entries.length := pers_lo h.pairs h.n10
  have h1 : (readW c).persons.lo ≤ (readW c).persons.hi := cons_lo hc
  have h10 := h.n10
  have ho := h.om
  have hn := h.nu
  unfold Census.personsS
  rw [if_pos (by rw [fine_tried h, hc]; rfl), wr_id (by omega) (by omega), wr_id (by omega) (by omega)]
theorem personsS_no {c : Census} (h : Fine c) (hc : c.cons = false) : c.personsS = (⟨0, 0⟩, ⟨0, 0⟩, 9) := by
  unfold Census.personsS
  rw [fine_tried h, hc, if_neg (by decide)]
  rfl
structure Moves (c x : Census) (s : Nat → Nat) : Prop where
  len : x.entries.length = c.entries.length
  to : ∀ i, i < c.entries.length → s i < c.entries.length
  inj : ∀ i k, i < c.entries.length → k < c.entries.length → s i = s k → i = k
  sur : ∀ j, j < c.entries.length → ∃ i, i < c.entries.length ∧ s i = j
  ent : ∀ i, i < c.entries.length → x.entry i = c.entry (s i)
  same : ∀ p ∈ x.same, ∃ q ∈ c.same, s p.fst.toNat = q.fst.toNat ∧ s p.snd.toNat = q.snd.toNat
  apart : ∀ p ∈ x.apart, ∃ q ∈ c.apart, s p.fst.toNat = q.fst.toNat ∧ s p.snd.toNat = q.snd.toNat
end Go.Proofs.YtcnkbdfkjhlbiaaDoor
namespace Go.Proofs.YtcnkbdfkjhlbiaaDoor
set_option maxRecDepth 8000
inductive Conn (l : List Pair) : Nat → Nat → Prop
  | refl (a : Nat) : Conn l a a
  | fwd {a : Nat} {p : Pair} (hp : p ∈ l) (h : Conn l a p.fst.toNat) : Conn l a p.snd.toNat
  | bwd {a : Nat} {p : Pair} (hp : p ∈ l) (h : Conn l a p.snd.toNat) : Conn l a p.fst.toNat
theorem Conn.keeps {l : List Pair} {f : Nat → Nat} (hf : ∀ p ∈ l, f p.fst.toNat = f p.snd.toNat) {a b : Nat} (h : Conn l a b) : f a = f b := by
  induction h with
  | refl => rfl
  | fwd hp _ ih => rw [ih]; exact hf _ hp
  | bwd hp _ ih => rw [ih]; exact (hf _ hp).symm
theorem Conn.shut {l : List Pair} {S : Nat → Prop} {a b : Nat} (h : Conn l a b) (ha : S a) (hs : ∀ p ∈ l, S p.fst.toNat ↔ S p.snd.toNat) : S b := by
  induction h with
  | refl => exact ha
  | fwd hp _ ih => exact (hs _ hp).1 ih
  | bwd hp _ ih => exact (hs _ hp).2 ih
open Classical in
theorem must_law {c : Census} (h : Fine c) (hn : c.number = ⟨0, 200⟩) {a b : Nat} (ha : a < c.entries.length) (hb : b < c.entries.length) (hne : c.all ≠ []) : everyOf c.all a b = true ↔ Conn c.same a b := by
  have h10 := h.n10
  have hom := h.om
  unfold everyOf
  rw [List.all_eq_true]
  constructor
  · intro hall
    obtain ⟨v, hv⟩ := List.exists_mem_of_ne_nil _ hne
    obtain ⟨v1, v2, v3, v4⟩ := (mem_all h.lims).1 hv
    have hg : ∃ g : Nat → Nat, ∀ e, g e = if Conn c.same a e then 2 * fn v e + 1 else 2 * fn v e := ⟨fun e => if Conn c.same a e then 2 * fn v e + 1 else 2 * fn v e, fun _ => rfl⟩
    obtain ⟨g, hg⟩ := hg
    have hdown : ∀ i k, g i = g k → fn v i = fn v k := fun i k he => by
      rw [hg i, hg k] at he
      split at he <;> split at he <;> omega
    have hal : Allow c g := by
      refine ⟨fun i k hi hk hik he => v3.fits i k hi hk hik (hdown i k he), fun p hp => ?_, fun p hp he => v3.apart p hp (hdown _ _ he)⟩
      have hs := v3.same p hp
      have hcc : Conn c.same a p.fst.toNat ↔ Conn c.same a p.snd.toNat := ⟨.fwd hp, .bwd hp⟩
      rw [hg, hg, hs]
      by_cases hq : Conn c.same a p.fst.toNat
      · rw [if_pos hq, if_pos (hcc.1 hq)]
      · rw [if_neg hq, if_neg (fun hc => hq (hcc.2 hc))]
    have hml := (canon_rgs g c.entries.length).many_len
    rw [canon_len] at hml
    have hmem : canon g c.entries.length ∈ c.all := (mem_all h.lims).2 ⟨canon_len _ _, canon_rgs _ _, hal.congr h.pairs fun i k hi hk => (canon_same g hi hk).symm, c.omitted.lo, by omega, by omega, by rw [hn]; show (0 : Int) ≤ _; omega, by rw [hn]; show _ ≤ (200 : Int); omega⟩
    have he := hall _ hmem
    rw [beq_iff_eq] at he
    have he2 := (canon_same g ha hb).1 he
    rw [hg a, hg b, if_pos (Conn.refl a)] at he2
    by_cases hq : Conn c.same a b
    · exact hq
    · rw [if_neg hq] at he2; omega
  · intro hc v hv
    obtain ⟨v1, v2, v3, v4⟩ := (mem_all h.lims).1 hv
    rw [beq_iff_eq]
    exact hc.keeps v3.same
theorem can_law {c : Census} (h : Fine c) (h5 : c.same.length ≤ 5) {a b : Nat} (ha : a < c.entries.length) (hb : b < c.entries.length) (hab : a ≠ b) :
    Fine (c.with a b true) ∧ (c.with a b true).personsS.2.2 = if someOf c.all a b then 0 else 9 := by
  have hf : Fine (c.with a b true) := by
    refine ⟨h.n10, ?_, h.a6, h.ents, fun p hp => ?_, h.pa, h.om, h.nu⟩
    · show (c.same ++ [_]).length ≤ 6
      rw [List.length_append, List.length_singleton]; omega
    · rcases List.mem_append.1 hp with hp | hp
      · exact h.ps p hp
      · rw [List.mem_singleton] at hp; subst hp
        rw [pair_iff]
        show (0 : Int) ≤ (a : Int) ∧ (a : Int) < c.entries.length ∧ (0 : Int) ≤ (b : Int) ∧ (b : Int) < c.entries.length ∧ (a : Int) ≠ (b : Int)
        omega
  refine ⟨hf, ?_⟩
  have hw := with_cons h (a := a) (b := b) (s := true) (by simpa using ha) (by simpa using hb)
  simp only [if_true, Int.toNat_natCast] at hw
  have hs : (c.with a b true).cons = someOf c.all a b := by
    rw [Bool.eq_iff_iff, hw]
    unfold someOf
    rw [List.any_eq_true]
    exact ⟨fun ⟨v, h1, h2⟩ => ⟨v, h1, by rw [beq_iff_eq]; exact h2⟩, fun ⟨v, h1, h2⟩ => ⟨v, h1, by rw [beq_iff_eq] at h2; exact h2⟩⟩
  cases hq : someOf c.all a b with
  | true => rw [personsS_yes hf (by rw [hs]; exact hq)]; rfl
  | false => rw [personsS_no hf (by rw [hs]; exact hq)]; rfl
end Go.Proofs.YtcnkbdfkjhlbiaaDoor
namespace Go.Proofs.YtcnkbdfkjhlbiaaDoor
open Go.Sy
set_option maxRecDepth 8000
theorem ib (p q : Nat) : ((p : Int) == (q : Int)) = (p == q) := by
  rw [Bool.eq_iff_iff, beq_iff_eq, beq_iff_eq]; omega
end Go.Proofs.YtcnkbdfkjhlbiaaDoor
namespace Go.Proofs.YtcnkbdfkjhlbiaaDoor
open Go.Sy
set_option maxRecDepth 8000
theorem wi {n : Nat} (h : n < 9223372036854775808) : IntKind.i64.wrap (n : Int) = n := wr (by omega) (by omega)
theorem fine_small {c : Census} (h : Fine c) : c.small := ⟨by have := h.n10; omega, by have := h.s6; omega, by have := h.a6; omega⟩
theorem PersonsF_c (c : Census) (h : Fine c) : CallP Tryd.prog G0 21 [c.s] (.tup [c.personsS.1.s, c.personsS.2.1.s, I c.personsS.2.2]) := Persons_c c (fine_small h) (fun hk => Census.readable hk)
end Go.Proofs.YtcnkbdfkjhlbiaaDoor
namespace Go.Proofs.YtcnkbdfkjhlbiaaDoor
open Go.Sy
set_option maxRecDepth 8000
theorem tmod_n (a n : Nat) : ((a : Nat) : Int).tmod (n : Int) = ((a % n : Nat) : Int) := by
  rw [Int.natCast_emod, Int.tmod_eq_emod_of_nonneg (Int.natCast_nonneg _)]
end Go.Proofs.YtcnkbdfkjhlbiaaDoor
namespace Go.Proofs.YtcnkbdfkjhlbiaaDoor
open Go.Sy
set_option maxRecDepth 8000
theorem src_pp (l : List Pair) : ((dP l).map fun e => e.map SV.d) = pp l := rfl
theorem pp_all (l : List Pair) : (∀ e ∈ pp l, e.length = 2 ∧ e.all SV.one = true) = True := by simp [pp, dP, SV.one]
structure Nar (c : Census) (E : List Entry) (O N : Rng) : Prop where
  len : E.length = c.entries.length
  val : ∀ e ∈ E, Entry.valid e = true
  ent : ∀ i, i < c.entries.length → (E.getD i default).sched = (c.entry i).sched ∧ (E.getD i default).sex = (c.entry i).sex ∧ (E.getD i default).key = (c.entry i).key ∧ (c.entry i).ages.lo ≤ (E.getD i default).ages.lo ∧ (E.getD i default).ages.hi ≤ (c.entry i).ages.hi
  om : c.omitted.lo ≤ O.lo ∧ O.lo ≤ O.hi ∧ O.hi ≤ c.omitted.hi
  nu : c.number.lo ≤ N.lo ∧ N.lo ≤ N.hi ∧ N.hi ≤ c.number.hi
end Go.Proofs.YtcnkbdfkjhlbiaaDoor
namespace Go.Sy
section
variable {P : Program} {G : Nat → Option (List D)} {O : Nat → Prop} {pb pl pl' : Nat → Option Pl} {w w' : World} {hp hp' : HpT} {nx nx' : Nat} {ok ok' : Nat → Prop}
theorem run_buildOwn {t : TypeId} {n sz : Nat} {parts : List (Nat × SV)} {vparts : Array (Nat × Value)} {K : KT} (hs : HS G O pb pl w hp nx)
    (htl : telem P t = some sz) (hsz : sz ≠ 0) (hby : (tby P t).isSome = true) (hidx : parts.map (·.1) = List.range (n + 1)) (hall : (parts.all fun p => svOk p.2 && ((svCells p.2).length == sz)) = true) (hsmall : (n + 1) * sz ≤ 16777216)
    (hl : vparts.size = parts.length) (hf : vparts.toList.map (·.1) = parts.map (·.1))
    (hr : ∀ i (h : i < parts.length), SR pl (okOf O pl hp) w (parts[i]).2 ((vparts.getD i (0, undef)).2)) (h : K (.slc nx sz 0 (n + 1) (n + 1)) ((nx, .arr sz (parts.map fun p => svCells p.2)) :: hp) (nx + 1)) :
    ∃ u w', (Instr.buildSlice t (n + 1) vparts).run P w = .ok u w' ∧ Fin G O pb pl w hp K u w' := by
  obtain ⟨b, hb⟩ := Option.isSome_iff_exists.1 hby
  obtain ⟨e, ie, z, hu, hi, hz, hbb⟩ := tby_some hb
  obtain ⟨e', hu', htsz⟩ := telem_some htl
  rw [hu] at hu'
  cases hu'
  have hisz : ie.size = sz := by simpa [tsz, hi] using htsz
  have hlen : parts.length = n + 1 := by simpa using congrArg List.length hidx
  have hpt : ∀ i (h : i < parts.length), svOk (parts[i]).2 = true ∧ (svCells (parts[i]).2).length = sz := by
    intro i hi
    have := List.all_eq_true.1 hall _ (List.getElem_mem hi)
    simpa using this
  have hvs : ∀ v ∈ vparts.toList.map (·.2), v.cells.size = sz := by
    intro v hv
    obtain ⟨k, hk, rfl⟩ := List.getElem_of_mem hv
    have hk' : k < parts.length := by simp at hk; omega
    have hk'' : k < vparts.size := by omega
    have h1 := (hr k hk').cells (hpt k hk').1
    have h2 := (hpt k hk').2
    simp only [Array.getD_eq_getD_getElem?, Array.getElem?_eq_getElem hk'', Option.getD_some] at h1
    simp only [List.getElem_map, Array.getElem_toList]
    omega
  have hzip := parts_zip vparts.toList (n + 1) (by rw [hf, hidx])
  have hmade : ((Array.range ((n + 1) * ie.size)).map (z.cells[· % z.cells.size]!)).size = (n + 1) * sz := by simp [hisz]
  have hfill := Great.fill_whole (s := sz) (by omega) (vparts.toList.map (·.2)) ((Array.range ((n + 1) * ie.size)).map (z.cells[· % z.cells.size]!)) hvs (by rw [hmade]; simp; rw [hl, hlen])
  rw [← hzip] at hfill
  have hrun := run_buildSlice (P := P) w t e (n + 1) vparts _ ie z hu hi hz (by rw [hisz]; omega) (by rw [hisz]; exact Nat.mul_ne_zero (by omega) hsz) (by rw [hisz] at hfill ⊢; exact hfill)
  generalize hcs : ((vparts.toList.map (·.2)).flatMap fun v => v.cells.toList).toArray = c at hrun
  have hget : ∀ i (h : i < parts.length) j, j < sz → c.getD (i * sz + j) undef = ((vparts.getD i (0, undef)).2).cells.getD j undef ∧ i * sz + j < c.size := by
    intro i hi j hj
    have e1 : c[i * sz + j]? = some (((vparts.getD i (0, undef)).2).cells.getD j undef) := by
      rw [← hcs, List.getElem?_toArray, Great.flat_get (s := sz) (by omega) _ hvs]
      have hd : (i * sz + j) / sz = i := by rw [Nat.mul_comm, Nat.mul_add_div (by omega), Nat.div_eq_of_lt hj]; omega
      have hm : (i * sz + j) % sz = j := by rw [Nat.mul_comm, Nat.mul_add_mod, Nat.mod_eq_of_lt hj]
      rw [hd, hm]
      have hiv : i < vparts.size := by omega
      have hsz' := hvs (vparts[i]).2 (List.mem_map.2 ⟨vparts[i], by simp, rfl⟩)
      simp only [List.getElem?_map, Array.getElem?_toList, Array.getElem?_eq_getElem hiv, Option.map_some, Option.bind_some, Array.getD_eq_getD_getElem?, Option.getD_some]
      rw [Array.getElem?_eq_getElem (by omega)]
      rfl
    refine ⟨by rw [Array.getD_eq_getD_getElem?, e1]; rfl, (Array.getElem?_eq_some_iff.1 e1).1⟩
  have hcsz : c.size = (n + 1) * sz := by
    have hfl : ∀ (l : List Value), (∀ v ∈ l, v.cells.size = sz) → (l.flatMap fun v => v.cells.toList).length = l.length * sz := by
      intro l
      induction l with
      | nil => intro _; simp
      | cons v l ih =>
        intro hv
        simp only [List.flatMap_cons, List.length_append, Array.length_toList, List.length_cons, Nat.add_mul, Nat.one_mul]
        rw [ih fun u hu => hv u (List.mem_cons_of_mem _ hu), hv v List.mem_cons_self]
        omega
    rw [← hcs]
    simp only [List.size_toArray]
    rw [hfl _ hvs]
    simp [hl, hlen]
  have hcell : ∀ i (h : i < parts.length) j (hj : j < (svCells (parts[i]).2).length), SR pl (okOf O pl hp) w ((svCells (parts[i]).2)[j]) (c.getD (i * sz + j) undef) := by
    intro i hi j hj
    have := (hpt i hi).2
    rw [(hget i hi j (by omega)).1]
    exact ((hr i hi).cells (hpt i hi).1).2 j hj
  obtain ⟨g1, g2, g3⟩ := hs.newArr rfl rfl rfl c e sz (parts.map fun p => svCells p.2) (by rw [hcsz]; exact Nat.mul_ne_zero (by omega) hsz) (by simp [hcsz, hlen])
    (by intro i hi; simp only [List.getElem_map]; exact (hpt i (by simpa using hi)).2)
    (by intro i hi j hj
        simp only [List.getElem_map] at hj ⊢
        exact hcell i (by simpa using hi) j hj)
  refine ⟨_, _, hrun, _, _, _, _, h, g1, ?_, g2, g3⟩
  have := SR.slc (ok := okOf O (plUp pl nx ⟨w.heap.size, sz, c.size⟩) ((nx, Obj.arr sz (parts.map fun p => svCells p.2)) :: hp)) (w := w.alloc (.cells c e)) nx sz 0 (n + 1) (n + 1) (n + 1) _ (plUp_self pl nx ⟨w.heap.size, sz, c.size⟩) rfl (Nat.le_refl _) (Nat.le_refl _) (by simp [hcsz])
  simpa using this
end
section
variable {P : Program} {G : Nat → Option (List D)} {ro : Option Nat} {Q : Exit → St → Prop} {st : St}
theorem Tr.ownOne {id x m b e : Nat} {T : TypeId} {s : SV} {o1 o2 o3 : Oper} (h1 : o1.op = .move (.tmp x)) (d1 : o1.dst = some m) (g1 : o1.guard = none)
    (h2 : o2.op = .buildSlice T 1 #[(0, .tmp m)]) (d2 : o2.dst = some b) (g2 : o2.guard = none) (h3 : o3.op = .assign (.tmp b)) (d3 : o3.dst = some e) (g3 : o3.guard = none)
    (hx : st.tm.lookup x = some s) (hs1 : svOk s = true) (hs2 : svCells s = [s]) (htl : telem P T = some 1) (hby : (tby P T).isSome = true) (hm : m < st.nt) (hb : b < st.nt) (he : e < st.nt)
    (k : Q .normal ⟨(e, .slc st.nx 1 0 1 1) :: (b, .slc st.nx 1 0 1 1) :: (m, s) :: st.tm, (st.nx, .arr 1 [[s]]) :: st.hp, st.nx + 1, st.nt, st.df, st.nb⟩) : Tr P G ro (.region id #[o1, o2, o3] false) st Q := by
  intro O M pb pl a w hR
  refine wpIn_region ?_
  have hv := hR.tm x _ hx
  rw [List.range_eq_range']
  show wpOpsIn (Fw ro) 0 P #[o1, o2, o3] _ [0, 1, 2] a w
  have w1 : Region.wanted o1 (yielded #[o1, o2, o3] a.tmps) = true := by simp [Region.wanted, g1]
  simp only [wpOpsIn, List.getElem?_toArray, List.getElem?_cons_zero]
  rw [if_pos w1]
  generalize hval : a.tmps.getD x undef = v at hv
  refine RunOp.wpIn (K := fun u w' => u = v ∧ w' = w) (fun c hc => by rw [h1] at hc; cases hc) (RunOp.value (v := v) (by simp [execOp, h1, Act.eval, hval]) ⟨rfl, rfl⟩) ?_
  rintro u w1' ⟨hu, hw1⟩
  subst hu hw1
  have hR1 := hR.put (dst := o1.dst) (r := s) (v := u) (by rw [d1]; exact hm) hR.hs (.refl _ _) (fun _ _ h => h) hv
  have w2 : Region.wanted o2 (yielded #[o1, o2, o3] (a.put o1.dst u).tmps) = true := by simp [Region.wanted, g2]
  simp only [List.getElem?_cons_succ, List.getElem?_cons_zero]
  rw [if_pos w2]
  have hmv : (a.put o1.dst u).eval (.tmp m) = u := by
    simp only [d1, Act.put, Act.eval]
    have : m < a.tmps.size := by rw [hR.nt]; exact hm
    simp [Array.getD_eq_getD_getElem?, this]
  obtain ⟨v2, w2', hrun, pl2, r2, hp2, nx2, ⟨rfl, rfl, rfl⟩, f1, f2, f3, f4⟩ := run_buildOwn (P := P) (t := T) (n := 0) (sz := 1) (parts := [(0, s)]) (vparts := #[(0, u)]) (K := fun r hp' nx' => r = .slc st.nx 1 0 1 1 ∧ hp' = (st.nx, .arr 1 [[s]]) :: st.hp ∧ nx' = st.nx + 1) hR1.hs htl (by decide) hby rfl (by simp [hs1, hs2]) (by decide) rfl rfl (by
    intro i hi
    obtain rfl : i = 0 := by simp at hi; omega
    have h := hR1.tm m s (by rw [d1]; simp [putT])
    rw [show (a.put o1.dst u).tmps.getD m undef = u from hmv] at h
    exact h) ⟨rfl, by simp [hs2], rfl⟩
  refine RunOp.wpIn (K := fun u' w' => u' = v2 ∧ w' = w2') (fun c hc => by rw [h2] at hc; cases hc) (RunOp.value (v := v2) (by
    simp [execOp, h2]
    rw [hmv, show Sem.run P (Instr.buildSlice T 1 #[(0, u)]) w1' = Result.ok v2 w2' from hrun]
    rfl) ⟨rfl, rfl⟩) ?_
  rintro u2 w3 ⟨hu2, hw3⟩
  subst hu2 hw3
  have hR2 := hR1.put (dst := o2.dst) (r := .slc st.nx 1 0 1 1) (v := u2) (by rw [d2]; exact hb) f1 f3 f4 f2
  have hw3 : Region.wanted o3 (yielded #[o1, o2, o3] ((a.put o1.dst u).put o2.dst u2).tmps) = true := by simp [Region.wanted, g3]
  rw [if_pos hw3]
  have hmv2 : ((a.put o1.dst u).put o2.dst u2).eval (.tmp b) = u2 := by
    have : b < (a.put o1.dst u).tmps.size := by rw [hR1.nt]; exact hb
    simp only [d2, Act.put, Act.eval] at this ⊢
    simp [Array.getD_eq_getD_getElem?, this]
  have hv3 := hR2.tm b (.slc st.nx 1 0 1 1) (by rw [d2]; simp [putT])
  rw [show ((a.put o1.dst u).put o2.dst u2).tmps.getD b undef = u2 from hmv2] at hv3
  refine RunOp.wpIn (K := fun u' w' => u' = u2 ∧ w' = w3) (fun c hc => by rw [h3] at hc; cases hc) (RunOp.value (v := u2) (by simp [execOp, h3]; rw [hmv2]) ⟨rfl, rfl⟩) ?_
  rintro u3 w4 ⟨hu3, hw4⟩
  subst hu3 hw4
  have hR3 := hR2.put (dst := o3.dst) (r := .slc st.nx 1 0 1 1) (v := u3) (by rw [d3]; exact he) hR2.hs (.refl _ _) (fun _ _ h => h) hv3
  refine ⟨pl2, _, k, ?_, f3⟩
  rw [d1, d2, d3] at hR3 ⊢
  exact hR3
end
end Go.Sy
namespace Go.Proofs.YtcnkbdfkjhlbiaaDoor
open Go.Sy
set_option maxRecDepth 8000
structure Seen (l : List Pair) (a : Nat) (o : List Nat) : Prop where
  nd : o.Nodup
  has : a ∈ o
  conn : ∀ x ∈ o, Conn l a x
  sub : ∀ x ∈ o, x = a ∨ ∃ p ∈ l, x = p.fst.toNat ∨ x = p.snd.toNat
theorem Seen.len {l : List Pair} {a : Nat} {o : List Nat} (h : Seen l a o) : o.length ≤ 1 + 2 * l.length := by
  have hs : o ⊆ a :: (l.map (fun p => p.fst.toNat) ++ l.map (fun p => p.snd.toNat)) := fun x hx => by
    rcases h.sub x hx with rfl | ⟨p, hp, rfl | rfl⟩
    · exact List.mem_cons_self
    · exact List.mem_cons_of_mem _ (List.mem_append_left _ (List.mem_map.2 ⟨p, hp, rfl⟩))
    · exact List.mem_cons_of_mem _ (List.mem_append_right _ (List.mem_map.2 ⟨p, hp, rfl⟩))
  have := h.nd.length_le_of_subset hs
  simp only [List.length_cons, List.length_append, List.length_map] at this
  omega
theorem Seen.start (l : List Pair) (a : Nat) : Seen l a [a] :=
  ⟨List.pairwise_singleton _ _, List.mem_singleton.2 rfl, fun x hx => by rw [List.mem_singleton] at hx; subst hx; exact .refl _, fun x hx => .inl (List.mem_singleton.1 hx)⟩
def Shut (o : List Nat) (x : Nat) (p : Pair) : Prop := (p.fst.toNat = x → p.snd.toNat ∈ o) ∧ (p.snd.toNat = x → p.fst.toNat ∈ o)
theorem Shut.more {o o' : List Nat} {x : Nat} {p : Pair} (h : Shut o x p) (hs : ∀ y ∈ o, y ∈ o') : Shut o' x p := ⟨fun e => hs _ (h.1 e), fun e => hs _ (h.2 e)⟩
theorem Seen.add {l : List Pair} {a : Nat} {o : List Nat} (h : Seen l a o) {x y : Nat} {p : Pair} (hp : p ∈ l) (hx : x ∈ o) (hy : (p.fst.toNat = x ∧ y = p.snd.toNat) ∨ (p.snd.toNat = x ∧ y = p.fst.toNat)) (hn : y ∉ o) : Seen l a (o ++ [y]) := by
  refine ⟨List.pairwise_append.2 ⟨h.nd, List.pairwise_singleton _ _, fun u hu v hv => ?_⟩, List.mem_append_left _ h.has, fun u hu => ?_, fun u hu => ?_⟩
  · rw [List.mem_singleton] at hv; subst hv
    exact fun e => hn (e ▸ hu)
  · rcases List.mem_append.1 hu with hu | hu
    · exact h.conn u hu
    · rw [List.mem_singleton] at hu; subst hu
      have hc := h.conn x hx
      rcases hy with ⟨e, rfl⟩ | ⟨e, rfl⟩
      · rw [← e] at hc; exact .fwd hp hc
      · rw [← e] at hc; exact .bwd hp hc
  · rcases List.mem_append.1 hu with hu | hu
    · exact h.sub u hu
    · rw [List.mem_singleton] at hu; subst hu
      rcases hy with ⟨_, rfl⟩ | ⟨_, rfl⟩
      · exact .inr ⟨p, hp, .inr rfl⟩
      · exact .inr ⟨p, hp, .inl rfl⟩
theorem Seen.all {l : List Pair} {a b : Nat} {o : List Nat} (h : Seen l a o) (hs : ∀ x ∈ o, ∀ p ∈ l, Shut o x p) : Conn l a b ↔ b ∈ o := by
  refine ⟨fun hc => hc.shut (S := fun x => x ∈ o) h.has fun p hp => ?_, h.conn b⟩
  exact ⟨fun h1 => (hs _ h1 p hp).1 rfl, fun h1 => (hs _ h1 p hp).2 rfl⟩
def endOf (p : Pair) (x : Nat) : Int := if p.fst.toNat = x then p.snd else if p.snd.toNat = x then p.fst else -1
theorem getD_memP {l : List Pair} {i : Nat} (h : i < l.length) : l.getD i default ∈ l := getD_mem h
theorem any_take {o : List Nat} {j : Nat} {T : Int} (h : j < o.length) : (o.take (j + 1)).all (fun n : Nat => (n : Int) != T) = ((o.take j).all (fun n : Nat => (n : Int) != T) && (((o.getD j 0 : Nat) : Int) != T)) := by
  rw [List.take_succ_eq_append_getElem h, List.all_append]
  simp [List.getD_eq_getElem?_getD, h]
theorem vv_getD {o : List Nat} {j : Nat} (h : j < o.length) : (vv o).getD j [] = [I (o.getD j 0 : Nat)] := by
  simp [vv, List.getD_eq_getElem?_getD, h]
theorem vv_len (o : List Nat) : (vv o).length = o.length := by simp
theorem shut_end {o : List Nat} {x : Nat} {p : Pair} (h0 : 0 ≤ p.fst ∧ 0 ≤ p.snd) (hx : x ∈ o) (h : endOf p x < 0 ∨ (endOf p x).toNat ∈ o) : Shut o x p := by
  unfold endOf at h
  constructor
  · intro e
    rw [if_pos e] at h
    rcases h with h | h
    · omega
    · exact h
  · intro e
    by_cases e1 : p.fst.toNat = x
    · rw [e1]; exact hx
    · rw [if_neg e1, if_pos e] at h
      rcases h with h | h
      · omega
      · exact h
theorem end_new {p : Pair} {x : Nat} (h : 0 ≤ endOf p x) : (p.fst.toNat = x ∧ (endOf p x).toNat = p.snd.toNat) ∨ (p.snd.toNat = x ∧ (endOf p x).toNat = p.fst.toNat) := by
  unfold endOf at h ⊢
  by_cases e1 : p.fst.toNat = x
  · rw [if_pos e1]; exact .inl ⟨e1, rfl⟩
  · rw [if_neg e1] at h ⊢
    by_cases e2 : p.snd.toNat = x
    · rw [if_pos e2]; exact .inr ⟨e2, rfl⟩
    · rw [if_neg e2] at h; omega
abbrev tysW39_56 := And.intro ty.sz0 <| And.intro ty.agg0 <| And.intro ty.elem0 <| And.intro ty.sz3 <| And.intro ty.agg3 <| And.intro ty.elem3 <| And.intro ty.zero3 <| And.intro ty.und3 <| And.intro ty.sz4 <| And.intro ty.agg4 <| And.intro ty.elem4 <| And.intro ty.zero4 <| And.intro ty.und4 <| And.intro ty.sz23 <| And.intro ty.agg23 <| And.intro ty.elem23 <| And.intro ty.by23 <| And.intro ty.ez23 <| And.intro ty.zero23 <| And.intro ty.und23 <| And.intro ty.sz43 <| And.intro ty.agg43 <| And.intro ty.elem43 <| And.intro ty.by43 <| And.intro ty.ez43 <| And.intro ty.zero43 <| And.intro ty.und43 <| And.intro ty.sz73 <| And.intro ty.agg73 <| And.intro ty.fld73_0 <| And.intro ty.fld73_1 <| And.intro ty.elem73 <| And.intro ty.zero73 <| ty.pl73
set_option maxHeartbeats 4000000 in
theorem chained_c (l : List Pair) (a b : Nat) (hl : l.length ≤ 10) (hp0 : ∀ p ∈ l, 0 ≤ p.fst ∧ 0 ≤ p.snd) (r : Bool) (hr : r = true ↔ Conn l a b) : CallP Tryd.prog G0 56 [SP l, I a, I b] (B r) := by
  refine CallP.body 85 [.tmp 6] Tryd.func56 (by kernel_rfl) rfl rfl rfl (by repeat' (first | exact Pure.d _ | exact Pure.dx _ | exact Pure.dp _ | exact fa_nil | refine fa_cons ?_ ?_ | refine Pure.agg ?_ | refine Pure.tup ?_ | refine Pure.clo ?_ ?_ | refine Pure.fp ?_ | exact Pure.mapd _ | assumption)) (by repeat' (first | exact Pure.d _ | exact Pure.dx _ | exact Pure.dp _ | exact fa_nil | refine fa_cons ?_ ?_ | refine Pure.agg ?_ | refine Pure.tup ?_ | refine Pure.clo ?_ ?_ | refine Pure.fp ?_ | exact Pure.mapd _ | assumption)) ?_
  refine Tr.reg [0, 1, 2] (by
      simp only [↓sxd, sxu, ↓zE, ↓exq, St.keep, Nat.reduceBEq, Nat.reduceAdd, Nat.reduceLT]
      (repeat' (first | rfl | exact trivial | exact fun h => h | exact fun h => (by rw [h]; rfl) | apply And.intro | omega | exact Nat.le_of_ble_eq_true rfl))) ?_
  refine Tr.seq (Tr.ownOne (s := I (a : Nat)) rfl rfl rfl rfl rfl rfl rfl rfl rfl rfl rfl rfl (by kernel_rfl) (by kernel_rfl) (show 13 < 85 by decide) (show 14 < 85 by decide) (show 7 < 85 by decide) ?_)
  refine Tr.seq ?_
  refine Tr.reg [0, 2, 7, 8] (by
      simp only [↓sxd, sxu, ↓zE, ↓exq, St.keep, Nat.reduceBEq, Nat.reduceLT]
      (repeat' (first | rfl | exact trivial | exact fun h => h | exact fun h => (by rw [h]; rfl) | apply And.intro | omega | exact Nat.le_of_ble_eq_true rfl))) ?_
  refine Tr.imp (st' := ⟨[(0, SP l), (2, I b), (7, .slc 0 1 0 [a].length [a].length), (8, I 0)], [(0, .arr 1 (vv [a]))], 1, 85, [], 0⟩) (Imp.keepAll) (Tr.block (Tr.loopI (fun mm ss => ∃ (i : Nat) (o : List Nat), (i ≤ o.length ∧ Seen l a o ∧ (∀ j, j < i → ∀ p ∈ l, Shut o (o.getD j 0) p) ∧ (∀ j, j < i → o.getD j 0 ≠ b)) ∧ 2 * l.length + 2 - i = mm ∧ ss = ⟨[(0, SP l), (2, I b), (7, .slc 0 1 0 o.length o.length), (8, I i)], [(0, .arr 1 (vv o))], 1, 85, [], 0⟩) _ ⟨0, [a], ?_, rfl, rfl⟩ ?_))
  · exact ⟨Nat.zero_le _, Seen.start l a, fun j hj => absurd hj (Nat.not_lt_zero _), fun j hj => absurd hj (Nat.not_lt_zero _)⟩
  rintro mm ss ⟨i, o, hI, rfl, rfl⟩
  obtain ⟨hI, hok, hdone, hnb⟩ := hI
  have hol := hok.len
  refine Tr.seq ?_
  refine Tr.reg [0, 2, 7, 8, 18] (by
      simp only [↓sxd, sxu, ↓zE, ↓exq, ↓zB, St.keep, ↓zJ, Nat.reduceBEq, Nat.reduceLT, sxe, tysW39_56]
      (repeat' (first | rfl | exact trivial | exact fun h => h | exact fun h => (by rw [h]; rfl) | apply And.intro | omega | exact Nat.le_of_ble_eq_true rfl))) ?_
  refine Tr.cond rfl (fun h18 => ?_) (fun h18 => ?_)
  · have hlt : i < o.length := by have := of_decide_eq_true h18; omega
    refine Tr.skip ?_
    refine Tr.seq ?_
    refine Tr.block ?_
    refine Tr.seq ?_
    refine Tr.reg [0, 2, 7, 8, 26] (by
        simp only [↓sxd, sxu, ↓zE, ↓exq, St.keep, ↓zD, Nat.reduceBEq, Nat.reduceLT, sxe, tysW39_56, hlt, vv_getD hlt]
        (repeat' (first | rfl | exact trivial | exact fun h => h | exact fun h => (by rw [h]; rfl) | apply And.intro | omega | exact Nat.le_of_ble_eq_true rfl))) ?_
    refine Tr.cond rfl (fun h26 => ?_) (fun h26 => ?_)
    · have hbe : o.getD i 0 = b := by have := beq_iff_eq.1 h26; omega
      have hrt : r = true := hr.2 (hok.conn b (by rw [← hbe]; exact getD_mem hlt))
      rw [hrt]
      refine Tr.reg [6] (by
          simp only [↓sxd, sxu, ↓zE, ↓exq, St.keep, Nat.reduceLT]
          (repeat' (first | rfl | exact trivial | exact fun h => h | exact fun h => (by rw [h]; rfl) | apply And.intro | omega | exact Nat.le_of_ble_eq_true rfl))) ?_
      refine Tr.ret ?_
      (refine ⟨.inr rfl, ?_⟩; first | rfl | exact ⟨rfl, rfl, trivial⟩ | exact ⟨rfl, rfl, rfl, trivial⟩ | (simp only [Res, ResL, ResOK, ↓sxd, sxu, ↓zE, ↓zC, zK, ↓exP, ↓exq, ↓zB, St.keep, ↓zH, ↓zL, ↓zJ, ↓zD, ↓zG, ↓zQ, ↓zA, Nat.reduceBEq, Nat.reduceAdd, Nat.reduceLT, Nat.reduceMul, Nat.reduceSub, Nat.reduceLeDiff, Nat.reduceEqDiff, Int.reduceLE, Int.reduceLT, Int.reduceToNat, reduceIte, implies_true, sxe, tysW39_56]; (repeat' (first | rfl | exact trivial | exact fun h => h | exact fun h => (by rw [h]; rfl) | apply And.intro | omega | exact Nat.le_of_ble_eq_true rfl))))
    · have hbe : o.getD i 0 ≠ b := fun hc => by rw [hc] at h26; simp at h26
      obtain ⟨x, hx⟩ : ∃ x, x = o.getD i 0 := ⟨_, rfl⟩
      refine Tr.skip ?_
      refine Tr.reg [0, 2, 7, 8, 9] (by
          simp only [↓sxd, sxu, ↓zE, ↓exq, St.keep, Nat.reduceBEq, Nat.reduceLT]
          (repeat' (first | rfl | exact trivial | exact fun h => h | exact fun h => (by rw [h]; rfl) | apply And.intro | omega | exact Nat.le_of_ble_eq_true rfl))) ?_
      refine Tr.imp (st' := ⟨[(0, SP l), (2, I b), (7, .slc 0 1 0 o.length o.length), (8, I i), (9, I 0)], [(0, .arr 1 (vv o))], 1, 85, [], 0⟩) (Imp.keepAll) (Tr.block (Tr.loopI (fun mm ss => ∃ (k : Nat) (o2 : List Nat), (k ≤ l.length ∧ Seen l a o2 ∧ (∃ e, o2 = o ++ e) ∧ (∀ q, q < k → Shut o2 x (l.getD q default))) ∧ l.length - k = mm ∧ ss = ⟨[(0, SP l), (2, I b), (7, .slc 0 1 0 o2.length o2.length), (8, I i), (9, I k)], [(0, .arr 1 (vv o2))], 1, 85, [], 0⟩) _ ⟨0, o, ?_, rfl, rfl⟩ ?_))
      · exact ⟨Nat.zero_le _, hok, ⟨[], by simp⟩, fun q hq => absurd hq (Nat.not_lt_zero _)⟩
      rintro mm ss ⟨k, o2, hI, rfl, rfl⟩
      obtain ⟨hK, hok2, ⟨ex, hex⟩, hsh⟩ := hI
      have hi2 : i < o2.length := by rw [hex, List.length_append]; omega
      have hpre : ∀ j, j < o.length → o2.getD j 0 = o.getD j 0 := fun j hj => by rw [hex]; exact getD_app_l hj
      have hxo : o2.getD i 0 = x := by rw [hpre i hlt, hx]
      have hxm : x ∈ o2 := by rw [← hxo]; exact getD_mem hi2
      refine Tr.seq ?_
      refine Tr.reg [0, 2, 7, 8, 9, 30] (by
          simp only [↓sxd, sxu, ↓zE, ↓exq, ↓zB, St.keep, ↓zJ, Nat.reduceBEq, Nat.reduceLT, sxe, tysW39_56]
          (repeat' (first | rfl | exact trivial | exact fun h => h | exact fun h => (by rw [h]; rfl) | apply And.intro | omega | exact Nat.le_of_ble_eq_true rfl))) ?_
      refine Tr.cond rfl (fun h30 => ?_) (fun h30 => ?_)
      · have hlk : k < l.length := by have := of_decide_eq_true h30; omega
        have hpm := getD_memP hlk
        obtain ⟨p1, p2⟩ := hp0 _ hpm
        have hpp := hp0 _ hpm
        obtain ⟨f, hf⟩ := Int.eq_ofNat_of_zero_le p1
        obtain ⟨g, hg⟩ := Int.eq_ofNat_of_zero_le p2
        have hft : (l.getD k default).fst.toNat = f := by omega
        have hgt : (l.getD k default).snd.toNat = g := by omega
        refine Tr.skip ?_
        refine Tr.seq ?_
        refine Tr.block ?_
        refine Tr.reg [0, 2, 7, 8, 9, 10] (by
            simp only [↓sxd, sxu, ↓zE, ↓exq, St.keep, Nat.reduceBEq, Nat.reduceLT]
            (repeat' (first | rfl | exact trivial | exact fun h => h | exact fun h => (by rw [h]; rfl) | apply And.intro | omega | exact Nat.le_of_ble_eq_true rfl))) ?_
        refine Tr.seq ?_
        refine Tr.regD [0, 1, 2, 3, 4, 5, 6, 7, 8, 9] [] [] [0, 2, 7, 8, 9, 10, 42] mix (by kernel_rfl) (by
            simp only [↓sxd, sxu, ↓zC, zK, ↓exq, St.keep, ↓zD, ↓zA, Nat.reduceBEq, Nat.reduceAdd, Nat.reduceLT, Nat.reduceEqDiff, sxe, tysW39_56, hlk, hf, hg, hi2, vv_getD hi2, hxo]
            (repeat' (first | rfl | exact trivial | exact fun h => h | exact fun h => (by rw [h]; rfl) | apply And.intro | omega | exact Nat.le_of_ble_eq_true rfl))) ?_
        refine Tr.join2 (st' := ⟨[(0, SP l), (2, I b), (7, .slc 0 1 0 o2.length o2.length), (8, I i), (9, I k), (10, I (endOf (l.getD k default) x))], [(0, .arr 1 (vv o2))], 1, 85, [], 0⟩) ?_ ?_
        ·
          refine Tr.cond rfl (fun h42 => ?_) (fun h42 => ?_)
          · have hfx : f = x := by have := beq_iff_eq.1 h42; omega
            have hT : endOf (l.getD k default) x = (g : Int) := by unfold endOf; rw [if_pos (by omega), hg]
            refine Tr.reg1 [0, 2, 7, 8, 9, 10] (by
                simp only [↓sxd, sxu, ↓zE, ↓exq, St.keep, ↓zD, ↓zA, Nat.reduceBEq, Nat.reduceAdd, Nat.reduceLT, Nat.reduceEqDiff, sxe, tysW39_56, hlk, hg]
                (repeat' (first | rfl | exact trivial | exact fun h => h | exact fun h => (by rw [h]; rfl) | apply And.intro | omega | exact Nat.le_of_ble_eq_true rfl))) ?_
            exact ⟨_, by rw [hT]; exact Imp.keep [0, 2, 7, 8, 9, 10], rfl⟩
          · have hfx : ¬ f = x := fun hc => by rw [hc] at h42; simp at h42
            refine Tr.regD [0, 1, 2, 3, 4, 5, 6, 7, 8, 9] [] [] [0, 2, 7, 8, 9, 10, 57] mix (by kernel_rfl) (by
                simp only [↓sxd, sxu, ↓zC, zK, ↓exq, St.keep, ↓zD, ↓zA, Nat.reduceBEq, Nat.reduceAdd, Nat.reduceLT, Nat.reduceEqDiff, sxe, tysW39_56, hlk, hg, hi2, vv_getD hi2, hxo]
                (repeat' (first | rfl | exact trivial | exact fun h => h | exact fun h => (by rw [h]; rfl) | apply And.intro | omega | exact Nat.le_of_ble_eq_true rfl))) ?_
            refine Tr.cond rfl (fun h57 => ?_) (fun h57 => ?_)
            · have hgx : g = x := by have := beq_iff_eq.1 h57; omega
              have hT : endOf (l.getD k default) x = (f : Int) := by unfold endOf; rw [if_neg (by omega), if_pos (by omega), hf]
              refine Tr.reg1 [0, 2, 7, 8, 9, 10] (by
                  simp only [↓sxd, sxu, ↓zE, ↓exq, St.keep, ↓zD, ↓zA, Nat.reduceBEq, Nat.reduceAdd, Nat.reduceLT, Nat.reduceEqDiff, sxe, tysW39_56, hlk, hf, hg]
                  (repeat' (first | rfl | exact trivial | exact fun h => h | exact fun h => (by rw [h]; rfl) | apply And.intro | omega | exact Nat.le_of_ble_eq_true rfl))) ?_
              exact ⟨_, by rw [hT]; exact Imp.keep [0, 2, 7, 8, 9, 10], rfl⟩
            · have hgx : ¬ g = x := fun hc => by rw [hc] at h57; simp at h57
              have hT : endOf (l.getD k default) x = -1 := by unfold endOf; rw [if_neg (by omega), if_neg (by omega)]
              refine Tr.skip ?_
              exact ⟨_, by rw [hT]; exact Imp.keep [0, 2, 7, 8, 9, 10], rfl⟩
        obtain ⟨T, hTd⟩ : ∃ T, T = endOf (l.getD k default) x := ⟨_, rfl⟩
        rw [← hTd]
        refine Tr.reg [0, 2, 7, 8, 9, 10, 11] (by
            simp only [↓sxd, sxu, ↓zE, ↓exq, St.keep, Nat.reduceBEq, Nat.reduceLT]
            (repeat' (first | rfl | exact trivial | exact fun h => h | exact fun h => (by rw [h]; rfl) | apply And.intro | omega | exact Nat.le_of_ble_eq_true rfl))) ?_
        refine Tr.seq ?_
        refine Tr.reg [0, 2, 7, 8, 9, 10, 11, 12] (by
            simp only [↓sxd, sxu, ↓zE, ↓exq, St.keep, Nat.reduceBEq, Nat.reduceLT]
            (repeat' (first | rfl | exact trivial | exact fun h => h | exact fun h => (by rw [h]; rfl) | apply And.intro | omega | exact Nat.le_of_ble_eq_true rfl))) ?_
        refine Tr.imp (st' := ⟨[(0, SP l), (2, I b), (7, .slc 0 1 0 o2.length o2.length), (8, I i), (9, I k), (10, I T), (11, B (decide (T ≥ 0) && (o2.take 0).all fun n : Nat => (n : Int) != T)), (12, I 0)], [(0, .arr 1 (vv o2))], 1, 85, [], 0⟩) (by simp only [List.take_zero, List.all_nil, Bool.and_true]; exact Imp.keepAll) (Tr.block (Tr.loopI (fun mm ss => ∃ (j : Nat), (j ≤ o2.length) ∧ o2.length - j = mm ∧ ss = ⟨[(0, SP l), (2, I b), (7, .slc 0 1 0 o2.length o2.length), (8, I i), (9, I k), (10, I T), (11, B (decide (T ≥ 0) && (o2.take j).all fun n : Nat => (n : Int) != T)), (12, I j)], [(0, .arr 1 (vv o2))], 1, 85, [], 0⟩) _ ⟨0, ?_, rfl, rfl⟩ ?_))
        · exact Nat.zero_le _
        rintro mm ss ⟨j, hI, rfl, rfl⟩
        refine Tr.seq ?_
        refine Tr.reg [0, 2, 7, 8, 9, 10, 11, 12, 68] (by
            simp only [↓sxd, sxu, ↓zE, ↓exq, ↓zB, St.keep, ↓zJ, Nat.reduceBEq, Nat.reduceLT, sxe, tysW39_56]
            (repeat' (first | rfl | exact trivial | exact fun h => h | exact fun h => (by rw [h]; rfl) | apply And.intro | omega | exact Nat.le_of_ble_eq_true rfl))) ?_
        refine Tr.cond rfl (fun h68 => ?_) (fun h68 => ?_)
        · have hj : j < o2.length := by have := of_decide_eq_true h68; omega
          refine Tr.skip ?_
          refine Tr.seq ?_
          refine Tr.block ?_
          refine Tr.reg1 [0, 2, 7, 8, 9, 10, 11, 12] (by
              simp only [↓sxd, sxu, ↓zE, ↓exq, St.keep, Nat.reduceBEq, Nat.reduceLT, hj]
              iterate 6
                (repeat ((with_reducible refine And.intro ?_ ?_); (focus (first | with_reducible rfl | trivial | exact fun h => h | exact fun h => (by rw [h]; rfl) | omega | assumption))))
                refine GdO.mk _ (fun hg => by simp only [↓sxd, sxu, ↓exq, ↓zD, Nat.reduceBEq, Nat.reduceLT, sxe, tysW39_56, hj, vv_getD hj, hg]; (repeat' (first | rfl | exact trivial | exact fun h => h | exact fun h => (by rw [h]; rfl) | apply And.intro | omega | exact Nat.le_of_ble_eq_true rfl))) ?_
                simp only [↓sxd, sxu, ↓zE, ↓exq, ↓zH, Nat.reduceBEq, Nat.reduceLT]
              (repeat' (first | rfl | exact trivial | exact fun h => h | exact fun h => (by rw [h]; rfl) | apply And.intro | omega | exact Nat.le_of_ble_eq_true rfl))) ?_
          have w1 : IntKind.i64.wrap ((j : Int) + 1) = ((j + 1 : Nat) : Int) := by rw [wr (by omega) (by have := hok2.len; omega)]; rfl
          refine Tr.reg1 [0, 2, 7, 8, 9, 10, 11, 12] (by
              simp only [↓sxd, sxu, ↓zE, ↓exq, St.keep, Nat.reduceBEq, Nat.reduceLT, w1]
              (repeat' (first | rfl | exact trivial | exact fun h => h | exact fun h => (by rw [h]; rfl) | apply And.intro | omega | exact Nat.le_of_ble_eq_true rfl))) ?_
          refine ⟨_, _, ?_, ?_, ⟨j + 1, hj, rfl, rfl⟩⟩
          · omega
          · rw [any_take hj, ← Bool.and_assoc]
            exact Imp.keepAll
        · have hje : j = o2.length := by have := of_decide_eq_false h68; omega
          rw [hje, List.take_length]
          refine Tr.exit ?_
          refine Tr.reg [0, 2, 7, 8, 9, 10, 80] (by
              simp only [↓sxd, sxu, ↓zE, ↓exq, St.keep, Nat.reduceBEq, Nat.reduceLT]
              (repeat' (first | rfl | exact trivial | exact fun h => h | exact fun h => (by rw [h]; rfl) | apply And.intro | omega | exact Nat.le_of_ble_eq_true rfl))) ?_
          refine Tr.cond rfl (fun h80 => ?_) (fun h80 => ?_)
          · have hnw : 0 ≤ T ∧ T.toNat ∉ o2 := by
              rw [Bool.and_eq_true, decide_eq_true_eq, List.all_eq_true] at h80
              refine ⟨h80.1, fun hc => ?_⟩
              have := h80.2 _ hc
              rw [bne_iff_ne] at this
              omega
            obtain ⟨y, hy⟩ := Int.eq_ofNat_of_zero_le hnw.1
            have hadd := hok2.add hpm hxm (y := y) (by have := end_new (p := l.getD k default) (x := x) (by omega); rw [← hTd, hy] at this; simpa using this) (by have := hnw.2; rw [hy] at this; simpa using this)
            have hsk : Shut (o2 ++ [y]) x (l.getD k default) := shut_end hpp (List.mem_append_left _ hxm) (.inr (by rw [← hTd, hy]; simp))
            have hsq : ∀ q, q < k + 1 → Shut (o2 ++ [y]) x (l.getD q default) := fun q hq => by
              by_cases hqk : q = k
              · subst hqk; exact hsk
              · exact (hsh q (by omega)).more fun z hz => List.mem_append_left _ hz
            rw [hy]
            have hk2 : (o2.length + 1 ≤ 1073741824) = True := eq_true (by have := hok2.len; omega)
            refine Tr.reg1 [0, 2, 7, 8, 9] (by
                simp only [↓sxd, sxu, ↓zE, ↓exq, ↓zB, St.keep, ↓zG, ↓zQ, Nat.reduceBEq, Nat.reduceAdd, Nat.reduceLT, Nat.reduceLeDiff, Nat.reduceEqDiff, sxe, tysW39_56, hk2]
                (repeat' (first | rfl | exact trivial | exact fun h => h | exact fun h => (by rw [h]; rfl) | apply And.intro | omega | exact Nat.le_of_ble_eq_true rfl))) ?_
            have w2 : IntKind.i64.wrap ((k : Int) + 1) = ((k + 1 : Nat) : Int) := by rw [wr (by omega) (by omega)]; rfl
            refine Tr.reg1 [0, 2, 7, 8, 9] (by
                simp only [↓sxd, sxu, ↓zE, ↓exq, St.keep, Nat.reduceBEq, Nat.reduceLT, w2]
                (repeat' (first | rfl | exact trivial | exact fun h => h | exact fun h => (by rw [h]; rfl) | apply And.intro | omega | exact Nat.le_of_ble_eq_true rfl))) ?_
            first |(have hq := hadd; exact ⟨_, _, by omega, Imp.go (fun i => i + 1) [_] rfl rfl (.refl _) (fun _ h => absurd h (Nat.not_lt_zero _)) (fun id h => Nat.succ_le_succ h) (by simp only [List.length_append, List.length_cons, List.length_nil, Nat.zero_add, Int.natCast_add, Int.natCast_one]; repeat' (first | exact TmT.cons rfl (TnS.d _) ?_ | exact trivial | exact F2.nil | refine F2.append ?_ ?_ | refine F2.map fun _ _ => ?_ | refine F2.cons ?_ ?_ | refine TmT.cons rfl ?_ ?_ | exact TnS.d _ | exact TnS.dx _ | exact TnS.dp _ | exact TnS.slc rfl | exact TnS.ptr rfl | refine TnS.frzf rfl (by simp) (by simp) (by simp) ?_ | refine TnS.frz0 rfl (by simp) (by simp) (by simp) ?_ | refine TnS.frzm rfl (by simp) ?_ | exact TnS.mapr rfl | exact TnS.yld rfl | refine ⟨rfl, ?_⟩ | refine TnO.arr ?_ | refine TnO.map ?_ | exact TnO.raw _ | exact TnO.iter _ _ | refine TnS.agg ?_ | refine TnS.tup ?_ | exact TnS.pure (Pure.clo (by assumption) (by assumption)) | refine TnS.clo ?_ ?_ | exact TnS.unk _ | exact TnS.pure (Pure.clo (by assumption) (by assumption)))) (by simp only [List.map_append, List.map_cons, List.map_nil]; repeat' (first | exact TmT.cons rfl (TnS.d _) ?_ | exact trivial | exact F2.nil | refine F2.append ?_ ?_ | refine F2.map fun _ _ => ?_ | refine F2.cons ?_ ?_ | refine TmT.cons rfl ?_ ?_ | exact TnS.d _ | exact TnS.dx _ | exact TnS.dp _ | exact TnS.slc rfl | exact TnS.ptr rfl | refine TnS.frzf rfl (by simp) (by simp) (by simp) ?_ | refine TnS.frz0 rfl (by simp) (by simp) (by simp) ?_ | refine TnS.frzm rfl (by simp) ?_ | exact TnS.mapr rfl | exact TnS.yld rfl | refine ⟨rfl, ?_⟩ | refine TnO.arr ?_ | refine TnO.map ?_ | exact TnO.raw _ | exact TnO.iter _ _ | refine TnS.agg ?_ | refine TnS.tup ?_ | exact TnS.pure (Pure.clo (by assumption) (by assumption)) | refine TnS.clo ?_ ?_ | exact TnS.unk _ | exact TnS.pure (Pure.clo (by assumption) (by assumption)))) (fun _ => rfl), ⟨k + 1, o2 ++ [y], ⟨hlk, hadd, ⟨ex ++ [y], by rw [hex, List.append_assoc]⟩, hsq⟩, rfl, rfl⟩⟩) |(exact ⟨_, _, by omega, Imp.keepAll, ⟨k + 1, o2, ⟨hlk, hok2, ⟨ex, hex⟩, hsq⟩, rfl, rfl⟩⟩)
          · have hsk : Shut o2 x (l.getD k default) := shut_end hpp hxm (by
              rw [← hTd]
              by_cases h0 : T < 0
              · exact .inl h0
              · right
                rw [decide_eq_true (by omega), Bool.true_and, List.all_eq_false] at h80
                obtain ⟨n, hn, hn2⟩ := h80
                have : (n : Int) = T := by simpa using hn2
                rw [← this]; simpa using hn)
            have hsq : ∀ q, q < k + 1 → Shut o2 x (l.getD q default) := fun q hq => by
              by_cases hqk : q = k
              · subst hqk; exact hsk
              · exact hsh q (by omega)
            refine Tr.skip ?_
            have w2 : IntKind.i64.wrap ((k : Int) + 1) = ((k + 1 : Nat) : Int) := by rw [wr (by omega) (by omega)]; rfl
            refine Tr.reg1 [0, 2, 7, 8, 9] (by
                simp only [↓sxd, sxu, ↓zE, ↓exq, St.keep, Nat.reduceBEq, Nat.reduceLT, w2]
                (repeat' (first | rfl | exact trivial | exact fun h => h | exact fun h => (by rw [h]; rfl) | apply And.intro | omega | exact Nat.le_of_ble_eq_true rfl))) ?_
            first |(have hq := hadd; exact ⟨_, _, by omega, Imp.go (fun i => i + 1) [_] rfl rfl (.refl _) (fun _ h => absurd h (Nat.not_lt_zero _)) (fun id h => Nat.succ_le_succ h) (by simp only [List.length_append, List.length_cons, List.length_nil, List.length_map, List.map_append, List.map_cons, List.map_nil, Nat.zero_add, Nat.add_zero, Int.natCast_add, Int.natCast_one, Int.natCast_zero, List.append_assoc, List.nil_append]; repeat' (first | exact TmT.cons rfl (TnS.d _) ?_ | exact trivial | exact F2.nil | refine F2.append ?_ ?_ | refine F2.map fun _ _ => ?_ | refine F2.cons ?_ ?_ | refine TmT.cons rfl ?_ ?_ | exact TnS.d _ | exact TnS.dx _ | exact TnS.dp _ | exact TnS.slc rfl | exact TnS.ptr rfl | refine TnS.frzf rfl (by simp) (by simp) (by simp) ?_ | refine TnS.frz0 rfl (by simp) (by simp) (by simp) ?_ | refine TnS.frzm rfl (by simp) ?_ | exact TnS.mapr rfl | exact TnS.yld rfl | refine ⟨rfl, ?_⟩ | refine TnO.arr ?_ | refine TnO.map ?_ | exact TnO.raw _ | exact TnO.iter _ _ | refine TnS.agg ?_ | refine TnS.tup ?_ | exact TnS.pure (Pure.clo (by assumption) (by assumption)) | refine TnS.clo ?_ ?_ | exact TnS.unk _ | exact TnS.pure (Pure.clo (by assumption) (by assumption)))) (by simp only [List.length_append, List.length_cons, List.length_nil, List.length_map, List.map_append, List.map_cons, List.map_nil, Nat.zero_add, Nat.add_zero, Int.natCast_add, Int.natCast_one, Int.natCast_zero, List.append_assoc, List.nil_append]; repeat' (first | exact TmT.cons rfl (TnS.d _) ?_ | exact trivial | exact F2.nil | refine F2.append ?_ ?_ | refine F2.map fun _ _ => ?_ | refine F2.cons ?_ ?_ | refine TmT.cons rfl ?_ ?_ | exact TnS.d _ | exact TnS.dx _ | exact TnS.dp _ | exact TnS.slc rfl | exact TnS.ptr rfl | refine TnS.frzf rfl (by simp) (by simp) (by simp) ?_ | refine TnS.frz0 rfl (by simp) (by simp) (by simp) ?_ | refine TnS.frzm rfl (by simp) ?_ | exact TnS.mapr rfl | exact TnS.yld rfl | refine ⟨rfl, ?_⟩ | refine TnO.arr ?_ | refine TnO.map ?_ | exact TnO.raw _ | exact TnO.iter _ _ | refine TnS.agg ?_ | refine TnS.tup ?_ | exact TnS.pure (Pure.clo (by assumption) (by assumption)) | refine TnS.clo ?_ ?_ | exact TnS.unk _ | exact TnS.pure (Pure.clo (by assumption) (by assumption)))) (fun _ => rfl), ⟨k + 1, o2 ++ [y], ⟨hlk, hadd, ⟨ex ++ [y], by rw [hex, List.append_assoc]⟩, hsq⟩, rfl, rfl⟩⟩) |(exact ⟨_, _, by omega, Imp.keepAll, ⟨k + 1, o2, ⟨hlk, hok2, ⟨ex, hex⟩, hsq⟩, rfl, rfl⟩⟩)
      · have hke : k = l.length := by have := of_decide_eq_false h30; omega
        refine Tr.exit ?_
        have w3 : IntKind.i64.wrap ((i : Int) + 1) = ((i + 1 : Nat) : Int) := by rw [wr (by omega) (by omega)]; rfl
        refine Tr.reg1 [0, 2, 7, 8] (by
            simp only [↓sxd, sxu, ↓zE, ↓exq, St.keep, Nat.reduceBEq, Nat.reduceLT, w3]
            (repeat' (first | rfl | exact trivial | exact fun h => h | exact fun h => (by rw [h]; rfl) | apply And.intro | omega | exact Nat.le_of_ble_eq_true rfl))) ?_
        refine ⟨_, _, ?_, Imp.keepAll, ⟨i + 1, o2, ⟨hi2, hok2, fun j hj p hp => ?_, fun j hj => ?_⟩, rfl, rfl⟩⟩
        · omega
        · by_cases hji : j = i
          · subst hji
            rw [hxo]
            obtain ⟨q, hq, rfl⟩ := List.getElem_of_mem hp
            have := hsh q (by omega)
            rwa [show l.getD q default = l[q] by simp [List.getD_eq_getElem?_getD, hq]] at this
          · rw [hpre j (by omega)]
            exact (hdone j (by omega) p hp).more fun z hz => by rw [hex]; exact List.mem_append_left _ hz
        · by_cases hji : j = i
          · subst hji; rw [hxo, hx]; exact hbe
          · rw [hpre j (by omega)]; exact hnb j (by omega)
  · have hge : i = o.length := by have := of_decide_eq_false h18; omega
    have hrf : r = false := by
      rw [← Bool.not_eq_true, hr, hok.all fun x hx p hp => by
        obtain ⟨j, hj, rfl⟩ := List.getElem_of_mem hx
        have := hdone j (by omega) p hp
        rwa [show o.getD j 0 = o[j] by simp [List.getD_eq_getElem?_getD, hj]] at this]
      intro hb
      obtain ⟨j, hj, rfl⟩ := List.getElem_of_mem hb
      exact hnb j (by omega) (by simp [List.getD_eq_getElem?_getD, hj])
    rw [hrf]
    refine Tr.exit ?_
    refine Tr.reg [6] (by
        simp only [↓sxd, sxu, ↓zE, ↓exq, St.keep, Nat.reduceLT]
        (repeat' (first | rfl | exact trivial | exact fun h => h | exact fun h => (by rw [h]; rfl) | apply And.intro | omega | exact Nat.le_of_ble_eq_true rfl))) ?_
    refine Tr.ret ?_
    (refine ⟨.inr rfl, ?_⟩; first | rfl | exact ⟨rfl, rfl, trivial⟩ | exact ⟨rfl, rfl, rfl, trivial⟩ | (simp only [Res, ResL, ResOK, ↓sxd, sxu, ↓zE, ↓zC, zK, ↓exP, ↓exq, ↓zB, St.keep, ↓zH, ↓zL, ↓zJ, ↓zD, ↓zG, ↓zQ, ↓zA, Nat.reduceBEq, Nat.reduceAdd, Nat.reduceLT, Nat.reduceMul, Nat.reduceSub, Nat.reduceLeDiff, Nat.reduceEqDiff, Int.reduceLE, Int.reduceLT, Int.reduceToNat, reduceIte, implies_true, sxe, tysW39_56]; (repeat' (first | rfl | exact trivial | exact fun h => h | exact fun h => (by rw [h]; rfl) | apply And.intro | omega | exact Nat.le_of_ble_eq_true rfl))))
theorem fine_both {c : Census} {i k : Nat} (hi : i < c.entries.length) (hk : k < c.entries.length) : c.both i k = true := by
  rw [both_iff]; omega
theorem all_some {c : Census} (h : Fine c) (hc : c.cons = true) : c.all ≠ [] := fun he => by
  rw [(all_nil h).1 he] at hc; cases hc
abbrev tysW39_15 := And.intro ty.sz0 <| And.intro ty.agg0 <| And.intro ty.elem0 <| And.intro ty.sz3 <| And.intro ty.agg3 <| And.intro ty.elem3 <| And.intro ty.zero3 <| And.intro ty.und3 <| And.intro ty.sz4 <| And.intro ty.agg4 <| And.intro ty.elem4 <| And.intro ty.zero4 <| And.intro ty.und4 <| And.intro ty.sz5 <| And.intro ty.agg5 <| And.intro ty.elem5 <| And.intro ty.zero5 <| And.intro ty.und5 <| And.intro ty.sz22 <| And.intro ty.agg22 <| And.intro ty.elem22 <| And.intro ty.by22 <| And.intro ty.ez22 <| And.intro ty.zero22 <| And.intro ty.und22 <| And.intro ty.sz23 <| And.intro ty.agg23 <| And.intro ty.elem23 <| And.intro ty.by23 <| And.intro ty.ez23 <| And.intro ty.zero23 <| And.intro ty.und23 <| And.intro ty.sz25 <| And.intro ty.agg25 <| And.intro ty.fld25_0 <| And.intro ty.fld25_1 <| And.intro ty.elem25 <| And.intro ty.zero25 <| And.intro ty.pl25 <| And.intro ty.sz27 <| And.intro ty.agg27 <| And.intro ty.fld27_0 <| And.intro ty.fld27_1 <| And.intro ty.fld27_2 <| And.intro ty.fld27_3 <| And.intro ty.fld27_4 <| And.intro ty.elem27 <| And.intro ty.zero27 <| And.intro ty.pl27 <| And.intro ty.sz30 <| And.intro ty.agg30 <| And.intro ty.fld30_0 <| And.intro ty.fld30_1 <| And.intro ty.elem30 <| And.intro ty.zero30 <| And.intro ty.pl30 <| And.intro ty.sz31 <| And.intro ty.agg31 <| And.intro ty.elem31 <| And.intro ty.zero31 <| And.intro ty.und31 <| And.intro ty.sz32 <| And.intro ty.agg32 <| And.intro ty.elem32 <| And.intro ty.sz37 <| And.intro ty.agg37 <| And.intro ty.fld37_0 <| And.intro ty.fld37_1 <| And.intro ty.fld37_2 <| And.intro ty.fld37_3 <| And.intro ty.fld37_4 <| And.intro ty.elem37 <| And.intro ty.zero37 <| And.intro ty.pl37 <| And.intro ty.sz73 <| And.intro ty.agg73 <| And.intro ty.fld73_0 <| And.intro ty.fld73_1 <| And.intro ty.elem73 <| And.intro ty.zero73 <| And.intro ty.pl73 <| And.intro ty.sz91 <| And.intro ty.agg91 <| ty.elem91
set_option maxHeartbeats 4000000 in
theorem SheetFree_c (c : Census) (a b : Nat) (ha : a < 256) (hb : b < 256) : CallP Tryd.prog G0 15 [c.s, .d (.lit (.int .u8 (a : Nat))), .d (.lit (.int .u8 (b : Nat)))] (B true) := by
  refine CallP.body 120 [.tmp 6] Tryd.func15 (by kernel_rfl) rfl rfl rfl (by repeat' (first | exact Pure.d _ | exact Pure.dx _ | exact Pure.dp _ | exact fa_nil | refine fa_cons ?_ ?_ | refine Pure.agg ?_ | refine Pure.tup ?_ | refine Pure.clo ?_ ?_ | refine Pure.fp ?_ | exact Pure.mapd _ | assumption)) (by repeat' (first | exact Pure.d _ | exact Pure.dx _ | exact Pure.dp _ | exact fa_nil | refine fa_cons ?_ ?_ | refine Pure.agg ?_ | refine Pure.tup ?_ | refine Pure.clo ?_ ?_ | refine Pure.fp ?_ | exact Pure.mapd _ | assumption)) ?_
  refine Tr.reg [1, 2, 3] (by
      simp only [↓sxd, sxu, ↓zE, ↓exq, St.keep, ↓zI, Nat.reduceBEq, Nat.reduceAdd, Nat.reduceLT, Nat.reduceEqDiff]
      (repeat' (first | rfl | exact trivial | exact fun h => h | exact fun h => (by rw [h]; rfl) | apply And.intro | omega | exact Nat.le_of_ble_eq_true rfl))) ?_
  refine Tr.reg [1, 2, 3] (by
      simp only [↓sxd, sxu, ↓zE, ↓exq, St.keep, ↓zO, ↓zA, Nat.reduceBEq, Nat.reduceAdd, Nat.reduceLT, Nat.reduceLeDiff, Nat.reduceEqDiff, tysW39_15]
      (repeat' (first | rfl | exact trivial | exact fun h => h | exact fun h => (by rw [h]; rfl) | apply And.intro | omega | exact Nat.le_of_ble_eq_true rfl))) ?_
  obtain ⟨d, hd⟩ : ∃ d : Census, d = { c with number := ⟨0, 200⟩ } := ⟨_, rfl⟩
  have hdn : d.number = ⟨0, 200⟩ := by rw [hd]
  refine Tr.imp (st' := ⟨[(1, .d (.lit (.int .u8 (a : Nat)))), (2, .d (.lit (.int .u8 (b : Nat)))), (3, .ptr 0 0 0)], [(0, .arr 7 [cs d (SP d.same) (SP d.apart)])], 1, 120, [], 0⟩) (by subst hd; exact Imp.keepAll) ?_
  refine Tr.reg [1, 2, 3, 7] (by
      simp only [↓sxd, sxu, ↓zE, ↓exq, ↓zB, St.keep, ↓zJ, ↓zD, ↓zA, Nat.reduceBEq, Nat.reduceAdd, Nat.reduceLT, Nat.reduceEqDiff, sxe, tysW39_15]
      (repeat' (first | rfl | exact trivial | exact fun h => h | exact fun h => (by rw [h]; rfl) | apply And.intro | omega | exact Nat.le_of_ble_eq_true rfl))) ?_
  refine Tr.seq ?_
  refine Tr.reg [1, 2, 3, 7, 39] (by
      simp only [↓sxd, sxu, ↓zE, ↓exq, St.keep, ↓zD, Nat.reduceBEq, Nat.reduceAdd, Nat.reduceLT, tysW39_15]
      (repeat ((with_reducible refine And.intro ?_ ?_); (focus (first | with_reducible rfl | trivial | exact fun h => h | exact fun h => (by rw [h]; rfl) | omega | assumption))))
      refine CallO.use (Thin_c _ d) ?_
      try simp only [↓sxd, sxu, ↓zE, ↓exq, ↓zL, Nat.reduceLT]
      (repeat ((with_reducible refine And.intro ?_ ?_); (focus (first | with_reducible rfl | trivial | exact fun h => h | exact fun h => (by rw [h]; rfl) | omega | assumption))))
      refine GdO.mk _ (fun hg => by simp only [sxu, ↓exq, ↓zD, Nat.reduceBEq, Nat.reduceAdd, Nat.reduceLT, tysW39_15]; (repeat' (first | rfl | exact trivial | exact fun h => h | exact fun h => (by rw [h]; rfl) | apply And.intro | omega | exact Nat.le_of_ble_eq_true rfl))) ?_
      simp only [↓sxd, sxu, ↓zE, Nat.reduceBEq, Nat.reduceLT]
      (repeat ((with_reducible refine And.intro ?_ ?_); (focus (first | with_reducible rfl | trivial | exact fun h => h | exact fun h => (by rw [h]; rfl) | omega | assumption))))
      refine GdO.mk (I d.check) (fun hg => by
        obtain ⟨h1, h2, h3⟩ := thin_len (by simpa using hg)
        simp only [sxu, ↓exq, ↓zB, hg]
        (repeat ((with_reducible refine And.intro ?_ ?_); (focus (first | with_reducible rfl | trivial | exact fun h => h | exact fun h => (by rw [h]; rfl) | omega | assumption))))
        exact CallP.use (fault_c d (by omega) (by omega) (by omega)) ⟨rfl, rfl, rfl⟩) ?_
      try simp only [↓sxd, sxu, ↓zE, Nat.reduceBEq, Nat.reduceLT]
      iterate 7
        (repeat ((with_reducible refine And.intro ?_ ?_); (focus (first | with_reducible rfl | trivial | exact fun h => h | exact fun h => (by rw [h]; rfl) | omega | assumption))))
        refine GdO.mk _ (fun hg => by simp only [↓sxd, sxu, ↓exq, ↓zB, ↓zJ, ↓zD, ↓zA, Nat.reduceBEq, Nat.reduceAdd, Nat.reduceLT, Nat.reduceEqDiff, sxe, tysW39_15, hg]; (repeat' (first | rfl | exact trivial | exact fun h => h | exact fun h => (by rw [h]; rfl) | apply And.intro | omega | exact Nat.le_of_ble_eq_true rfl))) ?_
        simp only [↓sxd, sxu, ↓zE, ↓exq, ↓zH, Nat.reduceBEq, Nat.reduceLT]
      (repeat' (first | rfl | exact trivial | exact fun h => h | exact fun h => (by rw [h]; rfl) | apply And.intro | omega | exact Nat.le_of_ble_eq_true rfl))) ?_
  refine Tr.cond rfl (fun h39 => ?_) (fun h39 => ?_)
  · refine Tr.reg [6] (by
        simp only [↓sxd, sxu, ↓zE, St.keep, Nat.reduceLT]
        (repeat ((with_reducible refine And.intro ?_ ?_); (focus (first | with_reducible rfl | trivial | exact fun h => h | exact fun h => (by rw [h]; rfl) | omega | assumption))))
        refine CallO.use (awake_c) ?_
        try simp only [↓sxd, sxu, ↓zE, ↓exq, Nat.reduceLT]
        (repeat' (first | rfl | exact trivial | exact fun h => h | exact fun h => (by rw [h]; rfl) | apply And.intro | omega | exact Nat.le_of_ble_eq_true rfl))) ?_
    refine Tr.ret ?_
    (refine ⟨.inr rfl, ?_⟩; first | rfl | exact ⟨rfl, rfl, trivial⟩ | exact ⟨rfl, rfl, rfl, trivial⟩ | (simp only [Res, ResL, ResOK, ↓sxd, sxu, ↓zE, ↓zC, zK, ↓exP, ↓exq, ↓zB, St.keep, ↓zH, ↓xB, ↓zL, ↓zJ, ↓zD, ↓zN, ↓zM, ↓zI, ↓zO, ↓zG, ↓zQ, ↓zA, Nat.reduceBEq, Nat.reduceAdd, Nat.reduceLT, Nat.reduceMul, Nat.reduceSub, Nat.reduceLeDiff, Nat.reduceEqDiff, Int.reduceLE, Int.reduceLT, Int.reduceToNat, reduceIte, implies_true, sxe, tysW39_15]; (repeat' (first | rfl | exact trivial | exact fun h => h | exact fun h => (by rw [h]; rfl) | apply And.intro | omega | exact Nat.le_of_ble_eq_true rfl))))
  · have hF : d.thin = true ∧ d.check = 0 ∧ d.entries.length ≠ 0 ∧ d.same.length ≤ 5 := by
      simp only [Bool.or_eq_false_iff, Bool.not_eq_false', bne_eq_false_iff_eq, decide_eq_false_iff_not, beq_eq_false_iff_ne, ne_eq] at h39
      obtain ⟨⟨⟨p, q⟩, r⟩, t⟩ := h39
      exact ⟨p, q, by omega, by omega⟩
    obtain ⟨hth, hck, hn0, hs5⟩ := hF
    have hf := fine_iff.1 hck
    have hsm := small_thin hth
    have h10 := hf.n10
    obtain ⟨i, hi⟩ : ∃ i, i = a % d.entries.length := ⟨_, rfl⟩
    have hil : i < d.entries.length := by rw [hi]; exact Nat.mod_lt _ (by omega)
    obtain ⟨k, hk⟩ : ∃ k, k = b % d.entries.length := ⟨_, rfl⟩
    have hkl : k < d.entries.length := by rw [hk]; exact Nat.mod_lt _ (by omega)
    have hne0 : ((d.entries.length : Int) = 0) = False := eq_false (by omega)
    have hbo := fine_both hil hkl
    have hT := Together_c d i k hsm
    have hR : (d.cons = true ∧ d.together i k = (someOf d.all i k, everyOf d.all i k, 0)) ∨ (d.together i k = (false, false, 9)) := by
      have ht := fine_tried hf
      cases hq : d.cons with
      | true =>
        left
        rw [hq] at ht
        refine ⟨rfl, ?_⟩
        have := together_law (c := d) (a := i) (b := k) (by rw [hbo]; exact ht)
        simpa using this
      | false =>
        right
        rw [hq] at ht
        have ht : d.tried true = 9 := ht
        have := together_err (c := d) (a := i) (b := k) (by rw [hbo, ht]; decide)
        rw [this, hbo, ht]
    obtain ⟨can, must, e, hRe⟩ : ∃ x y z, d.together i k = (x, y, z) := ⟨_, _, _, rfl⟩
    rw [hRe] at hT hR
    refine Tr.skip ?_
    refine Tr.regD [0, 1, 2, 3, 4, 5, 6, 7, 8, 9] [] [] [3, 8, 9] mix (by kernel_rfl) (by
        simp only [↓sxd, sxu, ↓zC, zK, ↓exq, St.keep, ↓xB, Nat.reduceBEq, Nat.reduceLT, tysW39_15, wi (show a < 9223372036854775808 by omega), wi (show b < 9223372036854775808 by omega), tmod_n, ← hi, ← hk, hne0]
        (repeat' (first | rfl | exact trivial | exact fun h => h | exact fun h => (by rw [h]; rfl) | apply And.intro | omega | exact Nat.le_of_ble_eq_true rfl))) ?_
    refine Tr.reg [3, 8, 9, 10, 11, 12] (by
        simp only [↓sxd, sxu, ↓zE, ↓exq, St.keep, ↓zD, Nat.reduceAdd, Nat.reduceLT, tysW39_15]
        (repeat ((with_reducible refine And.intro ?_ ?_); (focus (first | with_reducible rfl | trivial | exact fun h => h | exact fun h => (by rw [h]; rfl) | omega | assumption))))
        refine CallO.use (lCensus_c d hsm) ?_
        try simp only [↓sxd, sxu, ↓zE, ↓exq, Nat.reduceBEq, Nat.reduceLT]
        (repeat ((with_reducible refine And.intro ?_ ?_); (focus (first | with_reducible rfl | trivial | exact fun h => h | exact fun h => (by rw [h]; rfl) | omega | assumption))))
        refine CallO.use (hT) ?_
        try simp only [↓sxd, sxu, ↓zE, ↓exq, ↓zN, Nat.reduceBEq, Nat.reduceAdd, Nat.reduceLT]
        (repeat' (first | rfl | exact trivial | exact fun h => h | exact fun h => (by rw [h]; rfl) | apply And.intro | omega | exact Nat.le_of_ble_eq_true rfl))) ?_
    refine Tr.seq ?_
    refine Tr.reg [3, 8, 9, 10, 11, 12, 59] (by
        simp only [↓sxd, sxu, ↓zE, ↓exq, St.keep, Nat.reduceBEq, Nat.reduceLT]
        (repeat' (first | rfl | exact trivial | exact fun h => h | exact fun h => (by rw [h]; rfl) | apply And.intro | omega | exact Nat.le_of_ble_eq_true rfl))) ?_
    refine Tr.cond rfl (fun h59 => ?_) (fun h59 => ?_)
    · have hE : can = false ∧ must = false ∧ e = 9 := by
        rcases hR with ⟨_, h⟩ | h
        · simp only [Prod.mk.injEq] at h
          rw [h.2.2] at h59; cases h59
        · simpa using h
      obtain ⟨rfl, rfl, rfl⟩ := hE
      refine Tr.reg [6] (by
          simp only [↓sxd, sxu, ↓zE, ↓exq, St.keep, Nat.reduceBEq, Nat.reduceLT]
          iterate 4
            (repeat ((with_reducible refine And.intro ?_ ?_); (focus (first | with_reducible rfl | trivial | exact fun h => h | exact fun h => (by rw [h]; rfl) | omega | assumption))))
            refine GdO.mk _ (fun hg => by simp only [sxu, ↓exq, ↓zL, Nat.reduceBEq, hg]; (repeat' (first | rfl | exact trivial | exact fun h => h | exact fun h => (by rw [h]; rfl) | apply And.intro | omega | exact Nat.le_of_ble_eq_true rfl))) ?_
            simp only [↓sxd, sxu, ↓zE, ↓exq, ↓zH, Nat.reduceBEq, Nat.reduceLT]
          (repeat ((with_reducible refine And.intro ?_ ?_); (focus (first | with_reducible rfl | trivial | exact fun h => h | exact fun h => (by rw [h]; rfl) | omega | assumption))))
          refine GdO.mk _ (fun hg => by simp only [sxu, ↓exq, ↓zB, hg]; (repeat ((with_reducible refine And.intro ?_ ?_); (focus (first | with_reducible rfl | trivial | exact fun h => h | exact fun h => (by rw [h]; rfl) | omega | assumption)))); exact CallP.use (awake_c) ⟨rfl, rfl, rfl⟩) ?_
          simp only [↓sxd, sxu, ↓zE, ↓exq, ↓zH, Nat.reduceBEq, Nat.reduceLT]
          (repeat' (first | rfl | exact trivial | exact fun h => h | exact fun h => (by rw [h]; rfl) | apply And.intro | omega | exact Nat.le_of_ble_eq_true rfl))) ?_
      refine Tr.ret ?_
      (refine ⟨.inr rfl, ?_⟩; first | rfl | exact ⟨rfl, rfl, trivial⟩ | exact ⟨rfl, rfl, rfl, trivial⟩ | (simp only [Res, ResL, ResOK, ↓sxd, sxu, ↓zE, ↓zC, zK, ↓exP, ↓exq, ↓zB, St.keep, ↓zH, ↓xB, ↓zL, ↓zJ, ↓zD, ↓zN, ↓zM, ↓zI, ↓zO, ↓zG, ↓zQ, ↓zA, Nat.reduceBEq, Nat.reduceAdd, Nat.reduceLT, Nat.reduceMul, Nat.reduceSub, Nat.reduceLeDiff, Nat.reduceEqDiff, Int.reduceLE, Int.reduceLT, Int.reduceToNat, reduceIte, implies_true, sxe, tysW39_15]; (repeat' (first | rfl | exact trivial | exact fun h => h | exact fun h => (by rw [h]; rfl) | apply And.intro | omega | exact Nat.le_of_ble_eq_true rfl))))
    · have hE : d.cons = true ∧ can = someOf d.all i k ∧ must = everyOf d.all i k ∧ e = 0 := by
        rcases hR with ⟨h0, h⟩ | h
        · simp only [Prod.mk.injEq] at h
          exact ⟨h0, h⟩
        · simp only [Prod.mk.injEq] at h
          rw [h.2.2] at h59; cases h59
      obtain ⟨hcons, hcan, hmust, rfl⟩ := hE
      have hall := all_some hf hcons
      have hml := must_law hf hdn hil hkl hall
      rw [← hmust] at hml
      refine Tr.skip ?_
      refine Tr.seq ?_
      refine Tr.reg [3, 8, 9, 10, 79] (by
          simp only [↓sxd, sxu, ↓zE, ↓exq, St.keep, ↓zD, ↓zA, Nat.reduceBEq, Nat.reduceAdd, Nat.reduceLT, Nat.reduceEqDiff, tysW39_15]
          (repeat ((with_reducible refine And.intro ?_ ?_); (focus (first | with_reducible rfl | trivial | exact fun h => h | exact fun h => (by rw [h]; rfl) | omega | assumption))))
          refine CallO.use (chained_c d.same i k (by omega) (fun p hp => by have := hf.ps p hp; rw [pair_iff] at this; omega) must hml) ?_
          try simp only [↓sxd, sxu, ↓zE, ↓exq, Nat.reduceBEq, Nat.reduceLT, tysW39_15]
          (repeat' (first | rfl | exact trivial | exact fun h => h | exact fun h => (by rw [h]; rfl) | apply And.intro | omega | exact Nat.le_of_ble_eq_true rfl))) ?_
      refine Tr.cond rfl (fun h79 => ?_) (fun h79 => ?_)
      · simp at h79
      · refine Tr.skip ?_
        refine Tr.seq ?_
        refine Tr.reg [3, 8, 9, 10, 82] (by
            simp only [↓sxd, sxu, ↓zE, ↓exq, St.keep, Nat.reduceBEq, Nat.reduceLT]
            (repeat' (first | rfl | exact trivial | exact fun h => h | exact fun h => (by rw [h]; rfl) | apply And.intro | omega | exact Nat.le_of_ble_eq_true rfl))) ?_
        refine Tr.cond rfl (fun h82 => ?_) (fun h82 => ?_)
        · have hik : i = k := by have := beq_iff_eq.1 h82; omega
          have hct : can = true := by
            rw [hcan, hik]
            obtain ⟨v, hv⟩ := List.exists_mem_of_ne_nil _ hall
            unfold someOf
            rw [List.any_eq_true]
            exact ⟨v, hv, by simp⟩
          refine Tr.reg [6] (by
              simp only [↓sxd, sxu, ↓zE, ↓exq, St.keep, Nat.reduceBEq, Nat.reduceLT, hct]
              (repeat ((with_reducible refine And.intro ?_ ?_); (focus (first | with_reducible rfl | trivial | exact fun h => h | exact fun h => (by rw [h]; rfl) | omega | assumption))))
              refine GdO.mk _ (fun hg => by simp only [sxu, ↓exq, ↓zB]; (repeat ((with_reducible refine And.intro ?_ ?_); (focus (first | with_reducible rfl | trivial | exact fun h => h | exact fun h => (by rw [h]; rfl) | omega | assumption)))); exact CallP.use (awake_c) ⟨rfl, rfl, rfl⟩) ?_
              simp only [↓sxd, sxu, ↓zE, ↓exq, ↓zH, Nat.reduceBEq, Nat.reduceLT]
              (repeat' (first | rfl | exact trivial | exact fun h => h | exact fun h => (by rw [h]; rfl) | apply And.intro | omega | exact Nat.le_of_ble_eq_true rfl))) ?_
          refine Tr.ret ?_
          (refine ⟨.inr rfl, ?_⟩; first | rfl | exact ⟨rfl, rfl, trivial⟩ | exact ⟨rfl, rfl, rfl, trivial⟩ | (simp only [Res, ResL, ResOK, ↓sxd, sxu, ↓zE, ↓zC, zK, ↓exP, ↓exq, ↓zB, St.keep, ↓zH, ↓xB, ↓zL, ↓zJ, ↓zD, ↓zN, ↓zM, ↓zI, ↓zO, ↓zG, ↓zQ, ↓zA, Nat.reduceBEq, Nat.reduceAdd, Nat.reduceLT, Nat.reduceMul, Nat.reduceSub, Nat.reduceLeDiff, Nat.reduceEqDiff, Int.reduceLE, Int.reduceLT, Int.reduceToNat, reduceIte, implies_true, sxe, tysW39_15]; (repeat' (first | rfl | exact trivial | exact fun h => h | exact fun h => (by rw [h]; rfl) | apply And.intro | omega | exact Nat.le_of_ble_eq_true rfl))))
        · have hik : i ≠ k := fun hc => by rw [hc] at h82; simp at h82
          have hcl := can_law hf hs5 hil hkl hik
          rw [← hcan] at hcl
          obtain ⟨x, hxd⟩ : ∃ x : Census, x = d.with i k true := ⟨_, rfl⟩
          rw [← hxd] at hcl
          obtain ⟨hfx, hex⟩ := hcl
          have hQ := PersonsF_c x hfx
          obtain ⟨r2, o2, e2, he2⟩ : ∃ r o e, x.personsS = (r, o, e) := ⟨_, _, _, rfl⟩
          rw [he2] at hQ hex
          have hex : e2 = if can then 0 else 9 := hex
          refine Tr.skip ?_
          refine Tr.reg [3, 8, 9, 10, 13] (by
              simp only [↓sxd, sxu, ↓zE, ↓exq, St.keep, ↓zD, ↓zM, Nat.reduceBEq, Nat.reduceAdd, Nat.reduceLT, Nat.reduceEqDiff, tysW39_15]
              (repeat' (first | rfl | exact trivial | exact fun h => h | exact fun h => (by rw [h]; rfl) | apply And.intro | omega | exact Nat.le_of_ble_eq_true rfl))) ?_
          have hd1 : (d.same.length ≤ 1073741824) = True := eq_true (by omega)
          have hd2 : (d.same.length + 1 ≤ 1073741824) = True := eq_true (by omega)
          refine Tr.reg [10, 13] (by
              simp only [↓sxd, sxu, ↓zE, ↓exq, ↓zB, St.keep, ↓zD, ↓zO, ↓zG, ↓zQ, ↓zA, Nat.reduceBEq, Nat.reduceAdd, Nat.reduceLT, Nat.reduceLeDiff, Nat.reduceEqDiff, tysW39_15, src_pp, pp_all, pp_len, hd1, hd2]
              (repeat' (first | rfl | exact trivial | exact fun h => h | exact fun h => (by rw [h]; rfl) | apply And.intro | omega | exact Nat.le_of_ble_eq_true rfl))) ?_
          refine Tr.imp (st' := ⟨[(10, B can), (13, .ptr 1 0 0)], [(1, .arr 7 [cs x (SP x.same) (SP x.apart)])], 4, 120, [], 0⟩) (by
          subst hxd
          exact Imp.go (fun i => i) [(1, .arr 7 [[SE d.entries, .slc 3 2 0 (d.same.length + 1) (d.same.length + 1), SP d.apart, I d.omitted.lo, I d.omitted.hi, I d.number.lo, I d.number.hi]])] rfl rfl (.cons _ (.cons_cons _ (.cons _ .slnil))) (fun _ _ => rfl) (fun _ h => h) (by repeat' (first | exact TmT.cons rfl (TnS.d _) ?_ | exact trivial | exact F2.nil | refine F2.append ?_ ?_ | refine F2.map fun _ _ => ?_ | refine F2.cons ?_ ?_ | refine TmT.cons rfl ?_ ?_ | exact TnS.d _ | exact TnS.dx _ | exact TnS.dp _ | exact TnS.slc rfl | exact TnS.ptr rfl | refine TnS.frzf rfl (by simp) (by simp) (by simp) ?_ | refine TnS.frz0 rfl (by simp) (by simp) (by simp) ?_ | refine TnS.frzm rfl (by simp) ?_ | exact TnS.mapr rfl | exact TnS.yld rfl | refine ⟨rfl, ?_⟩ | refine TnO.arr ?_ | refine TnO.map ?_ | exact TnO.raw _ | exact TnO.iter _ _ | refine TnS.agg ?_ | refine TnS.tup ?_ | exact TnS.pure (Pure.clo (by assumption) (by assumption)) | refine TnS.clo ?_ ?_ | exact TnS.unk _ | exact TnS.pure (Pure.clo (by assumption) (by assumption)))) (.cons ⟨rfl, TnO.arr (.cons (.cons (TnS.d _) (.cons (pfz (id := 3) (l := d.same ++ [⟨i, k⟩]) rfl (by simp [pp, dP]) (by simp) (by simp)) (by repeat' (first | exact TmT.cons rfl (TnS.d _) ?_ | exact trivial | exact F2.nil | refine F2.append ?_ ?_ | refine F2.map fun _ _ => ?_ | refine F2.cons ?_ ?_ | refine TmT.cons rfl ?_ ?_ | exact TnS.d _ | exact TnS.dx _ | exact TnS.dp _ | exact TnS.slc rfl | exact TnS.ptr rfl | refine TnS.frzf rfl (by simp) (by simp) (by simp) ?_ | refine TnS.frz0 rfl (by simp) (by simp) (by simp) ?_ | refine TnS.frzm rfl (by simp) ?_ | exact TnS.mapr rfl | exact TnS.yld rfl | refine ⟨rfl, ?_⟩ | refine TnO.arr ?_ | refine TnO.map ?_ | exact TnO.raw _ | exact TnO.iter _ _ | refine TnS.agg ?_ | refine TnS.tup ?_ | exact TnS.pure (Pure.clo (by assumption) (by assumption)) | refine TnS.clo ?_ ?_ | exact TnS.unk _ | exact TnS.pure (Pure.clo (by assumption) (by assumption)))))) .nil)⟩ .nil) (fun _ => rfl)) ?_
          refine Tr.reg [10, 16] (by
              simp only [↓sxd, sxu, ↓zE, ↓exq, St.keep, ↓zD, Nat.reduceBEq, Nat.reduceAdd, Nat.reduceLT, tysW39_15]
              (repeat ((with_reducible refine And.intro ?_ ?_); (focus (first | with_reducible rfl | trivial | exact fun h => h | exact fun h => (by rw [h]; rfl) | omega | assumption))))
              refine CallO.use (lCensus_c x (fine_small hfx)) ?_
              try simp only [↓sxd, sxu, ↓zE, Nat.reduceLT]
              (repeat ((with_reducible refine And.intro ?_ ?_); (focus (first | with_reducible rfl | trivial | exact fun h => h | exact fun h => (by rw [h]; rfl) | omega | assumption))))
              refine CallO.use (hQ) ?_
              try simp only [↓sxd, sxu, ↓zE, ↓exq, ↓zN, ↓zM, Nat.reduceBEq, Nat.reduceAdd, Nat.reduceLT, Nat.reduceEqDiff, tysW39_15]
              (repeat' (first | rfl | exact trivial | exact fun h => h | exact fun h => (by rw [h]; rfl) | apply And.intro | omega | exact Nat.le_of_ble_eq_true rfl))) ?_
          refine Tr.reg [6] (by
              simp only [↓sxd, sxu, ↓zE, ↓exq, St.keep, Nat.reduceBEq, Nat.reduceLT, tysW39_15]
              iterate 5
                (repeat ((with_reducible refine And.intro ?_ ?_); (focus (first | with_reducible rfl | trivial | exact fun h => h | exact fun h => (by rw [h]; rfl) | omega | assumption))))
                refine GdO.mk _ (fun hg => by simp only [↓sxd, sxu, ↓exq, Nat.reduceBEq, hg]; (repeat' (first | rfl | exact trivial | exact fun h => h | exact fun h => (by rw [h]; rfl) | apply And.intro | omega | exact Nat.le_of_ble_eq_true rfl))) ?_
                simp only [↓sxd, sxu, ↓zE, Nat.reduceBEq, Nat.reduceLT]
              (repeat ((with_reducible refine And.intro ?_ ?_); (focus (first | with_reducible rfl | trivial | exact fun h => h | exact fun h => (by rw [h]; rfl) | omega | assumption))))
              first | refine GdO.or (fun hg => by simp only [sxu, Nat.reduceBEq, pickArgs, hg]; (repeat' (first | rfl | exact trivial | exact fun h => h | exact fun h => (by rw [h]; rfl) | apply And.intro | omega | exact Nat.le_of_ble_eq_true rfl))) ?_ | refine GdO.mk _ (fun hg => by simp only [↓sxd, sxu, ↓zE, ↓zC, zK, ↓exP, ↓exq, ↓zB, St.keep, ↓zH, ↓xB, ↓zL, ↓zJ, ↓zD, ↓zN, ↓zM, ↓zI, ↓zO, ↓zG, ↓zQ, ↓zA, Nat.reduceBEq, Nat.reduceAdd, Nat.reduceLT, Nat.reduceMul, Nat.reduceSub, Nat.reduceLeDiff, Nat.reduceEqDiff, Int.reduceLE, Int.reduceLT, Int.reduceToNat, reduceIte, implies_true, sxe, tysW39_15, hg, if_true]; (repeat' (first | rfl | exact trivial | exact fun h => h | exact fun h => (by rw [h]; rfl) | apply And.intro | omega | exact Nat.le_of_ble_eq_true rfl))) ?_
              simp only [↓sxd, sxu, ↓zE, ↓exq, ↓zH, Nat.reduceBEq, Nat.reduceLT]
              (repeat ((with_reducible refine And.intro ?_ ?_); (focus (first | with_reducible rfl | trivial | exact fun h => h | exact fun h => (by rw [h]; rfl) | omega | assumption))))
              refine GdO.mk _ (fun hg => by simp only [sxu, ↓exq, ↓zB, hg]; (repeat ((with_reducible refine And.intro ?_ ?_); (focus (first | with_reducible rfl | trivial | exact fun h => h | exact fun h => (by rw [h]; rfl) | omega | assumption)))); exact CallP.use (awake_c) ⟨rfl, rfl, rfl⟩) ?_
              simp only [↓sxd, sxu, ↓zE, ↓exq, ↓zH, Nat.reduceBEq, Nat.reduceLT]
              (repeat' (first | rfl | exact trivial | exact fun h => h | exact fun h => (by rw [h]; rfl) | apply And.intro | omega | exact Nat.le_of_ble_eq_true rfl))) ?_
          refine Tr.ret ?_
          exact ⟨.inr rfl, congrArg (fun n => some (B n)) (by
          subst hex
          cases can <;> rfl)⟩
end Go.Proofs.YtcnkbdfkjhlbiaaDoor
