/- Lemmas, part XRA. Conditions: none. -/
import Derived.Test.YtcnkbdfkjhlbiaaDoorXPBC
set_option linter.unusedVariables false
namespace Go.Proofs.YtcnkbdfkjhlbiaaDoor
open Go.Sy
theorem ty.sz91 : tsz Tryd.prog 91 = some 1 := by kernel_rfl
theorem ty.agg91 : tagg Tryd.prog 91 = some false := by kernel_rfl
theorem ty.elem91 : telem Tryd.prog 91 = none := by kernel_rfl
end Go.Proofs.YtcnkbdfkjhlbiaaDoor
namespace Go.Proofs.YtcnkbdfkjhlbiaaDoor
open Go.Sy
set_option maxRecDepth 8000
theorem Readable.with {c : Census} (hc : c.check = 0) {a b : Int} {s : Bool} (ha : within a 0 (c.entries.length - 1) = true) (hb : within b 0 (c.entries.length - 1) = true) : Readable (c.with a b s) := by
  have h := Census.readable hc
  have h1 := Census.small_of hc
  simp only [within, Bool.and_eq_true, decide_eq_true_eq] at ha hb
  cases s
  · refine ⟨h.ne, h.ns, ?_, h.hs, fun p hp => ?_⟩
    · simp [Census.with]; omega
    · simp only [Census.with, Bool.false_eq_true, if_false, List.mem_append, List.mem_singleton] at hp
      rcases hp with hp | rfl
      · exact h.ha p hp
      · exact ⟨ha.1, hb.1⟩
  · refine ⟨h.ne, ?_, h.na, fun p hp => ?_, h.ha⟩
    · simp [Census.with]; omega
    · simp only [Census.with, if_true, List.mem_append, List.mem_singleton] at hp
      rcases hp with hp | rfl
      · exact h.hs p hp
      · refine ⟨ha.1, hb.1, ?_, ?_⟩ <;> simp only [Census.with, if_true] <;> omega
def Census.both (c : Census) (a b : Int) : Bool := within a 0 (c.entries.length - 1) && within b 0 (c.entries.length - 1)
def Census.together (c : Census) (a b : Int) : Bool × Bool × Int :=
  if c.tried (c.both a b) = 0 then (if a = b then (true, true, 0) else ((c.with a b true).cons, !(c.with a b false).cons, 0)) else (false, false, c.tried (c.both a b))
abbrev tysW10_52 := And.intro ty.sz0 <| And.intro ty.agg0 <| And.intro ty.elem0 <| And.intro ty.sz3 <| And.intro ty.agg3 <| And.intro ty.elem3 <| And.intro ty.zero3 <| And.intro ty.und3 <| And.intro ty.sz4 <| And.intro ty.agg4 <| And.intro ty.elem4 <| And.intro ty.zero4 <| And.intro ty.und4 <| And.intro ty.sz31 <| And.intro ty.agg31 <| And.intro ty.elem31 <| And.intro ty.zero31 <| And.intro ty.und31 <| And.intro ty.sz34 <| And.intro ty.agg34 <| And.intro ty.elem34 <| And.intro ty.by34 <| And.intro ty.ez34 <| And.intro ty.zero34 <| And.intro ty.und34 <| And.intro ty.sz37 <| And.intro ty.agg37 <| And.intro ty.fld37_0 <| And.intro ty.fld37_1 <| And.intro ty.fld37_2 <| And.intro ty.fld37_3 <| And.intro ty.fld37_4 <| And.intro ty.elem37 <| And.intro ty.zero37 <| And.intro ty.pl37 <| And.intro ty.sz108 <| And.intro ty.agg108 <| And.intro ty.elem108 <| And.intro ty.zero108 <| And.intro ty.sz109 <| And.intro ty.agg109 <| ty.elem109
theorem Together_c (c : Census) (a b : Int) (hs : c.small) : CallP Tryd.prog G0 52 [c.s, I a, I b] (.tup [B (c.together a b).1, B (c.together a b).2.1, I (c.together a b).2.2]) := by
  refine CallP.body 46 [.tmp 6, .tmp 7, .tmp 8] Tryd.func52 (by kernel_rfl) rfl rfl rfl (by repeat' (first | exact Pure.d _ | exact Pure.dx _ | exact Pure.dp _ | exact fa_nil | refine fa_cons ?_ ?_ | refine Pure.agg ?_ | refine Pure.tup ?_ | refine Pure.clo ?_ ?_ | refine Pure.fp ?_ | exact Pure.mapd _ | assumption)) (by repeat' (first | exact Pure.d _ | exact Pure.dx _ | exact Pure.dp _ | exact fa_nil | refine fa_cons ?_ ?_ | refine Pure.agg ?_ | refine Pure.tup ?_ | refine Pure.clo ?_ ?_ | refine Pure.fp ?_ | exact Pure.mapd _ | assumption)) ?_
  refine Tr.reg [1, 2, 3] (by
      simp only [↓sxd, sxu, ↓zE, ↓exq, St.keep, ↓zI, Nat.reduceBEq, Nat.reduceAdd, Nat.reduceLT, Nat.reduceEqDiff]
      (repeat' (first | rfl | exact trivial | exact fun h => h | exact fun h => (by rw [h]; rfl) | apply And.intro | omega | exact Nat.le_of_ble_eq_true rfl))) ?_
  have w1 : IntKind.i64.wrap ((c.entries.length : Int) - 1) = c.entries.length - 1 := wr (by have := hs.1; omega) (by have := hs.1; omega)
  refine Tr.reg [1, 2, 3, 9] (by
      simp only [↓sxd, sxu, ↓zE, ↓exq, ↓zB, St.keep, ↓zJ, ↓zD, ↓zA, Nat.reduceBEq, Nat.reduceAdd, Nat.reduceLT, Nat.reduceEqDiff, sxe, tysW10_52, w1]
      (repeat' (first | rfl | exact trivial | exact fun h => h | exact fun h => (by rw [h]; rfl) | apply And.intro | omega | exact Nat.le_of_ble_eq_true rfl))) ?_
  refine Tr.regD [0, 1, 2, 3, 4, 5, 6, 7, 8, 9, 10, 11, 12, 13] [] [] [1, 2, 3, 8] mix (by kernel_rfl) (by
      simp only [↓sxd, sxu, ↓zC, zK, ↓exq, St.keep, ↓zD, Nat.reduceBEq, Nat.reduceAdd, Nat.reduceLT, tysW10_52]
      (repeat ((with_reducible refine And.intro ?_ ?_); (focus (first | with_reducible rfl | trivial | exact fun h => h | exact fun h => (by rw [h]; rfl) | omega | assumption))))
      refine CallD.use (within_c _ a 0 (c.entries.length - 1)) ?_
      try simp only [↓sxd, sxu, ↓zC, zK, ↓exq, Nat.reduceLT]
      iterate 2
        (repeat ((with_reducible refine And.intro ?_ ?_); (focus (first | with_reducible rfl | trivial | exact fun h => h | exact fun h => (by rw [h]; rfl) | omega | assumption))))
        refine GdD.mk _ (fun hg => by simp only [sxu, ↓exP, ↓exq, Nat.reduceBEq, hg]; (repeat' (first | rfl | exact trivial | exact fun h => h | exact fun h => (by rw [h]; rfl) | apply And.intro | omega | exact Nat.le_of_ble_eq_true rfl))) ?_
        simp only [↓sxd, sxu, ↓zC, zK, Nat.reduceBEq, Nat.reduceLT]
      (repeat ((with_reducible refine And.intro ?_ ?_); (focus (first | with_reducible rfl | trivial | exact fun h => h | exact fun h => (by rw [h]; rfl) | omega | assumption))))
      refine GdD.mk _ (fun hg => by simp only [sxu, ↓exP, Nat.reduceBEq, hg]; first | exact within_c _ b 0 (c.entries.length - 1) | exact ⟨within_c _ b 0 (c.entries.length - 1), rfl, rfl⟩ | exact ⟨within_c _ b 0 (c.entries.length - 1), trivial⟩ | exact ⟨within_c _ b 0 (c.entries.length - 1), trivial, trivial⟩) ?_
      simp only [↓sxd, sxu, ↓zC, zK, ↓exq, ↓zH, Nat.reduceBEq, Nat.reduceLT]
      (repeat ((with_reducible refine And.intro ?_ ?_); (focus (first | with_reducible rfl | trivial | exact fun h => h | exact fun h => (by rw [h]; rfl) | omega | assumption))))
      refine CallD.use (tried'_c c hs _) ?_
      try simp only [↓sxd, sxu, ↓zC, zK, ↓exq, ↓zN, Nat.reduceBEq, Nat.reduceAdd, Nat.reduceLT]
      (repeat' (first | rfl | exact trivial | exact fun h => h | exact fun h => (by rw [h]; rfl) | apply And.intro | omega | exact Nat.le_of_ble_eq_true rfl))) ?_
  refine Tr.seq ?_
  refine Tr.block ?_
  refine Tr.reg [1, 2, 3, 8, 27] (by
      simp only [↓sxd, sxu, ↓zE, ↓exq, St.keep, Nat.reduceBEq, Nat.reduceLT]
      (repeat' (first | rfl | exact trivial | exact fun h => h | exact fun h => (by rw [h]; rfl) | apply And.intro | omega | exact Nat.le_of_ble_eq_true rfl))) ?_
  refine Tr.cond rfl (fun h27 => ?_) (fun h27 => ?_)
  · have ht : c.together a b = (false, false, c.tried (c.both a b)) := if_neg (by simpa [Census.both, within] using h27)
    rw [ht]
    refine Tr.reg [6, 7, 8] (by
        simp only [↓sxd, sxu, ↓zE, ↓exq, St.keep, Nat.reduceBEq, Nat.reduceLT]
        (repeat' (first | rfl | exact trivial | exact fun h => h | exact fun h => (by rw [h]; rfl) | apply And.intro | omega | exact Nat.le_of_ble_eq_true rfl))) ?_
    refine Tr.ret ?_
    (refine ⟨.inr rfl, ?_⟩; first | rfl | exact ⟨rfl, rfl, trivial⟩ | exact ⟨rfl, rfl, rfl, trivial⟩ | (simp only [Res, ResL, ResOK, ↓sxd, sxu, ↓zE, ↓zC, zK, ↓exP, ↓exq, ↓zB, St.keep, ↓zH, ↓zL, ↓zJ, ↓zD, ↓zN, ↓zI, ↓zA, Nat.reduceBEq, Nat.reduceAdd, Nat.reduceLT, Nat.reduceMul, Nat.reduceSub, Nat.reduceLeDiff, Nat.reduceEqDiff, Int.reduceLE, Int.reduceLT, Int.reduceToNat, reduceIte, implies_true, sxe, tysW10_52]; (repeat' (first | rfl | exact trivial | exact fun h => h | exact fun h => (by rw [h]; rfl) | apply And.intro | omega | exact Nat.le_of_ble_eq_true rfl))))
  · have h0 : c.tried (c.both a b) = 0 := by simpa [Census.both, within] using h27
    have ⟨hk, hb⟩ := Census.tried_ok h0
    have hn := Census.small_of hk
    simp only [Census.both, Bool.and_eq_true] at hb
    refine Tr.reg [1, 2, 3, 31] (by
        simp only [↓sxd, sxu, ↓zE, ↓exq, St.keep, Nat.reduceBEq, Nat.reduceLT]
        (repeat' (first | rfl | exact trivial | exact fun h => h | exact fun h => (by rw [h]; rfl) | apply And.intro | omega | exact Nat.le_of_ble_eq_true rfl))) ?_
    refine Tr.cond rfl (fun h31 => ?_) (fun h31 => ?_)
    · have ht : c.together a b = (true, true, 0) := by unfold Census.together; rw [if_pos h0, if_pos (by simpa using h31)]
      rw [ht]
      refine Tr.reg [6, 7, 8] (by
          simp only [↓sxd, sxu, ↓zE, ↓exq, St.keep, Nat.reduceBEq, Nat.reduceLT]
          (repeat' (first | rfl | exact trivial | exact fun h => h | exact fun h => (by rw [h]; rfl) | apply And.intro | omega | exact Nat.le_of_ble_eq_true rfl))) ?_
      refine Tr.ret ?_
      (refine ⟨.inr rfl, ?_⟩; first | rfl | exact ⟨rfl, rfl, trivial⟩ | exact ⟨rfl, rfl, rfl, trivial⟩ | (simp only [Res, ResL, ResOK, ↓sxd, sxu, ↓zE, ↓zC, zK, ↓exP, ↓exq, ↓zB, St.keep, ↓zH, ↓zL, ↓zJ, ↓zD, ↓zN, ↓zI, ↓zA, Nat.reduceBEq, Nat.reduceAdd, Nat.reduceLT, Nat.reduceMul, Nat.reduceSub, Nat.reduceLeDiff, Nat.reduceEqDiff, Int.reduceLE, Int.reduceLT, Int.reduceToNat, reduceIte, implies_true, sxe, tysW10_52]; (repeat' (first | rfl | exact trivial | exact fun h => h | exact fun h => (by rw [h]; rfl) | apply And.intro | omega | exact Nat.le_of_ble_eq_true rfl))))
    · have ht : c.together a b = ((c.with a b true).cons, !(c.with a b false).cons, 0) := by unfold Census.together; rw [if_pos h0, if_neg (by simpa using h31)]
      rw [ht]
      refine Tr.skip ?_
      refine Tr.regD [0, 1, 2, 3, 4, 5, 6, 7, 8, 9, 10, 11, 12, 13] [] [] [6, 7, 8] mix (by kernel_rfl) (by
          simp only [↓sxd, sxu, ↓zC, zK, ↓exq, St.keep, ↓zD, Nat.reduceBEq, Nat.reduceAdd, Nat.reduceLT, tysW10_52]
          (repeat ((with_reducible refine And.intro ?_ ?_); (focus (first | with_reducible rfl | trivial | exact fun h => h | exact fun h => (by rw [h]; rfl) | omega | assumption))))
          refine CallD.use (with_c c a b true (by omega) (by omega)) ?_
          try simp only [↓sxd, sxu, ↓zC, Nat.reduceLT]
          (repeat ((with_reducible refine And.intro ?_ ?_); (focus (first | with_reducible rfl | trivial | exact fun h => h | exact fun h => (by rw [h]; rfl) | omega | assumption))))
          refine CallD.use (consistent_c _ (Readable.with hk hb.1 hb.2)) ?_
          try simp only [↓sxd, sxu, ↓zC, zK, ↓exq, ↓zD, Nat.reduceBEq, Nat.reduceAdd, Nat.reduceLT, tysW10_52]
          (repeat ((with_reducible refine And.intro ?_ ?_); (focus (first | with_reducible rfl | trivial | exact fun h => h | exact fun h => (by rw [h]; rfl) | omega | assumption))))
          refine CallD.use (with_c c a b false (by omega) (by omega)) ?_
          try simp only [↓sxd, sxu, ↓zC, Nat.reduceLT]
          (repeat ((with_reducible refine And.intro ?_ ?_); (focus (first | with_reducible rfl | trivial | exact fun h => h | exact fun h => (by rw [h]; rfl) | omega | assumption))))
          refine CallD.use (consistent_c _ (Readable.with hk hb.1 hb.2)) ?_
          try simp only [↓sxd, sxu, ↓zC, zK, ↓exq, ↓zL, Nat.reduceBEq, Nat.reduceLT]
          (repeat' (first | rfl | exact trivial | exact fun h => h | exact fun h => (by rw [h]; rfl) | apply And.intro | omega | exact Nat.le_of_ble_eq_true rfl))) ?_
      refine Tr.ret ?_
      (refine ⟨.inr rfl, ?_⟩; first | rfl | exact ⟨rfl, rfl, trivial⟩ | exact ⟨rfl, rfl, rfl, trivial⟩ | (simp only [Res, ResL, ResOK, ↓sxd, sxu, ↓zE, ↓zC, zK, ↓exP, ↓exq, ↓zB, St.keep, ↓zH, ↓zL, ↓zJ, ↓zD, ↓zN, ↓zI, ↓zA, Nat.reduceBEq, Nat.reduceAdd, Nat.reduceLT, Nat.reduceMul, Nat.reduceSub, Nat.reduceLeDiff, Nat.reduceEqDiff, Int.reduceLE, Int.reduceLT, Int.reduceToNat, reduceIte, implies_true, sxe, tysW10_52]; (repeat' (first | rfl | exact trivial | exact fun h => h | exact fun h => (by rw [h]; rfl) | apply And.intro | omega | exact Nat.le_of_ble_eq_true rfl))))
end Go.Proofs.YtcnkbdfkjhlbiaaDoor
namespace Go.Sy
theorem exPick_and (a b : Bool) (K : SV → Prop) (h : K (.d (.lit (.bool (a && b))))) : zH (.d (.lit (.bool a))) (if a = true then .d (.lit (.bool b)) else .unk) (.d (.lit (.bool false))) K := by
  cases a <;> cases b <;> exact h
section
variable {P : Program} {G : Nat → Option (List D)}
theorem GdO.and {all : List Oper} {o : Oper} {os : List Oper} {st : St} {g : Bool} {K : St → Prop} {a b : Bool} (h : g = true → pickArgs o (fun x => gstrip (ev G st.tm x)) = some (.d (.lit (.bool a)), if a = true then .d (.lit (.bool b)) else .unk, .d (.lit (.bool false))))
    (k : xA P G all os ⟨putT o.dst (.whn g (.d (.lit (.bool (a && b))))) st.tm, st.hp, st.nx, st.nt, st.df, st.nb⟩ K) : GdO P G all o os st g K :=
  GdO.mk _ (fun hg => exq_pick (h hg) (exPick_and a b _ ⟨rfl, rfl, rfl⟩)) k
theorem GdD.and {ops : Array Oper} {ul louds : List Nat} {o : Oper} {is : List Nat} {st : St} {g : Bool} {lds : List Nat} {K : St → Prop} {a b : Bool} (h : g = true → pickArgs o (fun x => gstrip (ev G st.tm x)) = some (.d (.lit (.bool a)), if a = true then .d (.lit (.bool b)) else .unk, .d (.lit (.bool false))))
    (k : exY P G ops ul louds is ⟨putT o.dst (.whn g (.d (.lit (.bool (a && b))))) st.tm, st.hp, st.nx, st.nt, st.df, st.nb⟩ lds K) : GdD P G ops ul louds o is st g lds K :=
  GdD.mk _ (fun hg => by rw [x5 (pick_callV (h hg))]; exact exq_pick (h hg) (exPick_and a b _ ⟨rfl, rfl, rfl⟩)) k
end
end Go.Sy
namespace Go.Proofs.YtcnkbdfkjhlbiaaDoor
set_option maxRecDepth 8000
theorem with_pairs {c : Census} (h : PairsOk c) {a b : Int} {s : Bool} (ha : a.toNat < c.entries.length) (hb : b.toNat < c.entries.length) : PairsOk (c.with a b s) := by
  cases s
  · exact ⟨h.ns, fun p hp => by
      rcases List.mem_append.1 hp with hp | hp
      · exact h.na p hp
      · rw [List.mem_singleton] at hp; subst hp; exact ⟨ha, hb⟩⟩
  · exact ⟨fun p hp => by
      rcases List.mem_append.1 hp with hp | hp
      · exact h.ns p hp
      · rw [List.mem_singleton] at hp; subst hp; exact ⟨ha, hb⟩, h.na⟩
theorem with_n (c : Census) (a b : Int) (s : Bool) : (c.with a b s).entries = c.entries ∧ (c.with a b s).omitted = c.omitted ∧ (c.with a b s).number = c.number := by cases s <;> exact ⟨rfl, rfl, rfl⟩
theorem with_lims {c : Census} (h : Lims c) (a b : Int) (s : Bool) : Lims (c.with a b s) := by
  obtain ⟨_, h2, h3⟩ := with_n c a b s
  exact ⟨by rw [h2]; exact h.om, by rw [h3]; exact h.nu⟩
theorem with_sums (c : Census) (a b : Int) (s : Bool) (m : Nat) : Sums (c.with a b s) m ↔ Sums c m := by
  obtain ⟨_, h2, h3⟩ := with_n c a b s
  unfold Sums; rw [h2, h3]
theorem with_allow (c : Census) (a b : Int) (s : Bool) (f : Nat → Nat) : Allow (c.with a b s) f ↔ Allow c f ∧ (if s then f a.toNat = f b.toNat else f a.toNat ≠ f b.toNat) := by
  cases s
  · constructor
    · intro h
      exact ⟨⟨h.fits, h.same, fun p hp => h.apart p (List.mem_append.2 (.inl hp))⟩, h.apart ⟨a, b⟩ (List.mem_append.2 (.inr (List.mem_singleton.2 rfl)))⟩
    · rintro ⟨h, h2⟩
      refine ⟨h.fits, h.same, fun p hp => ?_⟩
      rcases List.mem_append.1 hp with hp | hp
      · exact h.apart p hp
      · rw [List.mem_singleton] at hp; subst hp; exact h2
  · constructor
    · intro h
      exact ⟨⟨h.fits, fun p hp => h.same p (List.mem_append.2 (.inl hp)), h.apart⟩, h.same ⟨a, b⟩ (List.mem_append.2 (.inr (List.mem_singleton.2 rfl)))⟩
    · rintro ⟨h, h2⟩
      refine ⟨h.fits, fun p hp => ?_, h.apart⟩
      rcases List.mem_append.1 hp with hp | hp
      · exact h.same p hp
      · rw [List.mem_singleton] at hp; subst hp; exact h2
theorem with_cons {c : Census} (h : Fine c) {a b : Int} {s : Bool} (ha : a.toNat < c.entries.length) (hb : b.toNat < c.entries.length) : (c.with a b s).cons = true ↔ ∃ v ∈ c.all, if s then fn v a.toNat = fn v b.toNat else fn v a.toNat ≠ fn v b.toNat := by
  have hn := with_n c a b s
  have hp := with_pairs h.pairs (s := s) ha hb
  rw [cons_iff hp (by rw [hn.1]; exact h.n10) (with_lims h.lims a b s)]
  constructor
  · rintro ⟨m, h1, h2⟩
    obtain ⟨v, e1, e2, e3, e4⟩ := (Sem.rgs hp).1 h1
    obtain ⟨e5, e6⟩ := (with_allow c a b s _).1 e3
    exact ⟨v, (mem_all h.lims).2 ⟨by rw [e1, hn.1], e2, e5, by rw [e4]; exact (with_sums c a b s m).1 h2⟩, e6⟩
  · rintro ⟨v, hv, h2⟩
    obtain ⟨e1, e2, e3, e4⟩ := (mem_all h.lims).1 hv
    exact ⟨many v, (Sem.rgs hp).2 ⟨v, by rw [e1, hn.1], e2, (with_allow c a b s _).2 ⟨e3, h2⟩, rfl⟩, (with_sums c a b s _).2 e4⟩
theorem both_iff {c : Census} {a b : Int} : c.both a b = true ↔ 0 ≤ a ∧ a < c.entries.length ∧ 0 ≤ b ∧ b < c.entries.length := by
  simp only [Census.both, within, Bool.and_eq_true, decide_eq_true_eq]; omega
def someOf (l : List (List Nat)) (a b : Nat) : Bool := l.any fun v => fn v a == fn v b
def everyOf (l : List (List Nat)) (a b : Nat) : Bool := l.all fun v => fn v a == fn v b
theorem together_law {c : Census} {a b : Int} (h : c.tried (c.both a b) = 0) : c.together a b = (someOf c.all a.toNat b.toNat, everyOf c.all a.toNat b.toNat, 0) := by
  unfold Census.together
  rw [if_pos h]
  obtain ⟨hf, hb, hc⟩ := tried_iff.1 h
  rw [both_iff] at hb
  by_cases hab : a = b
  · subst hab
    rw [if_pos rfl]
    have h1 : someOf c.all a.toNat a.toNat = true := by
      cases hl : c.all with
      | nil => rw [(all_nil hf).1 hl] at hc; cases hc
      | cons v l => simp [someOf]
    have h2 : everyOf c.all a.toNat a.toNat = true := by simp [everyOf]
    rw [h1, h2]
  · rw [if_neg hab]
    have e1 := with_cons hf (a := a) (b := b) (s := true) (by omega) (by omega)
    have e2 := with_cons hf (a := a) (b := b) (s := false) (by omega) (by omega)
    have h1 : (c.with a b true).cons = someOf c.all a.toNat b.toNat := by
      rw [Bool.eq_iff_iff, e1]; simp [someOf]
    have h2 : (!(c.with a b false).cons) = everyOf c.all a.toNat b.toNat := by
      rw [Bool.eq_iff_iff, Bool.not_eq_true', ← Bool.not_eq_true, e2]; simp [everyOf]
    rw [h1, h2]
def Census.dueD (c : Census) (i : Nat) : Bool := c.all.all fun v => (List.range c.entries.length).any fun j => (j != i) && (fn v j == fn v i)
theorem exists_bit {x i : Nat} (hi : x.testBit i = true) (hne : x ≠ 2 ^ i) : ∃ j, j ≠ i ∧ x.testBit j = true := by
  apply Classical.byContradiction
  intro h
  apply hne
  apply Nat.eq_of_testBit_eq
  intro j
  rw [Nat.testBit_two_pow]
  by_cases hj : i = j
  · subst hj; rw [hi]; simp
  · rw [decide_eq_false hj]
    cases hx : x.testBit j
    · rfl
    · exact absurd ⟨j, fun hc => hj hc.symm, hx⟩ h
theorem dbl_law {c : Census} (h : Fine c) (hc : c.cons = true) {i : Nat} (hi : i < c.entries.length) : (readW c).dbl i = c.dueD i := by
  have hs := blocksOf_sem h.pairs
  have hb := hs.at hi
  have hlen := hs.ok.len
  have h10 := h.n10
  have hb10 : (blocksOf c).length ≤ 10 := by omega
  have hB : 2 ^ (blocksOf c).length ≤ 2 ^ 10 := Nat.pow_le_pow_right (by omega) hb10
  have e0 : (idxOf (fun (x : Nat) => x.testBit i) (blocksOf c)).toNat = blk (blocksOf c) i := rfl
  have ed : (readW c).dbl i = (((((blocksOf c).getD (blk (blocksOf c) i) 0 : Nat) : Int) != ((2 ^ i : Nat) : Int)) ||
    decide (wr64 (1 + (readW c).least.getD ((2 ^ (blocksOf c).length - 1) ^^^ ((2 ^ (blocksOf c).length - 1) &&& 2 ^ blk (blocksOf c) i)) 0) > (pers c).hi)) := rfl
  generalize hk : blk (blocksOf c) i = k at *
  have hT := tables_ok c (2 ^ (blocksOf c).length) (by omega)
  have hbd := hT.b ((2 ^ (blocksOf c).length - 1) ^^^ ((2 ^ (blocksOf c).length - 1) &&& 2 ^ k))
  have hL : (tables c (blocksOf c) (2 ^ (blocksOf c).length)).2 = (readW c).least := rfl
  rw [hL] at hbd
  have hW : ∀ j, (2 ^ (blocksOf c).length - 1).testBit j = true ↔ j < (blocksOf c).length := fun j => by rw [Nat.testBit_two_pow_sub_one, decide_eq_true_eq]
  have hsub : (2 ^ (blocksOf c).length - 1) &&& 2 ^ k = 2 ^ k := two_pow_sub ((hW k).2 hb.1)
  have hlt1 : 2 ^ (blocksOf c).length - 1 < 2 ^ (blocksOf c).length := Nat.sub_lt (Nat.two_pow_pos _) (by omega)
  have hr : (2 ^ (blocksOf c).length - 1) ^^^ ((2 ^ (blocksOf c).length - 1) &&& 2 ^ k) < 2 ^ (blocksOf c).length := Nat.xor_lt_two_pow hlt1 (Nat.lt_of_le_of_lt Nat.and_le_left hlt1)
  have LO := leastOk h.pairs h10
  rw [wr_id (by omega) (by omega)] at ed
  rw [ed, Bool.eq_iff_iff, Bool.or_eq_true, bne_iff_ne, decide_eq_true_eq]
  unfold Census.dueD
  rw [List.all_eq_true]
  constructor
  · intro hd v hv
    obtain ⟨v1, v2, v3, v4⟩ := (mem_all h.lims).1 hv
    rw [List.any_eq_true]
    by_cases hone : (blocksOf c).getD k 0 = 2 ^ i
    ·
      apply Classical.byContradiction
      intro hno
      have alone : ∀ j, j < c.entries.length → j ≠ i → fn v j ≠ fn v i := fun j hj hji he => hno ⟨j, List.mem_range.2 hj, by simp only [Bool.and_eq_true, bne_iff_ne, beq_iff_eq]; exact ⟨hji, he⟩⟩
      have hd2 : 1 + (readW c).least.getD ((2 ^ (blocksOf c).length - 1) ^^^ ((2 ^ (blocksOf c).length - 1) &&& 2 ^ k)) 0 > (pers c).hi := by
        rcases hd with hd | hd
        · rw [hone] at hd; exact absurd rfl hd
        · exact hd
      have hex : Exact (fn v) c.entries.length (many v) := v1 ▸ v2.exact
      obtain ⟨gs, g1, g2, g3⟩ := sem_parts h.pairs h10 v3 hex
      have hp := personOf_at h.pairs g1 hi
      rw [hk] at hp
      have hgm := getD_mem (d := 0) hp.1
      have hg : gs.getD (personOf c gs i) 0 = 2 ^ k := by
        apply Nat.eq_of_testBit_eq
        intro b
        rw [Nat.testBit_two_pow]
        by_cases hbk : k = b
        · subst hbk; rw [hp.2]; simp
        · rw [decide_eq_false hbk]
          cases hx : (gs.getD (personOf c gs i) 0).testBit b
          · rfl
          · have hbl := (hW b).1 ((g1.un b).2 ⟨_, hgm, hx⟩)
            obtain ⟨e, he⟩ := nz_bit (hs.nz b hbl)
            have hen := hs.lt hbl he
            have hbe := hs.eq hen hbl he
            have hei : e ≠ i := fun hc => hbk (by rw [← hk, ← hc, hbe])
            have := (g3 e i hen hi).1 (personOf_eq h.pairs g1 hen hp.1 (by rw [hbe]; exact hx))
            exact absurd this (alone e hen hei)
      rw [hg] at hgm
      obtain ⟨pre, post, hpp⟩ := List.append_of_mem hgm
      rw [hpp] at g1 g2
      have h5 := LO.le_parts hb10 _ _ hr g1.take
      have hm := (all_many h).1 ⟨v, hv, rfl⟩
      have h5' : (readW c).least.getD ((2 ^ (blocksOf c).length - 1) ^^^ ((2 ^ (blocksOf c).length - 1) &&& 2 ^ k)) 0 ≤ ((pre ++ post).length : Int) := h5
      simp only [List.length_append, List.length_cons] at g2 h5'
      omega
    · obtain ⟨j, hji, hj⟩ := exists_bit hb.2 hone
      have hjn := hs.lt hb.1 hj
      exact ⟨j, List.mem_range.2 hjn, by
        simp only [Bool.and_eq_true, bne_iff_ne, beq_iff_eq]
        exact ⟨hji, hs.conn (fn v) v3.same k j i hb.1 hj hb.2⟩⟩
  · intro hall
    apply Classical.byContradiction
    intro hno
    rw [not_or] at hno
    have hone : (blocksOf c).getD k 0 = 2 ^ i := by
      have := Decidable.not_not.1 hno.1
      omega
    have hle : 1 + (readW c).least.getD ((2 ^ (blocksOf c).length - 1) ^^^ ((2 ^ (blocksOf c).length - 1) &&& 2 ^ k)) 0 ≤ (pers c).hi := by omega
    have hph := pers_lo h.pairs h10
    have h1 := cons_lo hc
    obtain ⟨m0, hm0, _⟩ := (cons_iff h.pairs h10 h.lims).1 hc
    obtain ⟨f0, a0, x0⟩ := hm0
    obtain ⟨gs0, p0, _, _⟩ := sem_parts h.pairs h10 a0 x0
    obtain ⟨g0, hg0, hgt0⟩ := (p0.un k).1 ((hW k).2 hb.1)
    have honek : oneP c (2 ^ k) = true := oneP_down h.pairs h10 g0 (2 ^ k) (two_pow_sub hgt0) (p0.ok g0 hg0).2
    obtain ⟨gs, q1, q2⟩ := LO.parts hb10 _ hr (by
      show (readW c).least.getD _ 0 < 1024
      omega)
    have q2' : (gs.length : Int) = (readW c).least.getD ((2 ^ (blocksOf c).length - 1) ^^^ ((2 ^ (blocksOf c).length - 1) &&& 2 ^ k)) 0 := q2
    have hpc := pc_split hsub
    rw [pc_full _ hb10, pc_one k (by omega)] at hpc
    have hhi : (pers c).hi ≤ (blocksOf c).length := by
      rw [pers_eq]
      split
      · show (0 : Int) ≤ _; omega
      · simp only [Rng.cut]; omega
    obtain ⟨gs', q3, q4⟩ := Parts.upto (oneP_down h.pairs h10) (Nat.lt_of_lt_of_le hr hB) ((max (pers c).lo (gs.length + 1)).toNat - 1 - gs.length) gs q1 (by omega)
    have q5 := q3.put hsub (Nat.ne_of_gt (Nat.two_pow_pos k)) honek
    have q6 := parts_allow h.pairs h10 q5
    have q7 := parts_exact h.pairs q5
    have hm := (pers_iff h.pairs h10 h.lims (m := (2 ^ k :: gs').length)).2 (by rw [List.length_cons]; omega)
    have hv : canon (personOf c (2 ^ k :: gs')) c.entries.length ∈ c.all := (mem_all h.lims).2 ⟨canon_len _ _, canon_rgs _ _, q6.congr h.pairs fun a b ha hb => (canon_same _ ha hb).symm, by rw [canon_of_exact q7]; exact hm.2⟩
    have hd := hall _ hv
    rw [List.any_eq_true] at hd
    obtain ⟨j, hj, hd⟩ := hd
    rw [List.mem_range] at hj
    simp only [Bool.and_eq_true, bne_iff_ne, beq_iff_eq] at hd
    have hsame := (canon_same _ hj hi).1 hd.2
    have hz : personOf c (2 ^ k :: gs') i = 0 := personOf_eq h.pairs q5 hi (by simp) (by rw [hk]; simp)
    rw [hz] at hsame
    have hpj := personOf_at h.pairs q5 hj
    rw [hsame] at hpj
    have hpj2 : (2 ^ k).testBit (blk (blocksOf c) j) = true := hpj.2
    rw [Nat.testBit_two_pow, decide_eq_true_eq] at hpj2
    have := (hs.at hj).2
    rw [← hpj2, hone, Nat.testBit_two_pow, decide_eq_true_eq] at this
    exact hd.1 this.symm
theorem doubled_law {c : Census} (h : c.tried true = 0) : c.doubled = ((List.range c.entries.length).filter c.dueD, 0) := by
  obtain ⟨hf, _, hc⟩ := tried_iff.1 h
  unfold Census.doubled
  rw [if_pos h]
  congr 1
  exact List.filter_congr fun i hi => dbl_law hf hc (List.mem_range.1 hi)
end Go.Proofs.YtcnkbdfkjhlbiaaDoor
namespace Go.Proofs.YtcnkbdfkjhlbiaaDoor
open Go.Sy
set_option maxRecDepth 8000
theorem together_due {c : Census} {a b : Int} (h : c.due (c.both a b) ≠ 0) : c.together a b = (false, false, c.due (c.both a b)) := by
  unfold Census.together
  rw [if_neg (by rw [due_eq]; exact h), due_eq]
theorem doubled_due {c : Census} (h : c.due true ≠ 0) : c.doubled = ([], c.due true) := by
  unfold Census.doubled
  rw [if_neg (by rw [due_eq]; exact h), due_eq]
theorem nats_at (v : List Nat) (k : Nat) : (nats v).getD k 0 = (v.getD k 0 : Nat) := by
  unfold nats
  simp only [List.getD_eq_getElem?_getD, List.getElem?_map]
  cases v[k]? <;> rfl
theorem some_take {L : List (List Nat)} {i x y : Nat} (h : i < L.length) : someOf (L.take (i + 1)) x y = (someOf (L.take i) x y || (fn (L.getD i []) x == fn (L.getD i []) y)) := by
  unfold someOf
  rw [List.take_succ_eq_append_getElem h, List.any_append]
  simp [List.getD_eq_getElem?_getD, h]
theorem every_take {L : List (List Nat)} {i x y : Nat} (h : i < L.length) : everyOf (L.take (i + 1)) x y = (everyOf (L.take i) x y && (fn (L.getD i []) x == fn (L.getD i []) y)) := by
  unfold everyOf
  rw [List.take_succ_eq_append_getElem h, List.all_append]
  simp [List.getD_eq_getElem?_getD, h]
theorem ib (p q : Nat) : ((p : Int) == (q : Int)) = (p == q) := by
  rw [Bool.eq_iff_iff, beq_iff_eq, beq_iff_eq]; omega
theorem ibn (p q : Nat) : ((p : Int) != (q : Int)) = (p != q) := by
  unfold bne; rw [ib]
theorem natsF2 {r : Nat → Nat} {hp hp' : HpT} (o : List Nat) : F2 (F2 fun s x => TnS r hp hp' s (SV.d x)) (o.map fun (n : Nat) => [I n]) (dI (nats o)) := by
  unfold dI nats
  rw [List.map_map]
  exact F2.map fun n _ => .cons (TnS.d _) .nil
def dv (n : Nat) (v : List Nat) (i : Nat) : Bool := (List.range n).any fun j => (j != i) && (fn v j == fn v i)
theorem dv_succ {n : Nat} {v : List Nat} {i : Nat} : dv (n + 1) v i = (dv n v i || ((n != i) && (fn v n == fn v i))) := by
  unfold dv
  rw [List.range_succ, List.any_append]
  simp
theorem all_take {L : List (List Nat)} {i : Nat} {f : List Nat → Bool} (h : i < L.length) : (L.take (i + 1)).all f = ((L.take i).all f && f (L.getD i [])) := by
  rw [List.take_succ_eq_append_getElem h, List.all_append]
  simp [List.getD_eq_getElem?_getD, h]
abbrev tysW30_13 := And.intro ty.sz0 <| And.intro ty.agg0 <| And.intro ty.elem0 <| And.intro ty.sz3 <| And.intro ty.agg3 <| And.intro ty.elem3 <| And.intro ty.zero3 <| And.intro ty.und3 <| And.intro ty.sz4 <| And.intro ty.agg4 <| And.intro ty.elem4 <| And.intro ty.zero4 <| And.intro ty.und4 <| And.intro ty.sz22 <| And.intro ty.agg22 <| And.intro ty.elem22 <| And.intro ty.by22 <| And.intro ty.ez22 <| And.intro ty.zero22 <| And.intro ty.und22 <| And.intro ty.sz27 <| And.intro ty.agg27 <| And.intro ty.fld27_0 <| And.intro ty.fld27_1 <| And.intro ty.fld27_2 <| And.intro ty.fld27_3 <| And.intro ty.fld27_4 <| And.intro ty.elem27 <| And.intro ty.zero27 <| And.intro ty.pl27 <| And.intro ty.sz31 <| And.intro ty.agg31 <| And.intro ty.elem31 <| And.intro ty.zero31 <| And.intro ty.und31 <| And.intro ty.sz37 <| And.intro ty.agg37 <| And.intro ty.fld37_0 <| And.intro ty.fld37_1 <| And.intro ty.fld37_2 <| And.intro ty.fld37_3 <| And.intro ty.fld37_4 <| And.intro ty.elem37 <| And.intro ty.zero37 <| And.intro ty.pl37 <| And.intro ty.sz39 <| And.intro ty.agg39 <| And.intro ty.elem39 <| And.intro ty.by39 <| And.intro ty.ez39 <| And.intro ty.zero39 <| And.intro ty.und39 <| And.intro ty.sz40 <| And.intro ty.agg40 <| And.intro ty.elem40 <| And.intro ty.sz43 <| And.intro ty.agg43 <| And.intro ty.elem43 <| And.intro ty.by43 <| And.intro ty.ez43 <| And.intro ty.zero43 <| And.intro ty.und43 <| And.intro ty.sz47 <| And.intro ty.agg47 <| And.intro ty.elem47 <| And.intro ty.sz91 <| And.intro ty.agg91 <| ty.elem91
set_option maxHeartbeats 4000000 in
theorem SheetTogether_c (c : Census) (a b : Int) : CallP Tryd.prog G0 13 [c.s, I a, I b] (B true) := by
  refine CallP.body 183 [.tmp 6] Tryd.func13 (by kernel_rfl) rfl rfl rfl (by repeat' (first | exact Pure.d _ | exact Pure.dx _ | exact Pure.dp _ | exact fa_nil | refine fa_cons ?_ ?_ | refine Pure.agg ?_ | refine Pure.tup ?_ | refine Pure.clo ?_ ?_ | refine Pure.fp ?_ | exact Pure.mapd _ | assumption)) (by repeat' (first | exact Pure.d _ | exact Pure.dx _ | exact Pure.dp _ | exact fa_nil | refine fa_cons ?_ ?_ | refine Pure.agg ?_ | refine Pure.tup ?_ | refine Pure.clo ?_ ?_ | refine Pure.fp ?_ | exact Pure.mapd _ | assumption)) ?_
  refine Tr.reg [1, 2, 3] (by
      simp only [↓sxd, sxu, ↓zE, ↓exq, St.keep, ↓zI, Nat.reduceBEq, Nat.reduceAdd, Nat.reduceLT, Nat.reduceEqDiff]
      (repeat' (first | rfl | exact trivial | exact fun h => h | exact fun h => (by rw [h]; rfl) | apply And.intro | omega | exact Nat.le_of_ble_eq_true rfl))) ?_
  refine Tr.seq ?_
  refine Tr.reg [1, 2, 3, 29] (by
      simp only [↓sxd, sxu, ↓zE, ↓exq, St.keep, ↓zD, Nat.reduceBEq, Nat.reduceAdd, Nat.reduceLT, tysW30_13]
      (repeat ((with_reducible refine And.intro ?_ ?_); (focus (first | with_reducible rfl | trivial | exact fun h => h | exact fun h => (by rw [h]; rfl) | omega | assumption))))
      refine CallO.use (Few_c c) ?_
      try simp only [↓sxd, sxu, ↓zE, ↓exq, ↓zL, Nat.reduceBEq, Nat.reduceLT]
      (repeat' (first | rfl | exact trivial | exact fun h => h | exact fun h => (by rw [h]; rfl) | apply And.intro | omega | exact Nat.le_of_ble_eq_true rfl))) ?_
  refine Tr.cond rfl (fun h29 => ?_) (fun h29 => ?_)
  · refine Tr.reg [6] (by
        simp only [↓sxd, sxu, ↓zE, St.keep, Nat.reduceLT]
        (repeat ((with_reducible refine And.intro ?_ ?_); (focus (first | with_reducible rfl | trivial | exact fun h => h | exact fun h => (by rw [h]; rfl) | omega | assumption))))
        refine CallO.use (awake_c) ?_
        try simp only [↓sxd, sxu, ↓zE, ↓exq, Nat.reduceLT]
        (repeat' (first | rfl | exact trivial | exact fun h => h | exact fun h => (by rw [h]; rfl) | apply And.intro | omega | exact Nat.le_of_ble_eq_true rfl))) ?_
    refine Tr.ret ?_
    (refine ⟨.inr rfl, ?_⟩; first | rfl | exact ⟨rfl, rfl, trivial⟩ | exact ⟨rfl, rfl, rfl, trivial⟩ | (simp only [Res, ResL, ResOK, ↓sxd, sxu, ↓zE, ↓zC, zK, ↓exP, ↓exq, ↓zB, St.keep, ↓zH, ↓zL, ↓zJ, ↓zD, ↓zN, ↓zI, ↓zG, ↓zQ, ↓zA, Nat.reduceBEq, Nat.reduceAdd, Nat.reduceLT, Nat.reduceMul, Nat.reduceSub, Nat.reduceLeDiff, Nat.reduceEqDiff, Int.reduceLE, Int.reduceLT, Int.reduceToNat, reduceIte, implies_true, sxe, tysW30_13]; (repeat' (first | rfl | exact trivial | exact fun h => h | exact fun h => (by rw [h]; rfl) | apply And.intro | omega | exact Nat.le_of_ble_eq_true rfl))))
  · have hfew : c.few = true := by simpa using h29
    have hth := few_len hfew
    have hsm := small_thin hth
    obtain ⟨t1, t2, t3⟩ := thin_len hth
    have hP := Together_c c a b hsm
    have hQ := Doubled_c c hsm
    have w1 : IntKind.i64.wrap ((c.entries.length : Int) - 1) = (c.entries.length : Int) - 1 := wr (by omega) (by omega)
    obtain ⟨R, hR⟩ : ∃ R, R = c.together a b := ⟨_, rfl⟩
    obtain ⟨D, hD⟩ : ∃ D, D = c.doubled := ⟨_, rfl⟩
    rw [← hR] at hP
    rw [← hD] at hQ
    obtain ⟨can, must, e⟩ := R
    obtain ⟨d, f⟩ := D
    simp only at hP hQ
    refine Tr.skip ?_
    refine Tr.reg [1, 2, 3, 7, 8, 9] (by
        simp only [↓sxd, sxu, ↓zE, ↓exq, St.keep, ↓zD, Nat.reduceBEq, Nat.reduceAdd, Nat.reduceLT, tysW30_13]
        (repeat ((with_reducible refine And.intro ?_ ?_); (focus (first | with_reducible rfl | trivial | exact fun h => h | exact fun h => (by rw [h]; rfl) | omega | assumption))))
        refine CallO.use (lCensus_c c hsm) ?_
        try simp only [↓sxd, sxu, ↓zE, ↓exq, Nat.reduceBEq, Nat.reduceLT]
        (repeat ((with_reducible refine And.intro ?_ ?_); (focus (first | with_reducible rfl | trivial | exact fun h => h | exact fun h => (by rw [h]; rfl) | omega | assumption))))
        refine CallO.use (hP) ?_
        try simp only [↓sxd, sxu, ↓zE, ↓exq, ↓zN, Nat.reduceBEq, Nat.reduceAdd, Nat.reduceLT]
        (repeat' (first | rfl | exact trivial | exact fun h => h | exact fun h => (by rw [h]; rfl) | apply And.intro | omega | exact Nat.le_of_ble_eq_true rfl))) ?_
    refine Tr.reg [1, 2, 3, 7, 8, 9, 10, 11] (by
        simp only [↓sxd, sxu, ↓zE, ↓exq, St.keep, ↓zD, Nat.reduceBEq, Nat.reduceAdd, Nat.reduceLT, tysW30_13]
        (repeat ((with_reducible refine And.intro ?_ ?_); (focus (first | with_reducible rfl | trivial | exact fun h => h | exact fun h => (by rw [h]; rfl) | omega | assumption))))
        refine CallO.use (lCensus_c c hsm) ?_
        try simp only [↓sxd, sxu, ↓zE, Nat.reduceLT]
        (repeat ((with_reducible refine And.intro ?_ ?_); (focus (first | with_reducible rfl | trivial | exact fun h => h | exact fun h => (by rw [h]; rfl) | omega | assumption))))
        refine CallO.use (hQ) ?_
        try simp only [↓sxd, sxu, ↓zE, ↓exq, ↓zN, Nat.reduceBEq, Nat.reduceAdd, Nat.reduceLT]
        (repeat' (first | rfl | exact trivial | exact fun h => h | exact fun h => (by rw [h]; rfl) | apply And.intro | omega | exact Nat.le_of_ble_eq_true rfl))) ?_
    refine Tr.reg [1, 2, 3, 7, 8, 9, 10, 11, 12] (by
        simp only [↓sxd, sxu, ↓zE, ↓exq, ↓zB, St.keep, ↓zJ, ↓zD, ↓zA, Nat.reduceBEq, Nat.reduceAdd, Nat.reduceLT, Nat.reduceEqDiff, sxe, tysW30_13, w1]
        (repeat' (first | rfl | exact trivial | exact fun h => h | exact fun h => (by rw [h]; rfl) | apply And.intro | omega | exact Nat.le_of_ble_eq_true rfl))) ?_
    refine Tr.regD [0, 1, 2, 3, 4, 5, 6, 7, 8, 9, 10, 11, 12, 13, 14] [] [] [1, 2, 3, 7, 8, 9, 10, 11, 12, 13, 14] mix (by kernel_rfl) (by
        simp only [↓sxd, sxu, ↓zC, zK, ↓exq, St.keep, ↓zD, Nat.reduceBEq, Nat.reduceAdd, Nat.reduceLT, tysW30_13]
        (repeat ((with_reducible refine And.intro ?_ ?_); (focus (first | with_reducible rfl | trivial | exact fun h => h | exact fun h => (by rw [h]; rfl) | omega | assumption))))
        refine CallD.use (In_c _ a 0 ((c.entries.length : Int) - 1)) ?_
        try simp only [↓sxd, sxu, ↓zC, zK, ↓exq, Nat.reduceLT]
        iterate 2
          (repeat ((with_reducible refine And.intro ?_ ?_); (focus (first | with_reducible rfl | trivial | exact fun h => h | exact fun h => (by rw [h]; rfl) | omega | assumption))))
          refine GdD.mk _ (fun hg => by simp only [sxu, ↓exP, ↓exq, Nat.reduceBEq, hg]; (repeat' (first | rfl | exact trivial | exact fun h => h | exact fun h => (by rw [h]; rfl) | apply And.intro | omega | exact Nat.le_of_ble_eq_true rfl))) ?_
          simp only [↓sxd, sxu, ↓zC, zK, Nat.reduceBEq, Nat.reduceLT]
        (repeat ((with_reducible refine And.intro ?_ ?_); (focus (first | with_reducible rfl | trivial | exact fun h => h | exact fun h => (by rw [h]; rfl) | omega | assumption))))
        refine GdD.mk _ (fun hg => by simp only [sxu, ↓exP, Nat.reduceBEq, hg]; first | exact In_c _ b 0 ((c.entries.length : Int) - 1) | exact ⟨In_c _ b 0 ((c.entries.length : Int) - 1), rfl, rfl⟩ | exact ⟨In_c _ b 0 ((c.entries.length : Int) - 1), trivial⟩ | exact ⟨In_c _ b 0 ((c.entries.length : Int) - 1), trivial, trivial⟩) ?_
        simp only [↓sxd, sxu, ↓zC, zK, ↓exq, ↓zH, Nat.reduceBEq, Nat.reduceLT]
        (repeat ((with_reducible refine And.intro ?_ ?_); (focus (first | with_reducible rfl | trivial | exact fun h => h | exact fun h => (by rw [h]; rfl) | omega | assumption))))
        refine CallD.use (valid_c c (by omega) (by omega) (by omega) (c.both a b)) ?_
        try simp only [↓sxd, sxu, ↓zC, zK, ↓exq, ↓zN, Nat.reduceBEq, Nat.reduceAdd, Nat.reduceLT]
        (repeat' (first | rfl | exact trivial | exact fun h => h | exact fun h => (by rw [h]; rfl) | apply And.intro | omega | exact Nat.le_of_ble_eq_true rfl))) ?_
    refine Tr.reg [1, 2, 7, 8, 9, 10, 11, 12, 13, 14, 15, 16] (by
        simp only [↓sxd, sxu, ↓zE, ↓exq, St.keep, ↓zD, Nat.reduceBEq, Nat.reduceAdd, Nat.reduceLT, tysW30_13]
        (repeat ((with_reducible refine And.intro ?_ ?_); (focus (first | with_reducible rfl | trivial | exact fun h => h | exact fun h => (by rw [h]; rfl) | omega | assumption))))
        refine CallO.use (valid_c c (by omega) (by omega) (by omega) true) ?_
        try simp only [↓sxd, sxu, ↓zE, ↓exq, ↓zN, Nat.reduceBEq, Nat.reduceAdd, Nat.reduceLT]
        (repeat' (first | rfl | exact trivial | exact fun h => h | exact fun h => (by rw [h]; rfl) | apply And.intro | omega | exact Nat.le_of_ble_eq_true rfl))) ?_
    refine Tr.seq ?_
    refine Tr.reg [1, 2, 7, 8, 10, 12, 13, 14, 15, 16, 85] (by
        simp only [↓sxd, sxu, ↓zE, ↓exq, St.keep, Nat.reduceBEq, Nat.reduceLT]
        iterate 9
          (repeat ((with_reducible refine And.intro ?_ ?_); (focus (first | with_reducible rfl | trivial | exact fun h => h | exact fun h => (by rw [h]; rfl) | omega | assumption))))
          refine GdO.mk _ (fun hg => by simp only [↓sxd, sxu, ↓exq, Nat.reduceBEq, hg]; (repeat' (first | rfl | exact trivial | exact fun h => h | exact fun h => (by rw [h]; rfl) | apply And.intro | omega | exact Nat.le_of_ble_eq_true rfl))) ?_
          simp only [↓sxd, sxu, ↓zE, ↓exq, ↓zH, Nat.reduceBEq, Nat.reduceLT]
        (repeat ((with_reducible refine And.intro ?_ ?_); (focus (first | with_reducible rfl | trivial | exact fun h => h | exact fun h => (by rw [h]; rfl) | omega | assumption))))
        first | refine GdO.or (fun hg => by simp only [sxu, Nat.reduceBEq, pickArgs, hg]; (repeat' (first | rfl | exact trivial | exact fun h => h | exact fun h => (by rw [h]; rfl) | apply And.intro | omega | exact Nat.le_of_ble_eq_true rfl))) ?_ | refine GdO.mk _ (fun hg => by simp only [↓sxd, sxu, ↓zE, ↓zC, zK, ↓exP, ↓exq, ↓zB, St.keep, ↓zH, ↓zL, ↓zJ, ↓zD, ↓zN, ↓zI, ↓zG, ↓zQ, ↓zA, Nat.reduceBEq, Nat.reduceAdd, Nat.reduceLT, Nat.reduceMul, Nat.reduceSub, Nat.reduceLeDiff, Nat.reduceEqDiff, Int.reduceLE, Int.reduceLT, Int.reduceToNat, reduceIte, implies_true, sxe, tysW30_13, hg, if_true]; (repeat' (first | rfl | exact trivial | exact fun h => h | exact fun h => (by rw [h]; rfl) | apply And.intro | omega | exact Nat.le_of_ble_eq_true rfl))) ?_
        simp only [↓sxd, sxu, ↓zE, Nat.reduceBEq, Nat.reduceLT]
        (repeat ((with_reducible refine And.intro ?_ ?_); (focus (first | with_reducible rfl | trivial | exact fun h => h | exact fun h => (by rw [h]; rfl) | omega | assumption))))
        first | refine GdO.and (fun hg => by simp only [sxu, Nat.reduceBEq, pickArgs, hg]; (repeat' (first | rfl | exact trivial | exact fun h => h | exact fun h => (by rw [h]; rfl) | apply And.intro | omega | exact Nat.le_of_ble_eq_true rfl))) ?_ | refine GdO.mk _ (fun hg => by simp only [↓sxd, sxu, ↓zE, ↓zC, zK, ↓exP, ↓exq, ↓zB, St.keep, ↓zH, ↓zL, ↓zJ, ↓zD, ↓zN, ↓zI, ↓zG, ↓zQ, ↓zA, Nat.reduceBEq, Nat.reduceAdd, Nat.reduceLT, Nat.reduceMul, Nat.reduceSub, Nat.reduceLeDiff, Nat.reduceEqDiff, Int.reduceLE, Int.reduceLT, Int.reduceToNat, reduceIte, implies_true, sxe, tysW30_13, hg, if_true]; (repeat' (first | rfl | exact trivial | exact fun h => h | exact fun h => (by rw [h]; rfl) | apply And.intro | omega | exact Nat.le_of_ble_eq_true rfl))) ?_
        simp only [↓sxd, sxu, ↓zE, ↓exq, ↓zH, Nat.reduceBEq, Nat.reduceLT]
        (repeat' (first | rfl | exact trivial | exact fun h => h | exact fun h => (by rw [h]; rfl) | apply And.intro | omega | exact Nat.le_of_ble_eq_true rfl))) ?_
    refine Tr.cond rfl (fun h85 => ?_) (fun h85 => ?_)
    · exact absurd h85 (by
        rw [Bool.not_eq_true]
        have hd2 : f = c.due true := by
          by_cases h0 : c.due true = 0
          · rw [doubled_law (by rw [due_eq]; exact h0)] at hD
            simp only [Prod.mk.injEq] at hD
            rw [hD.2, h0]
          · rw [doubled_due h0] at hD
            simp only [Prod.mk.injEq] at hD
            exact hD.2
        rw [hd2]
        by_cases h0 : c.due (c.both a b) = 0
        · rw [together_law (by rw [due_eq]; exact h0)] at hR
          simp only [Prod.mk.injEq] at hR
          rw [hR.2.2, h0]
          simp
        · rw [together_due h0] at hR
          simp only [Prod.mk.injEq] at hR
          rw [hR.1, hR.2.1, hR.2.2]
          simp)
    · refine Tr.skip ?_
      refine Tr.seq ?_
      refine Tr.reg [1, 2, 7, 8, 10, 12, 13, 15, 16, 87] (by
          simp only [↓sxd, sxu, ↓zE, ↓exq, St.keep, Nat.reduceBEq, Nat.reduceLT]
          (repeat' (first | rfl | exact trivial | exact fun h => h | exact fun h => (by rw [h]; rfl) | apply And.intro | omega | exact Nat.le_of_ble_eq_true rfl))) ?_
      refine Tr.join2 (st' := ⟨[(10, SI (nats d)), (12, I ((c.entries.length : Int) - 1)), (15, SL ((c.validL true).map nats)), (16, I (c.due true))], [(0, .arr 7 [cs c (SP c.same) (SP c.apart)])], 1, 183, [], 0⟩) ?_ ?_
      ·
        refine Tr.cond rfl (fun h87 => ?_) (fun h87 => ?_)
        · have hw : c.due (c.both a b) = 0 := by simpa using h87
          obtain ⟨hf, hb, hne⟩ := due_zero hw
          obtain ⟨b1, b2, b3, b4⟩ := both_iff.1 hb
          have hlaw := together_law (a := a) (b := b) (by rw [due_eq]; exact hw)
          rw [← hR] at hlaw
          simp only [Prod.mk.injEq] at hlaw
          obtain ⟨rfl, rfl, _⟩ := hlaw
          have hvl : c.validL (c.both a b) = c.all := if_pos hw
          rw [hvl]
          obtain ⟨x, rfl⟩ := Int.eq_ofNat_of_zero_le b1
          obtain ⟨y, rfl⟩ := Int.eq_ofNat_of_zero_le b3
          simp only [Int.toNat_natCast]
          have hmem : ∀ v ∈ c.all, v.length = c.entries.length := fun v hv => ((mem_all hf.lims).1 hv).1
          have hal : c.all.length ≤ 3628800 := by
            have h1 := (allFrom_len c c.entries.length [] .nil).1
            have h2 : cap c.entries.length 0 ≤ 3628800 := cap_le (by have := hf.n10; omega)
            exact Nat.le_trans h1 h2
          generalize c.all = L at hmem hal
          refine Tr.reg [1, 2, 7, 8, 10, 12, 13, 15, 16, 17, 18] (by
              simp only [↓sxd, sxu, ↓zE, ↓exq, St.keep, Nat.reduceBEq, Nat.reduceLT]
              (repeat' (first | rfl | exact trivial | exact fun h => h | exact fun h => (by rw [h]; rfl) | apply And.intro | omega | exact Nat.le_of_ble_eq_true rfl))) ?_
          refine Tr.seq ?_
          refine Tr.reg [1, 2, 7, 8, 10, 12, 13, 15, 16, 17, 18, 19] (by
              simp only [↓sxd, sxu, ↓zE, ↓exq, St.keep, Nat.reduceBEq, Nat.reduceLT]
              (repeat' (first | rfl | exact trivial | exact fun h => h | exact fun h => (by rw [h]; rfl) | apply And.intro | omega | exact Nat.le_of_ble_eq_true rfl))) ?_
          refine Tr.imp (st' := ⟨[(1, I x), (2, I y), (7, B (someOf L x y)), (8, B (everyOf L x y)), (10, SI (nats d)), (12, I ((c.entries.length : Int) - 1)), (13, SL (L.map nats)), (15, SL ((c.validL true).map nats)), (16, I (c.due true)), (17, B (someOf (L.take 0) x y)), (18, B (everyOf (L.take 0) x y)), (19, I 0)], [(0, .arr 7 [cs c (SP c.same) (SP c.apart)])], 1, 183, [], 0⟩) (Imp.keepAll) (Tr.block (Tr.loopI (fun mm ss => ∃ (i : Nat), (i ≤ L.length) ∧ L.length - i = mm ∧ ss = ⟨[(1, I x), (2, I y), (7, B (someOf L x y)), (8, B (everyOf L x y)), (10, SI (nats d)), (12, I ((c.entries.length : Int) - 1)), (13, SL (L.map nats)), (15, SL ((c.validL true).map nats)), (16, I (c.due true)), (17, B (someOf (L.take i) x y)), (18, B (everyOf (L.take i) x y)), (19, I i)], [(0, .arr 7 [cs c (SP c.same) (SP c.apart)])], 1, 183, [], 0⟩) _ ⟨0, ?_, rfl, rfl⟩ ?_))
          · exact Nat.zero_le _
          rintro mm ss ⟨i, hI, rfl, rfl⟩
          refine Tr.seq ?_
          refine Tr.reg [1, 2, 7, 8, 10, 12, 13, 15, 16, 17, 18, 19, 91] (by
              simp only [↓sxd, sxu, ↓zE, ↓exq, ↓zB, St.keep, ↓zJ, Nat.reduceBEq, Nat.reduceLT, sxe, tysW30_13]
              (repeat' (first | rfl | exact trivial | exact fun h => h | exact fun h => (by rw [h]; rfl) | apply And.intro | omega | exact Nat.le_of_ble_eq_true rfl))) ?_
          refine Tr.cond rfl (fun h91 => ?_) (fun h91 => ?_)
          · have hlt : i < L.length := by simp at h91; omega
            have hvn := hmem _ (getD_memL hlt)
            have hs1 := some_take (x := x) (y := y) hlt
            have hs2 := every_take (x := x) (y := y) hlt
            have hx : x < (L.getD i []).length := by omega
            have hy : y < (L.getD i []).length := by omega
            generalize hv : L.getD i [] = v at hvn hs1 hs2 hx hy
            refine Tr.skip ?_
            refine Tr.seq ?_
            refine Tr.block ?_
            refine Tr.regD [0, 1, 2, 3, 4, 5, 6, 7, 8, 9, 10, 11, 12, 13, 14, 15] [] [] [1, 2, 7, 8, 10, 12, 13, 15, 16, 17, 18, 19, 20] mix (by kernel_rfl) (by
                simp (maxSteps := 2000000) only [↓sxd, sxu, ↓zC, zK, ↓exq, St.keep, ↓zD, Nat.reduceBEq, Nat.reduceLT, sxe, tysW30_13, hlt, nats_getD hlt, hv, hx, hy, nats_at, nats_len]
                (repeat' (first | rfl | exact trivial | exact fun h => h | exact fun h => (by rw [h]; rfl) | apply And.intro | omega | exact Nat.le_of_ble_eq_true rfl))) ?_
            refine Tr.reg1 [1, 2, 7, 8, 10, 12, 13, 15, 16, 17, 18, 19] (by
                simp only [↓sxd, sxu, ↓zE, ↓exq, St.keep, Nat.reduceBEq, Nat.reduceLT]
                iterate 2
                  (repeat ((with_reducible refine And.intro ?_ ?_); (focus (first | with_reducible rfl | trivial | exact fun h => h | exact fun h => (by rw [h]; rfl) | omega | assumption))))
                  refine GdO.mk _ (fun hg => by simp only [sxu, ↓exq, Nat.reduceBEq, hg]; (repeat' (first | rfl | exact trivial | exact fun h => h | exact fun h => (by rw [h]; rfl) | apply And.intro | omega | exact Nat.le_of_ble_eq_true rfl))) ?_
                  simp only [↓sxd, sxu, ↓zE, ↓exq, ↓zH, Nat.reduceBEq, Nat.reduceLT]
                (repeat' (first | rfl | exact trivial | exact fun h => h | exact fun h => (by rw [h]; rfl) | apply And.intro | omega | exact Nat.le_of_ble_eq_true rfl))) ?_
            have w2 : IntKind.i64.wrap ((i : Int) + 1) = ((i + 1 : Nat) : Int) := by rw [wr (by omega) (by omega)]; rfl
            refine Tr.reg1 [1, 2, 7, 8, 10, 12, 13, 15, 16, 17, 18, 19] (by
                simp only [↓sxd, sxu, ↓zE, ↓exq, St.keep, Nat.reduceBEq, Nat.reduceLT, w2]
                (repeat' (first | rfl | exact trivial | exact fun h => h | exact fun h => (by rw [h]; rfl) | apply And.intro | omega | exact Nat.le_of_ble_eq_true rfl))) ?_
            refine ⟨_, _, ?_, ?_, ⟨i + 1, hlt, rfl, rfl⟩⟩
            · omega
            · rw [hs1, hs2]
              simp only [ib]
              exact Imp.keepAll
          · have hge : i = L.length := by simp at h91; omega
            subst hge
            rw [List.take_length]
            refine Tr.exit ?_
            refine Tr.reg [10, 12, 15, 16, 124] (by
                simp only [↓sxd, sxu, ↓zE, ↓exq, St.keep, Nat.reduceBEq, Nat.reduceLT, tysW30_13]
                iterate 3
                  (repeat ((with_reducible refine And.intro ?_ ?_); (focus (first | with_reducible rfl | trivial | exact fun h => h | exact fun h => (by rw [h]; rfl) | omega | assumption))))
                  refine GdO.mk _ (fun hg => by simp only [↓sxd, sxu, ↓exq, Nat.reduceBEq, tysW30_13, hg]; (repeat' (first | rfl | exact trivial | exact fun h => h | exact fun h => (by rw [h]; rfl) | apply And.intro | omega | exact Nat.le_of_ble_eq_true rfl))) ?_
                  simp only [↓sxd, sxu, ↓zE, ↓exq, ↓zH, Nat.reduceBEq, Nat.reduceLT]
                (repeat' (first | rfl | exact trivial | exact fun h => h | exact fun h => (by rw [h]; rfl) | apply And.intro | omega | exact Nat.le_of_ble_eq_true rfl))) ?_
            refine Tr.cond rfl (fun h124 => ?_) (fun h124 => ?_)
            · simp at h124
            · skip
              refine Tr.skip ?_
              exact ⟨_, Imp.keep [10, 12, 15, 16], rfl⟩
        · skip
          refine Tr.skip ?_
          exact ⟨_, Imp.keep [10, 12, 15, 16], rfl⟩
      have hd3 : d = if c.due true = 0 then (List.range c.entries.length).filter (fun i => (c.validL true).all fun v => dv c.entries.length v i) else [] := by
        by_cases h0 : c.due true = 0
        · rw [if_pos h0, show c.validL true = c.all from if_pos h0]
          rw [doubled_law (by rw [due_eq]; exact h0)] at hD
          simp only [Prod.mk.injEq] at hD
          exact hD.1
        · rw [if_neg h0]
          rw [doubled_due h0] at hD
          simp only [Prod.mk.injEq] at hD
          exact hD.1
      have hE : ∀ v ∈ c.validL true, v.length = c.entries.length := fun v hv => by
        unfold Census.validL at hv
        split at hv
        · rename_i h0
          exact ((mem_all (due_zero h0).1.lims).1 hv).1
        · cases hv
      have hEl : (c.validL true).length ≤ 3628800 := by
        unfold Census.validL
        split
        · rename_i h0
          have h1 := (allFrom_len c c.entries.length [] .nil).1
          have h2 : cap c.entries.length 0 ≤ 3628800 := cap_le (by have := (due_zero h0).1.n10; omega)
          exact Nat.le_trans h1 h2
        · simp
      have hf13 : c.entries.length ≤ 13 := t1
      generalize c.validL true = E at hd3 hE hEl ⊢
      generalize c.due true = w at hd3 ⊢
      refine Tr.reg [10, 12, 15, 16, 21] (by
          simp only [↓sxd, sxu, ↓zE, ↓exq, St.keep, Nat.reduceBEq, Nat.reduceLT]
          (repeat' (first | rfl | exact trivial | exact fun h => h | exact fun h => (by rw [h]; rfl) | apply And.intro | omega | exact Nat.le_of_ble_eq_true rfl))) ?_
      refine Tr.seq ?_
      refine Tr.reg [10, 12, 15, 16, 21, 22] (by
          simp only [↓sxd, sxu, ↓zE, ↓exq, St.keep, Nat.reduceBEq, Nat.reduceLT]
          (repeat' (first | rfl | exact trivial | exact fun h => h | exact fun h => (by rw [h]; rfl) | apply And.intro | omega | exact Nat.le_of_ble_eq_true rfl))) ?_
      refine Tr.imp (st' := ⟨[(10, SI (nats d)), (12, I ((c.entries.length : Int) - 1)), (15, SL (E.map nats)), (16, I w), (21, .slc 1 1 0 [].length [].length), (22, I 0)], [(1, .arr 1 ([].map fun (n : Nat) => [I n])), (0, .arr 7 [cs c (SP c.same) (SP c.apart)])], 2, 183, [], 0⟩) (Imp.goV 1 rfl rfl rfl rfl (by repeat' (first | exact trivial | exact F2.nil | refine F2.cons ?_ ?_ | refine TmV.cons rfl VnS.nil ?_ | refine TmV.cons rfl VnS.same ?_ | refine ⟨rfl, ?_⟩ | exact VnO.same _ | refine VnO.arr ?_ | exact VnS.nil | exact VnS.same | exact F2.refl fun _ _ => VnS.same)) (by repeat' (first | exact trivial | exact F2.nil | refine F2.cons ?_ ?_ | refine TmV.cons rfl VnS.nil ?_ | refine TmV.cons rfl VnS.same ?_ | refine ⟨rfl, ?_⟩ | exact VnO.same _ | refine VnO.arr ?_ | exact VnS.nil | exact VnS.same | exact F2.refl fun _ _ => VnS.same))) (Tr.block (Tr.loopI (fun mm ss => ∃ (i : Nat) (o : List Nat), (i ≤ c.entries.length ∧ (w ≠ 0 → i = 0) ∧ o = (List.range i).filter (fun i => E.all fun v => dv c.entries.length v i)) ∧ c.entries.length - i = mm ∧ ss = ⟨[(10, SI (nats d)), (12, I ((c.entries.length : Int) - 1)), (15, SL (E.map nats)), (16, I w), (21, .slc 1 1 0 o.length o.length), (22, I i)], [(1, .arr 1 (o.map fun (n : Nat) => [I n])), (0, .arr 7 [cs c (SP c.same) (SP c.apart)])], 2, 183, [], 0⟩) _ ⟨0, [], ?_, rfl, rfl⟩ ?_))
      · exact ⟨Nat.zero_le _, fun _ => rfl, rfl⟩
      rintro mm ss ⟨i, o, hI, rfl, rfl⟩
      obtain ⟨hI, hw0, ho⟩ := hI
      have hol : o.length ≤ i := by rw [ho]; exact Nat.le_trans (List.length_filter_le _ _) (by simp)
      refine Tr.seq ?_
      refine Tr.reg [10, 12, 15, 16, 21, 22, 131] (by
          simp only [↓sxd, sxu, ↓zE, ↓exq, St.keep, Nat.reduceBEq, Nat.reduceLT]
          iterate 2
            (repeat ((with_reducible refine And.intro ?_ ?_); (focus (first | with_reducible rfl | trivial | exact fun h => h | exact fun h => (by rw [h]; rfl) | omega | assumption))))
            refine GdO.mk _ (fun hg => by simp only [↓sxd, sxu, ↓exq, Nat.reduceBEq, hg]; (repeat' (first | rfl | exact trivial | exact fun h => h | exact fun h => (by rw [h]; rfl) | apply And.intro | omega | exact Nat.le_of_ble_eq_true rfl))) ?_
            simp only [↓sxd, sxu, ↓zE, ↓exq, ↓zH, Nat.reduceBEq, Nat.reduceLT]
          (repeat' (first | rfl | exact trivial | exact fun h => h | exact fun h => (by rw [h]; rfl) | apply And.intro | omega | exact Nat.le_of_ble_eq_true rfl))) ?_
      refine Tr.cond rfl (fun h131 => ?_) (fun h131 => ?_)
      · have hlt : i < c.entries.length := by simp at h131; omega
        have hw : w = 0 := by simp at h131; omega
        refine Tr.skip ?_
        refine Tr.seq ?_
        refine Tr.block ?_
        refine Tr.reg [10, 12, 15, 16, 21, 22, 23] (by
            simp only [↓sxd, sxu, ↓zE, ↓exq, St.keep, Nat.reduceBEq, Nat.reduceLT]
            (repeat' (first | rfl | exact trivial | exact fun h => h | exact fun h => (by rw [h]; rfl) | apply And.intro | omega | exact Nat.le_of_ble_eq_true rfl))) ?_
        refine Tr.seq ?_
        refine Tr.reg [10, 12, 15, 16, 21, 22, 23, 24] (by
            simp only [↓sxd, sxu, ↓zE, ↓exq, St.keep, Nat.reduceBEq, Nat.reduceLT]
            (repeat' (first | rfl | exact trivial | exact fun h => h | exact fun h => (by rw [h]; rfl) | apply And.intro | omega | exact Nat.le_of_ble_eq_true rfl))) ?_
        refine Tr.imp (st' := ⟨[(10, SI (nats d)), (12, I ((c.entries.length : Int) - 1)), (15, SL (E.map nats)), (16, I w), (21, .slc 1 1 0 o.length o.length), (22, I i), (23, B ((E.take 0).all fun v => dv c.entries.length v i)), (24, I 0)], [(1, .arr 1 (o.map fun (n : Nat) => [I n])), (0, .arr 7 [cs c (SP c.same) (SP c.apart)])], 2, 183, [], 0⟩) (Imp.keepAll) (Tr.block (Tr.loopI (fun mm ss => ∃ (k : Nat), (k ≤ E.length) ∧ E.length - k = mm ∧ ss = ⟨[(10, SI (nats d)), (12, I ((c.entries.length : Int) - 1)), (15, SL (E.map nats)), (16, I w), (21, .slc 1 1 0 o.length o.length), (22, I i), (23, B ((E.take k).all fun v => dv c.entries.length v i)), (24, I k)], [(1, .arr 1 (o.map fun (n : Nat) => [I n])), (0, .arr 7 [cs c (SP c.same) (SP c.apart)])], 2, 183, [], 0⟩) _ ⟨0, ?_, rfl, rfl⟩ ?_))
        · exact Nat.zero_le _
        rintro mm ss ⟨k, hI, rfl, rfl⟩
        refine Tr.seq ?_
        refine Tr.reg [10, 12, 15, 16, 21, 22, 23, 24, 137] (by
            simp only [↓sxd, sxu, ↓zE, ↓exq, ↓zB, St.keep, ↓zJ, Nat.reduceBEq, Nat.reduceLT, sxe, tysW30_13]
            (repeat' (first | rfl | exact trivial | exact fun h => h | exact fun h => (by rw [h]; rfl) | apply And.intro | omega | exact Nat.le_of_ble_eq_true rfl))) ?_
        refine Tr.cond rfl (fun h137 => ?_) (fun h137 => ?_)
        · have hlk : k < E.length := by simp at h137; omega
          have hvn := hE _ (getD_memL hlk)
          have hal := all_take (f := fun v => dv c.entries.length v i) hlk
          have hiv : i < (E.getD k []).length := by omega
          generalize hv : E.getD k [] = v at hvn hal hiv
          refine Tr.skip ?_
          refine Tr.seq ?_
          refine Tr.block ?_
          refine Tr.reg [10, 12, 15, 16, 21, 22, 23, 24, 25] (by
              simp only [↓sxd, sxu, ↓zE, ↓exq, St.keep, Nat.reduceBEq, Nat.reduceLT]
              (repeat' (first | rfl | exact trivial | exact fun h => h | exact fun h => (by rw [h]; rfl) | apply And.intro | omega | exact Nat.le_of_ble_eq_true rfl))) ?_
          refine Tr.seq ?_
          refine Tr.reg [10, 12, 15, 16, 21, 22, 23, 24, 25, 26] (by
              simp only [↓sxd, sxu, ↓zE, ↓exq, St.keep, Nat.reduceBEq, Nat.reduceLT]
              (repeat' (first | rfl | exact trivial | exact fun h => h | exact fun h => (by rw [h]; rfl) | apply And.intro | omega | exact Nat.le_of_ble_eq_true rfl))) ?_
          refine Tr.imp (st' := ⟨[(10, SI (nats d)), (12, I ((c.entries.length : Int) - 1)), (15, SL (E.map nats)), (16, I w), (21, .slc 1 1 0 o.length o.length), (22, I i), (23, B ((E.take k).all fun v => dv c.entries.length v i)), (24, I k), (25, B (dv 0 v i)), (26, I 0)], [(1, .arr 1 (o.map fun (n : Nat) => [I n])), (0, .arr 7 [cs c (SP c.same) (SP c.apart)])], 2, 183, [], 0⟩) (Imp.keepAll) (Tr.block (Tr.loopI (fun mm ss => ∃ (j : Nat), (j ≤ c.entries.length) ∧ c.entries.length - j = mm ∧ ss = ⟨[(10, SI (nats d)), (12, I ((c.entries.length : Int) - 1)), (15, SL (E.map nats)), (16, I w), (21, .slc 1 1 0 o.length o.length), (22, I i), (23, B ((E.take k).all fun v => dv c.entries.length v i)), (24, I k), (25, B (dv j v i)), (26, I j)], [(1, .arr 1 (o.map fun (n : Nat) => [I n])), (0, .arr 7 [cs c (SP c.same) (SP c.apart)])], 2, 183, [], 0⟩) _ ⟨0, ?_, rfl, rfl⟩ ?_))
          · exact Nat.zero_le _
          rintro mm ss ⟨j, hI, rfl, rfl⟩
          refine Tr.seq ?_
          refine Tr.reg [10, 12, 15, 16, 21, 22, 23, 24, 25, 26, 142] (by
              simp only [↓sxd, sxu, ↓zE, ↓exq, St.keep, Nat.reduceBEq, Nat.reduceLT]
              (repeat' (first | rfl | exact trivial | exact fun h => h | exact fun h => (by rw [h]; rfl) | apply And.intro | omega | exact Nat.le_of_ble_eq_true rfl))) ?_
          refine Tr.cond rfl (fun h142 => ?_) (fun h142 => ?_)
          · have hj : j < c.entries.length := by simp at h142; omega
            have hjv : j < v.length := by omega
            refine Tr.skip ?_
            refine Tr.seq ?_
            refine Tr.block ?_
            refine Tr.regD1 [0, 1, 2, 3, 4, 5, 6, 7, 8, 9, 10, 11, 12, 13, 14, 15, 16, 17, 18, 19, 20, 21, 22, 23] [] [] [10, 12, 15, 16, 21, 22, 23, 24, 25, 26] mix (by kernel_rfl) (by
                simp (maxSteps := 2000000) only [↓sxd, sxu, ↓zC, zK, ↓exq, St.keep, Nat.reduceBEq, Nat.reduceLT]
                iterate 19
                  (repeat ((with_reducible refine And.intro ?_ ?_); (focus (first | with_reducible rfl | trivial | exact fun h => h | exact fun h => (by rw [h]; rfl) | omega | assumption))))
                  refine GdD.mk _ (fun hg => by simp (maxSteps := 2000000) only [↓sxd, sxu, ↓exP, ↓exq, ↓zD, Nat.reduceBEq, Nat.reduceLT, sxe, tysW30_13, hlk, nats_getD hlk, hv, hjv, hiv, nats_at, nats_len, hg]; (repeat' (first | rfl | exact trivial | exact fun h => h | exact fun h => (by rw [h]; rfl) | apply And.intro | omega | exact Nat.le_of_ble_eq_true rfl))) ?_
                  simp (maxSteps := 2000000) only [↓sxd, sxu, ↓zC, zK, Nat.reduceBEq, Nat.reduceLT]
                (repeat ((with_reducible refine And.intro ?_ ?_); (focus (first | with_reducible rfl | trivial | exact fun h => h | exact fun h => (by rw [h]; rfl) | omega | assumption))))
                first | refine GdD.and (fun hg => by simp (maxSteps := 2000000) only [sxu, Nat.reduceBEq, pickArgs, hg]; (repeat' (first | rfl | exact trivial | exact fun h => h | exact fun h => (by rw [h]; rfl) | apply And.intro | omega | exact Nat.le_of_ble_eq_true rfl))) ?_ | refine GdD.mk _ (fun hg => by simp (maxSteps := 2000000) only [↓sxd, sxu, ↓zE, ↓zC, zK, ↓exP, ↓exq, ↓zB, St.keep, ↓zH, ↓zL, ↓zJ, ↓zD, ↓zN, ↓zI, ↓zG, ↓zQ, ↓zA, Nat.reduceBEq, Nat.reduceAdd, Nat.reduceLT, Nat.reduceMul, Nat.reduceSub, Nat.reduceLeDiff, Nat.reduceEqDiff, Int.reduceLE, Int.reduceLT, Int.reduceToNat, reduceIte, implies_true, sxe, tysW30_13, hlk, nats_getD hlk, hv, hjv, hiv, nats_at, nats_len, hg, if_true]; (repeat' (first | rfl | exact trivial | exact fun h => h | exact fun h => (by rw [h]; rfl) | apply And.intro | omega | exact Nat.le_of_ble_eq_true rfl))) ?_
                simp (maxSteps := 2000000) only [↓sxd, sxu, ↓zC, zK, ↓exq, ↓zH, Nat.reduceBEq, Nat.reduceLT]
                (repeat' (first | rfl | exact trivial | exact fun h => h | exact fun h => (by rw [h]; rfl) | apply And.intro | omega | exact Nat.le_of_ble_eq_true rfl))) ?_
            have w3 : IntKind.i64.wrap ((j : Int) + 1) = ((j + 1 : Nat) : Int) := by rw [wr (by omega) (by omega)]; rfl
            refine Tr.reg1 [10, 12, 15, 16, 21, 22, 23, 24, 25, 26] (by
                simp only [↓sxd, sxu, ↓zE, ↓exq, St.keep, Nat.reduceBEq, Nat.reduceLT, w3]
                (repeat' (first | rfl | exact trivial | exact fun h => h | exact fun h => (by rw [h]; rfl) | apply And.intro | omega | exact Nat.le_of_ble_eq_true rfl))) ?_
            refine ⟨_, _, ?_, ?_, ⟨j + 1, hj, rfl, rfl⟩⟩
            · omega
            · rw [dv_succ]
              simp only [ib, ibn]
              exact Imp.keepAll
          · have hge : j = c.entries.length := by simp at h142; omega
            subst hge
            refine Tr.exit ?_
            refine Tr.reg1 [10, 12, 15, 16, 21, 22, 23, 24] (by
                simp only [↓sxd, sxu, ↓zE, ↓exq, St.keep, Nat.reduceBEq, Nat.reduceLT]
                (repeat ((with_reducible refine And.intro ?_ ?_); (focus (first | with_reducible rfl | trivial | exact fun h => h | exact fun h => (by rw [h]; rfl) | omega | assumption))))
                refine GdO.mk _ (fun hg => by simp only [sxu, ↓exq, Nat.reduceBEq, hg]; (repeat' (first | rfl | exact trivial | exact fun h => h | exact fun h => (by rw [h]; rfl) | apply And.intro | omega | exact Nat.le_of_ble_eq_true rfl))) ?_
                simp only [↓sxd, sxu, ↓zE, ↓exq, ↓zH, Nat.reduceBEq, Nat.reduceLT]
                (repeat' (first | rfl | exact trivial | exact fun h => h | exact fun h => (by rw [h]; rfl) | apply And.intro | omega | exact Nat.le_of_ble_eq_true rfl))) ?_
            have w4 : IntKind.i64.wrap ((k : Int) + 1) = ((k + 1 : Nat) : Int) := by rw [wr (by omega) (by omega)]; rfl
            refine Tr.reg1 [10, 12, 15, 16, 21, 22, 23, 24] (by
                simp only [↓sxd, sxu, ↓zE, ↓exq, St.keep, Nat.reduceBEq, Nat.reduceLT, w4]
                (repeat' (first | rfl | exact trivial | exact fun h => h | exact fun h => (by rw [h]; rfl) | apply And.intro | omega | exact Nat.le_of_ble_eq_true rfl))) ?_
            refine ⟨_, _, ?_, ?_, ⟨k + 1, hlk, rfl, rfl⟩⟩
            · omega
            · rw [hal]
              exact Imp.keepAll
        · have hge : k = E.length := by simp at h137; omega
          subst hge
          rw [List.take_length]
          refine Tr.exit ?_
          refine Tr.reg [10, 12, 15, 16, 21, 22, 172] (by
              simp only [↓sxd, sxu, ↓zE, ↓exq, St.keep, Nat.reduceBEq, Nat.reduceLT]
              (repeat' (first | rfl | exact trivial | exact fun h => h | exact fun h => (by rw [h]; rfl) | apply And.intro | omega | exact Nat.le_of_ble_eq_true rfl))) ?_
          refine Tr.cond rfl (fun h172 => ?_) (fun h172 => ?_)
          · have hg : (E.all fun v => dv c.entries.length v i) = true := h172
            refine Tr.reg1 [10, 12, 15, 16, 21, 22] (by
                simp only [↓sxd, sxu, ↓zE, ↓exq, ↓zB, St.keep, ↓zG, ↓zQ, Nat.reduceBEq, Nat.reduceAdd, Nat.reduceLT, Nat.reduceLeDiff, Nat.reduceEqDiff, tysW30_13]
                (repeat' (first | rfl | exact trivial | exact fun h => h | exact fun h => (by rw [h]; rfl) | apply And.intro | omega | exact Nat.le_of_ble_eq_true rfl))) ?_
            have w5 : IntKind.i64.wrap ((i : Int) + 1) = ((i + 1 : Nat) : Int) := by rw [wr (by omega) (by omega)]; rfl
            refine Tr.reg1 [10, 12, 15, 16, 21, 22] (by
                simp only [↓sxd, sxu, ↓zE, ↓exq, St.keep, Nat.reduceBEq, Nat.reduceLT, w5]
                (repeat' (first | rfl | exact trivial | exact fun h => h | exact fun h => (by rw [h]; rfl) | apply And.intro | omega | exact Nat.le_of_ble_eq_true rfl))) ?_
            have hsu : (List.range (i + 1)).filter (fun i => E.all fun v => dv c.entries.length v i) = o ++ (if (E.all fun v => dv c.entries.length v i) = true then [i] else []) := by
              rw [List.range_succ, List.filter_append, ← ho]
              cases hh : (E.all fun v => dv c.entries.length v i) <;> simp [hh]
            rw [hg] at hsu
            first |(have hq : (E.all fun v => dv c.entries.length v i) = true := hg; exact ⟨_, _, by omega, Imp.go (fun i => if i < 1 then i else i + 1) [_, _] rfl rfl (.refl _) (fun _ h => absurd h (Nat.not_lt_zero _)) (fun id h => by simp only [show ¬ id < 1 by omega, if_false]; omega) (by simp only [List.length_append, List.length_cons, List.length_nil, Nat.zero_add, Int.natCast_add, Int.natCast_one]; repeat' (first | exact TmT.cons rfl (TnS.d _) ?_ | exact trivial | exact F2.nil | refine F2.append ?_ ?_ | refine F2.map fun _ _ => ?_ | refine F2.cons ?_ ?_ | refine TmT.cons rfl ?_ ?_ | exact TnS.d _ | exact TnS.dx _ | exact TnS.dp _ | exact TnS.slc rfl | exact TnS.ptr rfl | refine TnS.frzf rfl (by simp) (by simp) (by simp) ?_ | refine TnS.frz0 rfl (by simp) (by simp) (by simp) ?_ | refine TnS.frzm rfl (by simp) ?_ | exact TnS.mapr rfl | exact TnS.yld rfl | refine ⟨rfl, ?_⟩ | refine TnO.arr ?_ | refine TnO.map ?_ | exact TnO.raw _ | exact TnO.iter _ _ | refine TnS.agg ?_ | refine TnS.tup ?_ | exact TnS.pure (Pure.clo (by assumption) (by assumption)) | refine TnS.clo ?_ ?_ | exact TnS.unk _ | exact TnS.pure (Pure.clo (by assumption) (by assumption)))) (by simp only [List.map_append, List.map_cons, List.map_nil]; repeat' (first | exact TmT.cons rfl (TnS.d _) ?_ | exact trivial | exact F2.nil | refine F2.append ?_ ?_ | refine F2.map fun _ _ => ?_ | refine F2.cons ?_ ?_ | refine TmT.cons rfl ?_ ?_ | exact TnS.d _ | exact TnS.dx _ | exact TnS.dp _ | exact TnS.slc rfl | exact TnS.ptr rfl | refine TnS.frzf rfl (by simp) (by simp) (by simp) ?_ | refine TnS.frz0 rfl (by simp) (by simp) (by simp) ?_ | refine TnS.frzm rfl (by simp) ?_ | exact TnS.mapr rfl | exact TnS.yld rfl | refine ⟨rfl, ?_⟩ | refine TnO.arr ?_ | refine TnO.map ?_ | exact TnO.raw _ | exact TnO.iter _ _ | refine TnS.agg ?_ | refine TnS.tup ?_ | exact TnS.pure (Pure.clo (by assumption) (by assumption)) | refine TnS.clo ?_ ?_ | exact TnS.unk _ | exact TnS.pure (Pure.clo (by assumption) (by assumption)))) (fun _ => rfl), ⟨i + 1, o ++ [i], ⟨hlt, fun h => absurd hw h, by rw [hsu]; rfl⟩, rfl, rfl⟩⟩) |(exact ⟨_, _, by omega, Imp.keepAll, ⟨i + 1, o, ⟨hlt, fun h => absurd hw h, by rw [hsu]; simp⟩, rfl, rfl⟩⟩)
          · have hg : (E.all fun v => dv c.entries.length v i) = false := h172
            refine Tr.skip ?_
            have w5 : IntKind.i64.wrap ((i : Int) + 1) = ((i + 1 : Nat) : Int) := by rw [wr (by omega) (by omega)]; rfl
            refine Tr.reg1 [10, 12, 15, 16, 21, 22] (by
                simp only [↓sxd, sxu, ↓zE, ↓exq, St.keep, Nat.reduceBEq, Nat.reduceLT, w5]
                (repeat' (first | rfl | exact trivial | exact fun h => h | exact fun h => (by rw [h]; rfl) | apply And.intro | omega | exact Nat.le_of_ble_eq_true rfl))) ?_
            have hsu : (List.range (i + 1)).filter (fun i => E.all fun v => dv c.entries.length v i) = o ++ (if (E.all fun v => dv c.entries.length v i) = true then [i] else []) := by
              rw [List.range_succ, List.filter_append, ← ho]
              cases hh : (E.all fun v => dv c.entries.length v i) <;> simp [hh]
            rw [hg] at hsu
            first |(have hq : (E.all fun v => dv c.entries.length v i) = true := hg; exact ⟨_, _, by omega, Imp.go (fun i => if i < 1 then i else i + 1) [_, _] rfl rfl (.refl _) (fun _ h => absurd h (Nat.not_lt_zero _)) (fun id h => by simp only [show ¬ id < 1 by omega, if_false]; omega) (by simp only [List.length_append, List.length_cons, List.length_nil, List.length_map, List.map_append, List.map_cons, List.map_nil, Nat.zero_add, Nat.add_zero, Int.natCast_add, Int.natCast_one, Int.natCast_zero, List.append_assoc, List.nil_append]; repeat' (first | exact TmT.cons rfl (TnS.d _) ?_ | exact trivial | exact F2.nil | refine F2.append ?_ ?_ | refine F2.map fun _ _ => ?_ | refine F2.cons ?_ ?_ | refine TmT.cons rfl ?_ ?_ | exact TnS.d _ | exact TnS.dx _ | exact TnS.dp _ | exact TnS.slc rfl | exact TnS.ptr rfl | refine TnS.frzf rfl (by simp) (by simp) (by simp) ?_ | refine TnS.frz0 rfl (by simp) (by simp) (by simp) ?_ | refine TnS.frzm rfl (by simp) ?_ | exact TnS.mapr rfl | exact TnS.yld rfl | refine ⟨rfl, ?_⟩ | refine TnO.arr ?_ | refine TnO.map ?_ | exact TnO.raw _ | exact TnO.iter _ _ | refine TnS.agg ?_ | refine TnS.tup ?_ | exact TnS.pure (Pure.clo (by assumption) (by assumption)) | refine TnS.clo ?_ ?_ | exact TnS.unk _ | exact TnS.pure (Pure.clo (by assumption) (by assumption)))) (by simp only [List.length_append, List.length_cons, List.length_nil, List.length_map, List.map_append, List.map_cons, List.map_nil, Nat.zero_add, Nat.add_zero, Int.natCast_add, Int.natCast_one, Int.natCast_zero, List.append_assoc, List.nil_append]; repeat' (first | exact TmT.cons rfl (TnS.d _) ?_ | exact trivial | exact F2.nil | refine F2.append ?_ ?_ | refine F2.map fun _ _ => ?_ | refine F2.cons ?_ ?_ | refine TmT.cons rfl ?_ ?_ | exact TnS.d _ | exact TnS.dx _ | exact TnS.dp _ | exact TnS.slc rfl | exact TnS.ptr rfl | refine TnS.frzf rfl (by simp) (by simp) (by simp) ?_ | refine TnS.frz0 rfl (by simp) (by simp) (by simp) ?_ | refine TnS.frzm rfl (by simp) ?_ | exact TnS.mapr rfl | exact TnS.yld rfl | refine ⟨rfl, ?_⟩ | refine TnO.arr ?_ | refine TnO.map ?_ | exact TnO.raw _ | exact TnO.iter _ _ | refine TnS.agg ?_ | refine TnS.tup ?_ | exact TnS.pure (Pure.clo (by assumption) (by assumption)) | refine TnS.clo ?_ ?_ | exact TnS.unk _ | exact TnS.pure (Pure.clo (by assumption) (by assumption)))) (fun _ => rfl), ⟨i + 1, o ++ [i], ⟨hlt, fun h => absurd hw h, by rw [hsu]; rfl⟩, rfl, rfl⟩⟩) |(exact ⟨_, _, by omega, Imp.keepAll, ⟨i + 1, o, ⟨hlt, fun h => absurd hw h, by rw [hsu]; simp⟩, rfl, rfl⟩⟩)
      · have hge : w = 0 → i = c.entries.length := fun hw => by subst hw; simp at h131; omega
        have hod : o = d := by
          rw [ho, hd3]
          by_cases hw : w = 0
          · rw [if_pos hw, hge hw]
          · rw [if_neg hw, hw0 hw]; rfl
        have hol2 : (nats o).length < 4611686018427387904 := by rw [nats_len]; have := hf13; omega
        have hii : CallP Tryd.prog G0 34 [SI (nats d), SI (nats o)] (B true) := by
          rw [hod] at hol2 ⊢
          have := ints_c (nats d) (nats d) hol2 hol2
          rwa [decide_eq_true rfl] at this
        refine Tr.exit ?_
        refine Tr.imp (Imp.fin (tm' := [(10, SI (nats d)), (21, SI (nats o))]) (.cons rfl (TnS.d _) (.cons rfl (TnS.frz0 rfl (by simp) (by simp) (by simp) (natsF2 o)) trivial))) ?_
        refine Tr.reg [6] (by
            simp only [↓sxd, sxu, ↓zE, ↓exq, St.keep, Nat.reduceBEq, Nat.reduceLT]
            (repeat ((with_reducible refine And.intro ?_ ?_); (focus (first | with_reducible rfl | trivial | exact fun h => h | exact fun h => (by rw [h]; rfl) | omega | assumption))))
            refine CallO.use (hii) ?_
            try simp only [↓sxd, sxu, ↓zE, ↓exq, Nat.reduceLT]
            (repeat ((with_reducible refine And.intro ?_ ?_); (focus (first | with_reducible rfl | trivial | exact fun h => h | exact fun h => (by rw [h]; rfl) | omega | assumption))))
            refine GdO.mk _ (fun hg => by simp only [sxu, ↓exq, ↓zB]; (repeat ((with_reducible refine And.intro ?_ ?_); (focus (first | with_reducible rfl | trivial | exact fun h => h | exact fun h => (by rw [h]; rfl) | omega | assumption)))); exact CallP.use (awake_c) ⟨rfl, rfl, rfl⟩) ?_
            simp only [↓sxd, sxu, ↓zE, ↓exq, ↓zH, Nat.reduceBEq, Nat.reduceLT]
            (repeat' (first | rfl | exact trivial | exact fun h => h | exact fun h => (by rw [h]; rfl) | apply And.intro | omega | exact Nat.le_of_ble_eq_true rfl))) ?_
        refine Tr.ret ?_
        (refine ⟨.inr rfl, ?_⟩; first | rfl | exact ⟨rfl, rfl, trivial⟩ | exact ⟨rfl, rfl, rfl, trivial⟩ | (simp only [Res, ResL, ResOK, ↓sxd, sxu, ↓zE, ↓zC, zK, ↓exP, ↓exq, ↓zB, St.keep, ↓zH, ↓zL, ↓zJ, ↓zD, ↓zN, ↓zI, ↓zG, ↓zQ, ↓zA, Nat.reduceBEq, Nat.reduceAdd, Nat.reduceLT, Nat.reduceMul, Nat.reduceSub, Nat.reduceLeDiff, Nat.reduceEqDiff, Int.reduceLE, Int.reduceLT, Int.reduceToNat, reduceIte, implies_true, sxe, tysW30_13]; (repeat' (first | rfl | exact trivial | exact fun h => h | exact fun h => (by rw [h]; rfl) | apply And.intro | omega | exact Nat.le_of_ble_eq_true rfl))))
end Go.Proofs.YtcnkbdfkjhlbiaaDoor
