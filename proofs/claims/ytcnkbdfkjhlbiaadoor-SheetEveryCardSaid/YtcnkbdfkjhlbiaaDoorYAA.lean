/- Lemmas, part YAA. Conditions: none. -/
import Derived.Test.YtcnkbdfkjhlbiaaDoorXPBC
import Derived.Carry
set_option linter.unusedVariables false
namespace Go.Proofs.YtcnkbdfkjhlbiaaDoor
open Go.Sy
theorem ty.sz77 : tsz Tryd.prog 77 = some 1 := by kernel_rfl
theorem ty.agg77 : tagg Tryd.prog 77 = some false := by kernel_rfl
theorem ty.zero77 : tzero Tryd.prog 77 = some (SV.d (.lit (.int .u16 0)) :: []) := by kernel_rfl
theorem ty.elem77 : telem Tryd.prog 77 = none := by kernel_rfl
theorem ty.und77 : Tryd.prog.underlying 77 = some (.int .u16) := by kernel_rfl
theorem ty.sz79 : tsz Tryd.prog 79 = some 1 := by kernel_rfl
theorem ty.agg79 : tagg Tryd.prog 79 = some false := by kernel_rfl
theorem ty.zero79 : tzero Tryd.prog 79 = some (SV.dx [] :: []) := by kernel_rfl
theorem ty.elem79 : telem Tryd.prog 79 = some 1 := by kernel_rfl
theorem ty.by79 : tby Tryd.prog 79 = some 2 := by kernel_rfl
theorem ty.ez79 : tez Tryd.prog 79 = some (SV.d (.lit (.int .u16 0)) :: []) := by kernel_rfl
theorem ty.und79 : Tryd.prog.underlying 79 = some (.slice 77) := by kernel_rfl
theorem ty.sz91 : tsz Tryd.prog 91 = some 1 := by kernel_rfl
theorem ty.agg91 : tagg Tryd.prog 91 = some false := by kernel_rfl
theorem ty.elem91 : telem Tryd.prog 91 = none := by kernel_rfl
theorem ty.sz94 : tsz Tryd.prog 94 = some 1 := by kernel_rfl
theorem ty.agg94 : tagg Tryd.prog 94 = some false := by kernel_rfl
theorem ty.elem94 : telem Tryd.prog 94 = none := by kernel_rfl
end Go.Proofs.YtcnkbdfkjhlbiaaDoor
namespace Go.Sy
section
variable {P : Program} {G : Nat → Option (List D)} {O : Nat → Prop} {pb pl pl' : Nat → Option Pl} {w w' : World} {hp hp' : HpT} {nx nx' : Nat} {ok ok' : Nat → Prop} {r : Nat → Nat}
theorem Imp.trans {a b c : St} (h : Imp a b) (h' : Imp b c) : Imp a c := by
  intro G O M pb pl x w hR
  obtain ⟨pl1, h1, g1⟩ := h G O M pb pl x w hR
  obtain ⟨pl2, h2, g2⟩ := h' G O M pb pl1 x w h1
  exact ⟨pl2, h2, fun B hB => g1 B (g2 B hB)⟩
end
end Go.Sy
namespace Go.Proofs.YtcnkbdfkjhlbiaaDoor
open Go.Sy
abbrev SW (l : List Nat) : SV := .d (.sl (dW l))
end Go.Proofs.YtcnkbdfkjhlbiaaDoor
namespace Go.Proofs.YtcnkbdfkjhlbiaaDoor
open Go.Sy Go.Deep
section
variable {H : Type} {enc : TypeId × Value → H} {P : Program} {W : World} {spare : Nat → Bool}
theorem one_of {x : D} {v : Value} {pl : Nat → Option Pl} (hc : v.cells.toList = [v]) (h : DRs W [x] v.cells.toList) : SR pl (fun B => ¬ False) W (.d x) v := by
  obtain ⟨_, hd⟩ := h
  have := hd 0 (by simp)
  rw [hc] at this
  exact SR.d _ _ (this.ext (Ext.weak fun _ _ _ h => h))
theorem reads_u16 {t : TypeId} (hu : P.underlying t = some (.int .u16)) : Reads enc P W spare t 1 (fun n : Fin 65536 => [.lit (.int .u16 (n.val : Nat))]) := fun fuel cs x h => by
  obtain ⟨n, rfl, _, hw⟩ := DataW.trod_int hu h
  have hb := Go.bounds_u16 hw
  refine ⟨⟨n.toNat, by omega⟩, rfl, rfl, fun j hj => ?_⟩
  obtain rfl : j = 0 := by simp at hj; omega
  show DR _ W (.lit (.int .u16 ((n.toNat : Nat) : Int))) (.int .u16 n)
  rw [show ((n.toNat : Nat) : Int) = n by omega]
  exact DR.lit _ rfl
theorem rd79 : Reads enc Tryd.prog W spare 79 1 (fun l : List (Fin 65536) => [.sl (l.map fun n => [.lit (.int .u16 (n.val : Nat))])]) := reads_slice (e := 77) (n := 1) (by kernel_rfl) (by kernel_rfl) (by decide) (reads_u16 (by kernel_rfl))
theorem words_of {fuel : Nat} {v : Value} {x : DataW H × List MemPlace} {pl : Nat → Option Pl} (hc : v.cells.toList = [v]) (h : DataW.trod enc Tryd.prog W 0 spare true fuel 79 v.cells.toList = some x) : ∃ l : List Nat, (∀ n ∈ l, n < 65536) ∧ SR pl (fun B => ¬ False) W (SW l) v := by
  obtain ⟨l, _, h1⟩ := rd79 _ _ _ h
  refine ⟨l.map (·.val), fun n hn => ?_, ?_⟩
  · obtain ⟨m, _, rfl⟩ := List.mem_map.1 hn; exact m.isLt
  · rw [show SW (l.map (·.val)) = .d (.sl (l.map fun n => [.lit (.int .u16 (n.val : Nat))])) by simp [dW]]
    exact one_of hc h1
end
end Go.Proofs.YtcnkbdfkjhlbiaaDoor
namespace Go.Proofs.YtcnkbdfkjhlbiaaDoor
open Go.Sy
set_option maxRecDepth 8000
theorem Readable.with {c : Census} (hc : c.check = 0) {a b : Int} {s : Bool} (ha : within a 0 (c.entries.length - 1) = true) (hb : within b 0 (c.entries.length - 1) = true) : Readable (c.with a b s) := by
  have h := Census.readable hc
  have h1 := Census.small_of hc
  simp only [within, Bool.and_eq_true, decide_eq_true_eq] at ha hb
  cases s
  · refine ⟨h.ne, h.ns, ?_, h.hs, fun p hp => ?_⟩
    · simp [Census.with]; omega
    · simp only [Census.with, Bool.false_eq_true, if_false, List.mem_append, List.mem_singleton] at hp
      rcases hp with hp | rfl
      · exact h.ha p hp
      · exact ⟨ha.1, hb.1⟩
  · refine ⟨h.ne, ?_, h.na, fun p hp => ?_, h.ha⟩
    · simp [Census.with]; omega
    · simp only [Census.with, if_true, List.mem_append, List.mem_singleton] at hp
      rcases hp with hp | rfl
      · exact h.hs p hp
      · refine ⟨ha.1, hb.1, ?_, ?_⟩ <;> simp only [Census.with, if_true] <;> omega
def Census.both (c : Census) (a b : Int) : Bool := within a 0 (c.entries.length - 1) && within b 0 (c.entries.length - 1)
def Census.together (c : Census) (a b : Int) : Bool × Bool × Int :=
  if c.tried (c.both a b) = 0 then (if a = b then (true, true, 0) else ((c.with a b true).cons, !(c.with a b false).cons, 0)) else (false, false, c.tried (c.both a b))
abbrev tysW10_52 := And.intro ty.sz0 <| And.intro ty.agg0 <| And.intro ty.elem0 <| And.intro ty.sz3 <| And.intro ty.agg3 <| And.intro ty.elem3 <| And.intro ty.zero3 <| And.intro ty.und3 <| And.intro ty.sz4 <| And.intro ty.agg4 <| And.intro ty.elem4 <| And.intro ty.zero4 <| And.intro ty.und4 <| And.intro ty.sz31 <| And.intro ty.agg31 <| And.intro ty.elem31 <| And.intro ty.zero31 <| And.intro ty.und31 <| And.intro ty.sz34 <| And.intro ty.agg34 <| And.intro ty.elem34 <| And.intro ty.by34 <| And.intro ty.ez34 <| And.intro ty.zero34 <| And.intro ty.und34 <| And.intro ty.sz37 <| And.intro ty.agg37 <| And.intro ty.fld37_0 <| And.intro ty.fld37_1 <| And.intro ty.fld37_2 <| And.intro ty.fld37_3 <| And.intro ty.fld37_4 <| And.intro ty.elem37 <| And.intro ty.zero37 <| And.intro ty.pl37 <| And.intro ty.sz108 <| And.intro ty.agg108 <| And.intro ty.elem108 <| And.intro ty.zero108 <| And.intro ty.sz109 <| And.intro ty.agg109 <| ty.elem109
theorem Together_c (c : Census) (a b : Int) (hs : c.small) : CallP Tryd.prog G0 52 [c.s, I a, I b] (.tup [B (c.together a b).1, B (c.together a b).2.1, I (c.together a b).2.2]) := by
  refine CallP.body 46 [.tmp 6, .tmp 7, .tmp 8] Tryd.func52 (by kernel_rfl) rfl rfl rfl (by repeat' (first | exact Pure.d _ | exact Pure.dx _ | exact Pure.dp _ | exact fa_nil | refine fa_cons ?_ ?_ | refine Pure.agg ?_ | refine Pure.tup ?_ | refine Pure.clo ?_ ?_ | refine Pure.fp ?_ | exact Pure.mapd _ | assumption)) (by repeat' (first | exact Pure.d _ | exact Pure.dx _ | exact Pure.dp _ | exact fa_nil | refine fa_cons ?_ ?_ | refine Pure.agg ?_ | refine Pure.tup ?_ | refine Pure.clo ?_ ?_ | refine Pure.fp ?_ | exact Pure.mapd _ | assumption)) ?_
  refine Tr.reg [1, 2, 3] (by
      simp only [↓sxd, sxu, ↓zE, ↓exq, St.keep, ↓zI, Nat.reduceBEq, Nat.reduceAdd, Nat.reduceLT, Nat.reduceEqDiff]
      (repeat' (first | rfl | exact trivial | exact fun h => h | exact fun h => (by rw [h]; rfl) | apply And.intro | omega | exact Nat.le_of_ble_eq_true rfl))) ?_
  have w1 : IntKind.i64.wrap ((c.entries.length : Int) - 1) = c.entries.length - 1 := wr (by have := hs.1; omega) (by have := hs.1; omega)
  refine Tr.reg [1, 2, 3, 9] (by
      simp only [↓sxd, sxu, ↓zE, ↓exq, ↓zB, St.keep, ↓zJ, ↓zD, ↓zA, Nat.reduceBEq, Nat.reduceAdd, Nat.reduceLT, Nat.reduceEqDiff, sxe, tysW10_52, w1]
      (repeat' (first | rfl | exact trivial | exact fun h => h | exact fun h => (by rw [h]; rfl) | apply And.intro | omega | exact Nat.le_of_ble_eq_true rfl))) ?_
  refine Tr.regD [0, 1, 2, 3, 4, 5, 6, 7, 8, 9, 10, 11, 12, 13] [] [] [1, 2, 3, 8] mix (by kernel_rfl) (by
      simp only [↓sxd, sxu, ↓zC, zK, ↓exq, St.keep, ↓zD, Nat.reduceBEq, Nat.reduceAdd, Nat.reduceLT, tysW10_52]
      (repeat ((with_reducible refine And.intro ?_ ?_); (focus (first | with_reducible rfl | trivial | exact fun h => h | exact fun h => (by rw [h]; rfl) | omega | assumption))))
      refine CallD.use (within_c _ a 0 (c.entries.length - 1)) ?_
      try simp only [↓sxd, sxu, ↓zC, zK, ↓exq, Nat.reduceLT]
      iterate 2
        (repeat ((with_reducible refine And.intro ?_ ?_); (focus (first | with_reducible rfl | trivial | exact fun h => h | exact fun h => (by rw [h]; rfl) | omega | assumption))))
        refine GdD.mk _ (fun hg => by simp only [sxu, ↓exP, ↓exq, Nat.reduceBEq, hg]; (repeat' (first | rfl | exact trivial | exact fun h => h | exact fun h => (by rw [h]; rfl) | apply And.intro | omega | exact Nat.le_of_ble_eq_true rfl))) ?_
        simp only [↓sxd, sxu, ↓zC, zK, Nat.reduceBEq, Nat.reduceLT]
      (repeat ((with_reducible refine And.intro ?_ ?_); (focus (first | with_reducible rfl | trivial | exact fun h => h | exact fun h => (by rw [h]; rfl) | omega | assumption))))
      refine GdD.mk _ (fun hg => by simp only [sxu, ↓exP, Nat.reduceBEq, hg]; first | exact within_c _ b 0 (c.entries.length - 1) | exact ⟨within_c _ b 0 (c.entries.length - 1), rfl, rfl⟩ | exact ⟨within_c _ b 0 (c.entries.length - 1), trivial⟩ | exact ⟨within_c _ b 0 (c.entries.length - 1), trivial, trivial⟩) ?_
      simp only [↓sxd, sxu, ↓zC, zK, ↓exq, ↓zH, Nat.reduceBEq, Nat.reduceLT]
      (repeat ((with_reducible refine And.intro ?_ ?_); (focus (first | with_reducible rfl | trivial | exact fun h => h | exact fun h => (by rw [h]; rfl) | omega | assumption))))
      refine CallD.use (tried'_c c hs _) ?_
      try simp only [↓sxd, sxu, ↓zC, zK, ↓exq, ↓zN, Nat.reduceBEq, Nat.reduceAdd, Nat.reduceLT]
      (repeat' (first | rfl | exact trivial | exact fun h => h | exact fun h => (by rw [h]; rfl) | apply And.intro | omega | exact Nat.le_of_ble_eq_true rfl))) ?_
  refine Tr.seq ?_
  refine Tr.block ?_
  refine Tr.reg [1, 2, 3, 8, 27] (by
      simp only [↓sxd, sxu, ↓zE, ↓exq, St.keep, Nat.reduceBEq, Nat.reduceLT]
      (repeat' (first | rfl | exact trivial | exact fun h => h | exact fun h => (by rw [h]; rfl) | apply And.intro | omega | exact Nat.le_of_ble_eq_true rfl))) ?_
  refine Tr.cond rfl (fun h27 => ?_) (fun h27 => ?_)
  · have ht : c.together a b = (false, false, c.tried (c.both a b)) := if_neg (by simpa [Census.both, within] using h27)
    rw [ht]
    refine Tr.reg [6, 7, 8] (by
        simp only [↓sxd, sxu, ↓zE, ↓exq, St.keep, Nat.reduceBEq, Nat.reduceLT]
        (repeat' (first | rfl | exact trivial | exact fun h => h | exact fun h => (by rw [h]; rfl) | apply And.intro | omega | exact Nat.le_of_ble_eq_true rfl))) ?_
    refine Tr.ret ?_
    (refine ⟨.inr rfl, ?_⟩; first | rfl | exact ⟨rfl, rfl, trivial⟩ | exact ⟨rfl, rfl, rfl, trivial⟩ | (simp only [Res, ResL, ResOK, ↓sxd, sxu, ↓zE, ↓zC, zK, ↓exP, ↓exq, ↓zB, St.keep, ↓zH, ↓zL, ↓zJ, ↓zD, ↓zN, ↓zI, ↓zA, Nat.reduceBEq, Nat.reduceAdd, Nat.reduceLT, Nat.reduceMul, Nat.reduceSub, Nat.reduceLeDiff, Nat.reduceEqDiff, Int.reduceLE, Int.reduceLT, Int.reduceToNat, reduceIte, implies_true, sxe, tysW10_52]; (repeat' (first | rfl | exact trivial | exact fun h => h | exact fun h => (by rw [h]; rfl) | apply And.intro | omega | exact Nat.le_of_ble_eq_true rfl))))
  · have h0 : c.tried (c.both a b) = 0 := by simpa [Census.both, within] using h27
    have ⟨hk, hb⟩ := Census.tried_ok h0
    have hn := Census.small_of hk
    simp only [Census.both, Bool.and_eq_true] at hb
    refine Tr.reg [1, 2, 3, 31] (by
        simp only [↓sxd, sxu, ↓zE, ↓exq, St.keep, Nat.reduceBEq, Nat.reduceLT]
        (repeat' (first | rfl | exact trivial | exact fun h => h | exact fun h => (by rw [h]; rfl) | apply And.intro | omega | exact Nat.le_of_ble_eq_true rfl))) ?_
    refine Tr.cond rfl (fun h31 => ?_) (fun h31 => ?_)
    · have ht : c.together a b = (true, true, 0) := by unfold Census.together; rw [if_pos h0, if_pos (by simpa using h31)]
      rw [ht]
      refine Tr.reg [6, 7, 8] (by
          simp only [↓sxd, sxu, ↓zE, ↓exq, St.keep, Nat.reduceBEq, Nat.reduceLT]
          (repeat' (first | rfl | exact trivial | exact fun h => h | exact fun h => (by rw [h]; rfl) | apply And.intro | omega | exact Nat.le_of_ble_eq_true rfl))) ?_
      refine Tr.ret ?_
      (refine ⟨.inr rfl, ?_⟩; first | rfl | exact ⟨rfl, rfl, trivial⟩ | exact ⟨rfl, rfl, rfl, trivial⟩ | (simp only [Res, ResL, ResOK, ↓sxd, sxu, ↓zE, ↓zC, zK, ↓exP, ↓exq, ↓zB, St.keep, ↓zH, ↓zL, ↓zJ, ↓zD, ↓zN, ↓zI, ↓zA, Nat.reduceBEq, Nat.reduceAdd, Nat.reduceLT, Nat.reduceMul, Nat.reduceSub, Nat.reduceLeDiff, Nat.reduceEqDiff, Int.reduceLE, Int.reduceLT, Int.reduceToNat, reduceIte, implies_true, sxe, tysW10_52]; (repeat' (first | rfl | exact trivial | exact fun h => h | exact fun h => (by rw [h]; rfl) | apply And.intro | omega | exact Nat.le_of_ble_eq_true rfl))))
    · have ht : c.together a b = ((c.with a b true).cons, !(c.with a b false).cons, 0) := by unfold Census.together; rw [if_pos h0, if_neg (by simpa using h31)]
      rw [ht]
      refine Tr.skip ?_
      refine Tr.regD [0, 1, 2, 3, 4, 5, 6, 7, 8, 9, 10, 11, 12, 13] [] [] [6, 7, 8] mix (by kernel_rfl) (by
          simp only [↓sxd, sxu, ↓zC, zK, ↓exq, St.keep, ↓zD, Nat.reduceBEq, Nat.reduceAdd, Nat.reduceLT, tysW10_52]
          (repeat ((with_reducible refine And.intro ?_ ?_); (focus (first | with_reducible rfl | trivial | exact fun h => h | exact fun h => (by rw [h]; rfl) | omega | assumption))))
          refine CallD.use (with_c c a b true (by omega) (by omega)) ?_
          try simp only [↓sxd, sxu, ↓zC, Nat.reduceLT]
          (repeat ((with_reducible refine And.intro ?_ ?_); (focus (first | with_reducible rfl | trivial | exact fun h => h | exact fun h => (by rw [h]; rfl) | omega | assumption))))
          refine CallD.use (consistent_c _ (Readable.with hk hb.1 hb.2)) ?_
          try simp only [↓sxd, sxu, ↓zC, zK, ↓exq, ↓zD, Nat.reduceBEq, Nat.reduceAdd, Nat.reduceLT, tysW10_52]
          (repeat ((with_reducible refine And.intro ?_ ?_); (focus (first | with_reducible rfl | trivial | exact fun h => h | exact fun h => (by rw [h]; rfl) | omega | assumption))))
          refine CallD.use (with_c c a b false (by omega) (by omega)) ?_
          try simp only [↓sxd, sxu, ↓zC, Nat.reduceLT]
          (repeat ((with_reducible refine And.intro ?_ ?_); (focus (first | with_reducible rfl | trivial | exact fun h => h | exact fun h => (by rw [h]; rfl) | omega | assumption))))
          refine CallD.use (consistent_c _ (Readable.with hk hb.1 hb.2)) ?_
          try simp only [↓sxd, sxu, ↓zC, zK, ↓exq, ↓zL, Nat.reduceBEq, Nat.reduceLT]
          (repeat' (first | rfl | exact trivial | exact fun h => h | exact fun h => (by rw [h]; rfl) | apply And.intro | omega | exact Nat.le_of_ble_eq_true rfl))) ?_
      refine Tr.ret ?_
      (refine ⟨.inr rfl, ?_⟩; first | rfl | exact ⟨rfl, rfl, trivial⟩ | exact ⟨rfl, rfl, rfl, trivial⟩ | (simp only [Res, ResL, ResOK, ↓sxd, sxu, ↓zE, ↓zC, zK, ↓exP, ↓exq, ↓zB, St.keep, ↓zH, ↓zL, ↓zJ, ↓zD, ↓zN, ↓zI, ↓zA, Nat.reduceBEq, Nat.reduceAdd, Nat.reduceLT, Nat.reduceMul, Nat.reduceSub, Nat.reduceLeDiff, Nat.reduceEqDiff, Int.reduceLE, Int.reduceLT, Int.reduceToNat, reduceIte, implies_true, sxe, tysW10_52]; (repeat' (first | rfl | exact trivial | exact fun h => h | exact fun h => (by rw [h]; rfl) | apply And.intro | omega | exact Nat.le_of_ble_eq_true rfl))))
end Go.Proofs.YtcnkbdfkjhlbiaaDoor
namespace Go.Proofs.YtcnkbdfkjhlbiaaDoor
set_option maxRecDepth 8000
theorem with_pairs {c : Census} (h : PairsOk c) {a b : Int} {s : Bool} (ha : a.toNat < c.entries.length) (hb : b.toNat < c.entries.length) : PairsOk (c.with a b s) := by
  cases s
  · exact ⟨h.ns, fun p hp => by
      rcases List.mem_append.1 hp with hp | hp
      · exact h.na p hp
      · rw [List.mem_singleton] at hp; subst hp; exact ⟨ha, hb⟩⟩
  · exact ⟨fun p hp => by
      rcases List.mem_append.1 hp with hp | hp
      · exact h.ns p hp
      · rw [List.mem_singleton] at hp; subst hp; exact ⟨ha, hb⟩, h.na⟩
theorem with_n (c : Census) (a b : Int) (s : Bool) : (c.with a b s).entries = c.entries ∧ (c.with a b s).omitted = c.omitted ∧ (c.with a b s).number = c.number := by cases s <;> exact ⟨rfl, rfl, rfl⟩
theorem with_lims {c : Census} (h : Lims c) (a b : Int) (s : Bool) : Lims (c.with a b s) := by
  obtain ⟨_, h2, h3⟩ := with_n c a b s
  exact ⟨by rw [h2]; exact h.om, by rw [h3]; exact h.nu⟩
theorem with_sums (c : Census) (a b : Int) (s : Bool) (m : Nat) : Sums (c.with a b s) m ↔ Sums c m := by
  obtain ⟨_, h2, h3⟩ := with_n c a b s
  unfold Sums; rw [h2, h3]
theorem with_allow (c : Census) (a b : Int) (s : Bool) (f : Nat → Nat) : Allow (c.with a b s) f ↔ Allow c f ∧ (if s then f a.toNat = f b.toNat else f a.toNat ≠ f b.toNat) := by
  cases s
  · constructor
    · intro h
      exact ⟨⟨h.fits, h.same, fun p hp => h.apart p (List.mem_append.2 (.inl hp))⟩, h.apart ⟨a, b⟩ (List.mem_append.2 (.inr (List.mem_singleton.2 rfl)))⟩
    · rintro ⟨h, h2⟩
      refine ⟨h.fits, h.same, fun p hp => ?_⟩
      rcases List.mem_append.1 hp with hp | hp
      · exact h.apart p hp
      · rw [List.mem_singleton] at hp; subst hp; exact h2
  · constructor
    · intro h
      exact ⟨⟨h.fits, fun p hp => h.same p (List.mem_append.2 (.inl hp)), h.apart⟩, h.same ⟨a, b⟩ (List.mem_append.2 (.inr (List.mem_singleton.2 rfl)))⟩
    · rintro ⟨h, h2⟩
      refine ⟨h.fits, fun p hp => ?_, h.apart⟩
      rcases List.mem_append.1 hp with hp | hp
      · exact h.same p hp
      · rw [List.mem_singleton] at hp; subst hp; exact h2
theorem with_cons {c : Census} (h : Fine c) {a b : Int} {s : Bool} (ha : a.toNat < c.entries.length) (hb : b.toNat < c.entries.length) : (c.with a b s).cons = true ↔ ∃ v ∈ c.all, if s then fn v a.toNat = fn v b.toNat else fn v a.toNat ≠ fn v b.toNat := by
  have hn := with_n c a b s
  have hp := with_pairs h.pairs (s := s) ha hb
  rw [cons_iff hp (by rw [hn.1]; exact h.n10) (with_lims h.lims a b s)]
  constructor
  · rintro ⟨m, h1, h2⟩
    obtain ⟨v, e1, e2, e3, e4⟩ := (Sem.rgs hp).1 h1
    obtain ⟨e5, e6⟩ := (with_allow c a b s _).1 e3
    exact ⟨v, (mem_all h.lims).2 ⟨by rw [e1, hn.1], e2, e5, by rw [e4]; exact (with_sums c a b s m).1 h2⟩, e6⟩
  · rintro ⟨v, hv, h2⟩
    obtain ⟨e1, e2, e3, e4⟩ := (mem_all h.lims).1 hv
    exact ⟨many v, (Sem.rgs hp).2 ⟨v, by rw [e1, hn.1], e2, (with_allow c a b s _).2 ⟨e3, h2⟩, rfl⟩, (with_sums c a b s _).2 e4⟩
theorem both_iff {c : Census} {a b : Int} : c.both a b = true ↔ 0 ≤ a ∧ a < c.entries.length ∧ 0 ≤ b ∧ b < c.entries.length := by
  simp only [Census.both, within, Bool.and_eq_true, decide_eq_true_eq]; omega
def someOf (l : List (List Nat)) (a b : Nat) : Bool := l.any fun v => fn v a == fn v b
def everyOf (l : List (List Nat)) (a b : Nat) : Bool := l.all fun v => fn v a == fn v b
theorem together_law {c : Census} {a b : Int} (h : c.tried (c.both a b) = 0) : c.together a b = (someOf c.all a.toNat b.toNat, everyOf c.all a.toNat b.toNat, 0) := by
  unfold Census.together
  rw [if_pos h]
  obtain ⟨hf, hb, hc⟩ := tried_iff.1 h
  rw [both_iff] at hb
  by_cases hab : a = b
  · subst hab
    rw [if_pos rfl]
    have h1 : someOf c.all a.toNat a.toNat = true := by
      cases hl : c.all with
      | nil => rw [(all_nil hf).1 hl] at hc; cases hc
      | cons v l => simp [someOf]
    have h2 : everyOf c.all a.toNat a.toNat = true := by simp [everyOf]
    rw [h1, h2]
  · rw [if_neg hab]
    have e1 := with_cons hf (a := a) (b := b) (s := true) (by omega) (by omega)
    have e2 := with_cons hf (a := a) (b := b) (s := false) (by omega) (by omega)
    have h1 : (c.with a b true).cons = someOf c.all a.toNat b.toNat := by
      rw [Bool.eq_iff_iff, e1]; simp [someOf]
    have h2 : (!(c.with a b false).cons) = everyOf c.all a.toNat b.toNat := by
      rw [Bool.eq_iff_iff, Bool.not_eq_true', ← Bool.not_eq_true, e2]; simp [everyOf]
    rw [h1, h2]
end Go.Proofs.YtcnkbdfkjhlbiaaDoor
namespace Go.Proofs.YtcnkbdfkjhlbiaaDoor
set_option maxRecDepth 8000
structure Says (c x : Census) : Prop where
  len : x.entries.length = c.entries.length
  ent : ∀ i, i < c.entries.length → (x.entry i).sched = (c.entry i).sched ∧ (x.entry i).sex = (c.entry i).sex ∧ (x.entry i).key = (c.entry i).key ∧ (c.entry i).ages.lo ≤ (x.entry i).ages.lo ∧ (x.entry i).ages.hi ≤ (c.entry i).ages.hi
  same : ∀ p ∈ c.same, p ∈ x.same
  apart : ∀ p ∈ c.apart, p ∈ x.apart
  om : c.omitted.lo ≤ x.omitted.lo ∧ x.omitted.hi ≤ c.omitted.hi
  nu : c.number.lo ≤ x.number.lo ∧ x.number.hi ≤ c.number.hi
theorem fine_tried {c : Census} (h : Fine c) : c.tried true = if c.cons then 0 else 9 := by
  have hk := fine_iff.2 h
  unfold Census.tried Census.cons
  rw [if_neg (fun hc => hc hk)]
  simp only [Bool.not_true, Bool.false_eq_true, if_false, decide_eq_true_eq]
  by_cases hg : (readW c).persons.lo > (readW c).persons.hi
  · rw [if_pos hg, if_neg (by omega)]
  · rw [if_neg hg, if_pos (by omega)]
theorem personsS_yes {c : Census} (h : Fine c) (hc : c.cons = true) : c.personsS = (pers c, c.omitted.cut (c.number.lo - (pers c).hi) (c.number.hi - (pers c).lo), 0) := by
  have h0 : 0 ≤ (readW c).persons.lo ∧ (readW c).persons.hi ≤ c.entries.length := pers_lo h.pairs h.n10
  have h1 : (readW c).persons.lo ≤ (readW c).persons.hi := cons_lo hc
  have h10 := h.n10
  have ho := h.om
  have hn := h.nu
  unfold Census.personsS
  rw [if_pos (by rw [fine_tried h, hc]; rfl), wr_id (by omega) (by omega), wr_id (by omega) (by omega)]
structure Moves (c x : Census) (s : Nat → Nat) : Prop where
  len : x.entries.length = c.entries.length
  to : ∀ i, i < c.entries.length → s i < c.entries.length
  inj : ∀ i k, i < c.entries.length → k < c.entries.length → s i = s k → i = k
  sur : ∀ j, j < c.entries.length → ∃ i, i < c.entries.length ∧ s i = j
  ent : ∀ i, i < c.entries.length → x.entry i = c.entry (s i)
  same : ∀ p ∈ x.same, ∃ q ∈ c.same, s p.fst.toNat = q.fst.toNat ∧ s p.snd.toNat = q.snd.toNat
  apart : ∀ p ∈ x.apart, ∃ q ∈ c.apart, s p.fst.toNat = q.fst.toNat ∧ s p.snd.toNat = q.snd.toNat
end Go.Proofs.YtcnkbdfkjhlbiaaDoor
namespace Go.Sy
theorem exPick_and (a b : Bool) (K : SV → Prop) (h : K (.d (.lit (.bool (a && b))))) : zH (.d (.lit (.bool a))) (if a = true then .d (.lit (.bool b)) else .unk) (.d (.lit (.bool false))) K := by
  cases a <;> cases b <;> exact h
section
variable {P : Program} {G : Nat → Option (List D)}
end
end Go.Sy
namespace Go.Proofs.YtcnkbdfkjhlbiaaDoor
set_option maxRecDepth 8000
inductive Conn (l : List Pair) : Nat → Nat → Prop
  | refl (a : Nat) : Conn l a a
  | fwd {a : Nat} {p : Pair} (hp : p ∈ l) (h : Conn l a p.fst.toNat) : Conn l a p.snd.toNat
  | bwd {a : Nat} {p : Pair} (hp : p ∈ l) (h : Conn l a p.snd.toNat) : Conn l a p.fst.toNat
end Go.Proofs.YtcnkbdfkjhlbiaaDoor
namespace Go.Sy
section
variable {P : Program} {G : Nat → Option (List D)} {ro : Option Nat} {ops : Array Oper} {ul louds : List Nat}
theorem Tr.regV1 {id : Nat} {st : St} {Q : Exit → St → Prop} (louds ul ks : List Nat) {st' : St} (hmix : P.follows .mixedOrders = true) (hc : dChk (Region.before ops).toList ops ul (mkV louds ops.toList 0) = true)
    (h : exV P G ul louds ops.toList 0 [] st [] fun s => s.keep ks = st') (hq : Q .normal st') : Tr P G ro (.region id ops true) st Q := by
  refine Tr.post ((Tr.drawV (Q := fun x s => match x with | .normal => s.keep ks = st' | _ => False) hmix hc h).mono ?_)
  intro x s hx
  cases x with
  | normal => exact ⟨st', hx ▸ Imp.keep ks, hq⟩
  | _ => exact hx.elim
theorem GdV.and {i : Nat} {acc : List (Nat × Tmp)} {o : Oper} {os : List Oper} {st : St} {g : Bool} {lds : List Nat} {K : St → Prop} {a b : Bool} (h : g = true → pickArgs o (fun x => gstrip (ev G st.tm x)) = some (.d (.lit (.bool a)), if a = true then .d (.lit (.bool b)) else .unk, .d (.lit (.bool false))))
    (k : exV P G ul louds os (i + 1) (addA i o.dst acc) ⟨putT o.dst (.whn g (.d (.lit (.bool (a && b))))) st.tm, st.hp, st.nx, st.nt, st.df, st.nb⟩ lds K) : GdV P G ul louds i acc o os st g lds K :=
  GdV.mk _ (fun hg => by rw [x5 (pick_callV (h hg))]; exact exq_pick (h hg) (exPick_and a b _ ⟨rfl, rfl, rfl⟩)) k
end
end Go.Sy
namespace Go.Proofs.YtcnkbdfkjhlbiaaDoor
open Go.Sy
set_option maxRecDepth 8000
theorem nats_at (v : List Nat) (k : Nat) : (nats v).getD k 0 = (v.getD k 0 : Nat) := by
  unfold nats
  simp only [List.getD_eq_getElem?_getD, List.getElem?_map]
  cases v[k]? <;> rfl
theorem ib (p q : Nat) : ((p : Int) == (q : Int)) = (p == q) := by
  rw [Bool.eq_iff_iff, beq_iff_eq, beq_iff_eq]; omega
theorem ibn (p q : Nat) : ((p : Int) != (q : Int)) = (p != q) := by
  unfold bne; rw [ib]
end Go.Proofs.YtcnkbdfkjhlbiaaDoor
namespace Go.Proofs.YtcnkbdfkjhlbiaaDoor
open Go.Sy
set_option maxRecDepth 8000
theorem wi {n : Nat} (h : n < 9223372036854775808) : IntKind.i64.wrap (n : Int) = n := wr (by omega) (by omega)
theorem fine_small {c : Census} (h : Fine c) : c.small := ⟨by have := h.n10; omega, by have := h.s6; omega, by have := h.a6; omega⟩
theorem PersonsF_c (c : Census) (h : Fine c) : CallP Tryd.prog G0 21 [c.s] (.tup [c.personsS.1.s, c.personsS.2.1.s, I c.personsS.2.2]) := Persons_c c (fine_small h) (fun hk => Census.readable hk)
end Go.Proofs.YtcnkbdfkjhlbiaaDoor
namespace Go.Proofs.YtcnkbdfkjhlbiaaDoor
open Go.Sy
set_option maxRecDepth 8000
theorem tmod_n (a n : Nat) : ((a : Nat) : Int).tmod (n : Int) = ((a % n : Nat) : Int) := by
  rw [Int.natCast_emod, Int.tmod_eq_emod_of_nonneg (Int.natCast_nonneg _)]
end Go.Proofs.YtcnkbdfkjhlbiaaDoor
namespace Go.Proofs.YtcnkbdfkjhlbiaaDoor
open Go.Sy
set_option maxRecDepth 8000
theorem tmod4 (n : Nat) : (n : Int).tmod 4 = ((n % 4 : Nat) : Int) := tmod_n n 4
theorem tmod3 (n : Nat) : (n : Int).tmod 3 = ((n % 3 : Nat) : Int) := tmod_n n 3
theorem ee_get {l : List Entry} {j : Nat} (h : j < l.length) : (ee l).getD j [] = [I (l.getD j default).sched, I (l.getD j default).sex, I (l.getD j default).key, I (l.getD j default).ages.lo, I (l.getD j default).ages.hi] := by
  simp [ee, dE, List.getD_eq_getElem?_getD, h]
theorem wadd {n : Int} {k : Nat} (h : 0 ≤ n) (h2 : n ≤ 1000) (h3 : k ≤ 1000) : IntKind.i64.wrap (n + (k : Int)) = n + (k : Int) := wr (by omega) (by omega)
structure Nar (c : Census) (E : List Entry) (O N : Rng) : Prop where
  len : E.length = c.entries.length
  val : ∀ e ∈ E, Entry.valid e = true
  ent : ∀ i, i < c.entries.length → (E.getD i default).sched = (c.entry i).sched ∧ (E.getD i default).sex = (c.entry i).sex ∧ (E.getD i default).key = (c.entry i).key ∧ (c.entry i).ages.lo ≤ (E.getD i default).ages.lo ∧ (E.getD i default).ages.hi ≤ (c.entry i).ages.hi
  om : c.omitted.lo ≤ O.lo ∧ O.lo ≤ O.hi ∧ O.hi ≤ c.omitted.hi
  nu : c.number.lo ≤ N.lo ∧ N.lo ≤ N.hi ∧ N.hi ≤ c.number.hi
end Go.Proofs.YtcnkbdfkjhlbiaaDoor
namespace Go.Proofs.YtcnkbdfkjhlbiaaDoor
open Go.Sy
set_option maxRecDepth 8000
structure Seen (l : List Pair) (a : Nat) (o : List Nat) : Prop where
  nd : o.Nodup
  has : a ∈ o
  conn : ∀ x ∈ o, Conn l a x
  sub : ∀ x ∈ o, x = a ∨ ∃ p ∈ l, x = p.fst.toNat ∨ x = p.snd.toNat
theorem vv_getD {o : List Nat} {j : Nat} (h : j < o.length) : (vv o).getD j [] = [I (o.getD j 0 : Nat)] := by
  simp [vv, List.getD_eq_getElem?_getD, h]
theorem vv_len (o : List Nat) : (vv o).length = o.length := by simp
theorem fine_both {c : Census} {i k : Nat} (hi : i < c.entries.length) (hk : k < c.entries.length) : c.both i k = true := by
  rw [both_iff]; omega
end Go.Proofs.YtcnkbdfkjhlbiaaDoor
namespace Go.Proofs.YtcnkbdfkjhlbiaaDoor
open Go.Sy (aput)
set_option maxRecDepth 8000
def off (c : Coding) (k p : Nat) (x : Int) : Nat := if (c.codes.getD k []).getD p 0 ≠ x then 1 else 0
def errsAt (c : Coding) (k : Nat) : Nat → List Int → Nat
  | _, [] => 0
  | p, x :: w => off c k p x + errsAt c k (p + 1) w
def sumTo (f : Nat → Nat) : Nat → Nat
  | 0 => 0
  | n + 1 => sumTo f n + f n
def totAt (c : Coding) (p : Nat) (w : List Int) : Nat := sumTo (fun k => errsAt c k p w) c.codes.length
structure Comp (c : Coding) (p : Nat) (es : List Int) (w : List Int) : Prop where
  len : p + w.length = c.cols
  cod : ∀ x ∈ w, 0 ≤ x ∧ x ≤ 9
  few : ∀ k, k < c.codes.length → es.getD k 0 + errsAt c k p w ≤ c.wrong.getD k 0
structure Es (c : Coding) (p : Nat) (es : List Int) : Prop where
  len : es.length = 3
  bd : ∀ k, 0 ≤ es.getD k 0 ∧ es.getD k 0 ≤ p
def esNext (c : Coding) (p : Nat) (es : List Int) (x : Int) : List Int := (c.nextTo p es x c.codes.length).1
def OkNext (c : Coding) (p : Nat) (es : List Int) (x : Int) : Prop := ∀ k, k < c.codes.length → es.getD k 0 + off c k p x ≤ c.wrong.getD k 0
instance (c : Coding) (p : Nat) (es : List Int) (x : Int) : Decidable (OkNext c p es x) := by unfold OkNext; infer_instance
def IsBest (c : Coding) (p : Nat) (es : List Int) (n : Int) : Prop :=
  (n = -1 ∧ ∀ w, ¬ Comp c p es w) ∨ (∃ w, Comp c p es w ∧ n = totAt c p w ∧ ∀ w', Comp c p es w' → n ≤ totAt c p w')
structure MemOk (c : Coding) (m : Mem) : Prop where
  ok : ∀ p es n, p < c.cols → Es c p es → m.lookup (keyOf p es) = some n → IsBest c p es n
  shut : ∀ p es, p < c.cols → Es c p es → (m.lookup (keyOf p es)).isSome = true → ∀ x : Int, 0 ≤ x → x ≤ 9 → OkNext c p es x → p + 1 = c.cols ∨ (m.lookup (keyOf (p + 1) (esNext c p es x))).isSome = true
end Go.Proofs.YtcnkbdfkjhlbiaaDoor
namespace Go.Proofs.YtcnkbdfkjhlbiaaDoor
open Go.Sy (aput)
set_option maxRecDepth 8000
inductive Pre (c : Coding) : Nat → List Int → List Int → Prop
  | nil : Pre c 0 [] e000
  | snoc {p : Nat} {v es : List Int} {x : Int} (h : Pre c p v es) (h1 : 0 ≤ x ∧ x ≤ 9) (h2 : OkNext c p es x) : Pre c (p + 1) (v ++ [x]) (esNext c p es x)
structure CodingFine (c : Coding) : Prop where
  ok : CodingOk c
  n0 : 0 < c.codes.length
  c0 : 0 < c.cols
  wr : ∀ k, k < c.codes.length → 0 ≤ c.wrong.getD k 0 ∧ c.wrong.getD k 0 ≤ 10
  cd : ∀ k, k < c.codes.length → (c.codes.getD k []).all isCode = true
end Go.Proofs.YtcnkbdfkjhlbiaaDoor
namespace Go.Proofs.YtcnkbdfkjhlbiaaDoor
open Go.Sy
set_option maxRecDepth 8000
theorem tmod10 (n : Nat) : (n : Int).tmod 10 = ((n % 10 : Nat) : Int) := by
  rw [Int.natCast_emod, Int.tmod_eq_emod_of_nonneg (Int.natCast_nonneg _)]; rfl
abbrev cells (f : Nat → Nat → Bool) : List SV := (List.range 30).map fun q => B (f (q / 10) (q % 10))
end Go.Proofs.YtcnkbdfkjhlbiaaDoor
namespace Go.Proofs.YtcnkbdfkjhlbiaaDoor
open Go.Sy
set_option maxRecDepth 8000
def wordOf (ws : List Nat) (a : Nat) : Nat := if ws.length = 0 then 0 else ws.getD (a % ws.length) 0
theorem wordOf_lt {ws : List Nat} (hw : ∀ n ∈ ws, n < 65536) (a : Nat) : wordOf ws a < 65536 := by
  unfold wordOf
  split
  · omega
  · exact hw _ (getD_mem (Nat.mod_lt _ (by omega)))
abbrev tysW37_45 := And.intro ty.sz0 <| And.intro ty.agg0 <| And.intro ty.elem0 <| And.intro ty.sz3 <| And.intro ty.agg3 <| And.intro ty.elem3 <| And.intro ty.zero3 <| And.intro ty.und3 <| And.intro ty.sz4 <| And.intro ty.agg4 <| And.intro ty.elem4 <| And.intro ty.zero4 <| And.intro ty.und4 <| And.intro ty.sz77 <| And.intro ty.agg77 <| And.intro ty.elem77 <| And.intro ty.zero77 <| And.intro ty.und77 <| And.intro ty.sz79 <| And.intro ty.agg79 <| And.intro ty.elem79 <| And.intro ty.by79 <| And.intro ty.ez79 <| And.intro ty.zero79 <| ty.und79
theorem word_c (ws : List Nat) (hw : ∀ n ∈ ws, n < 65536) (a : Nat) : CallP Tryd.prog G0 45 [SW ws, I a] (I (wordOf ws a : Nat)) := by
  refine CallP.body 16 [.tmp 4] Tryd.func45 (by kernel_rfl) rfl rfl rfl (by repeat' (first | exact Pure.d _ | exact Pure.dx _ | exact Pure.dp _ | exact fa_nil | refine fa_cons ?_ ?_ | refine Pure.agg ?_ | refine Pure.tup ?_ | refine Pure.clo ?_ ?_ | refine Pure.fp ?_ | exact Pure.mapd _ | assumption)) (by repeat' (first | exact Pure.d _ | exact Pure.dx _ | exact Pure.dp _ | exact fa_nil | refine fa_cons ?_ ?_ | refine Pure.agg ?_ | refine Pure.tup ?_ | refine Pure.clo ?_ ?_ | refine Pure.fp ?_ | exact Pure.mapd _ | assumption)) ?_
  refine Tr.reg [0, 1] (by
      simp only [↓sxd, sxu, ↓zE, ↓exq, St.keep, Nat.reduceBEq, Nat.reduceAdd, Nat.reduceLT]
      (repeat' (first | rfl | exact trivial | exact fun h => h | exact fun h => (by rw [h]; rfl) | apply And.intro | omega | exact Nat.le_of_ble_eq_true rfl))) ?_
  refine Tr.seq ?_
  refine Tr.reg [0, 1, 7] (by
      simp only [↓sxd, sxu, ↓zE, ↓exq, ↓zB, St.keep, ↓zJ, Nat.reduceBEq, Nat.reduceLT, sxe, tysW37_45]
      (repeat' (first | rfl | exact trivial | exact fun h => h | exact fun h => (by rw [h]; rfl) | apply And.intro | omega | exact Nat.le_of_ble_eq_true rfl))) ?_
  refine Tr.cond rfl (fun h7 => ?_) (fun h7 => ?_)
  · have h0 : ws.length = 0 := by have := beq_iff_eq.1 h7; omega
    rw [show wordOf ws a = 0 from if_pos h0]
    refine Tr.reg [4] (by
        simp only [↓sxd, sxu, ↓zE, ↓exq, St.keep, Nat.reduceLT]
        (repeat' (first | rfl | exact trivial | exact fun h => h | exact fun h => (by rw [h]; rfl) | apply And.intro | omega | exact Nat.le_of_ble_eq_true rfl))) ?_
    refine Tr.ret ?_
    (refine ⟨.inr rfl, ?_⟩; first | rfl | exact ⟨rfl, rfl, trivial⟩ | exact ⟨rfl, rfl, rfl, trivial⟩ | (simp only [Res, ResL, ResOK, ↓sxd, sxu, ↓zE, ↓zC, zK, ↓exP, ↓exq, ↓zB, St.keep, ↓xB, ↓zL, ↓zJ, ↓zD, Nat.reduceBEq, Nat.reduceAdd, Nat.reduceLT, Nat.reduceMul, Nat.reduceSub, Nat.reduceLeDiff, Nat.reduceEqDiff, Int.reduceLE, Int.reduceLT, Int.reduceToNat, reduceIte, implies_true, sxe, tysW37_45]; (repeat' (first | rfl | exact trivial | exact fun h => h | exact fun h => (by rw [h]; rfl) | apply And.intro | omega | exact Nat.le_of_ble_eq_true rfl))))
  · have h0 : ¬ ws.length = 0 := fun hc => by rw [hc] at h7; cases h7
    have hlt : a % ws.length < ws.length := Nat.mod_lt _ (by omega)
    have hne : ((ws.length : Int) = 0) = False := eq_false (by omega)
    have hb := hw _ (getD_mem (d := 0) hlt)
    rw [show wordOf ws a = ws.getD (a % ws.length) 0 from if_neg h0]
    refine Tr.skip ?_
    refine Tr.reg [4] (by
        simp only [↓sxd, sxu, ↓zE, ↓exq, ↓zB, St.keep, ↓xB, ↓zJ, ↓zD, Nat.reduceBEq, Nat.reduceLT, sxe, tysW37_45, tmod_n, hlt, hne, wi (show ws.getD (a % ws.length) 0 < 9223372036854775808 by omega)]
        (repeat' (first | rfl | exact trivial | exact fun h => h | exact fun h => (by rw [h]; rfl) | apply And.intro | omega | exact Nat.le_of_ble_eq_true rfl))) ?_
    refine Tr.ret ?_
    (refine ⟨.inr rfl, ?_⟩; first | rfl | exact ⟨rfl, rfl, trivial⟩ | exact ⟨rfl, rfl, rfl, trivial⟩ | (simp only [Res, ResL, ResOK, ↓sxd, sxu, ↓zE, ↓zC, zK, ↓exP, ↓exq, ↓zB, St.keep, ↓xB, ↓zL, ↓zJ, ↓zD, Nat.reduceBEq, Nat.reduceAdd, Nat.reduceLT, Nat.reduceMul, Nat.reduceSub, Nat.reduceLeDiff, Nat.reduceEqDiff, Int.reduceLE, Int.reduceLT, Int.reduceToNat, reduceIte, implies_true, sxe, tysW37_45]; (repeat' (first | rfl | exact trivial | exact fun h => h | exact fun h => (by rw [h]; rfl) | apply And.intro | omega | exact Nat.le_of_ble_eq_true rfl))))
theorem tdiv64 (n : Nat) : (n : Int).tdiv 64 = ((n / 64 : Nat) : Int) := by
  rw [Int.natCast_ediv, Int.tdiv_eq_ediv_of_nonneg (Int.natCast_nonneg _)]; rfl
theorem tmod2n (n : Nat) : (n : Int).tmod 2 = ((n % 2 : Nat) : Int) := tmod_n n 2
end Go.Proofs.YtcnkbdfkjhlbiaaDoor
namespace Go.Sy
theorem Imp.perm {st : St} {hp' : HpT} (h : hp'.Perm st.hp) : Imp st ⟨st.tm, hp', st.nx, st.nt, st.df, st.nb⟩ := by
  intro G O₀ M pb pl a w hR
  have own : ownOf pl hp' = ownOf pl st.hp := funext fun B => propext ⟨fun ⟨p, h1, h2⟩ => ⟨p, h.mem_iff.1 h1, h2⟩, fun ⟨p, h1, h2⟩ => ⟨p, h.mem_iff.2 h1, h2⟩⟩
  have ok : okOf (Ox O₀ a) pl hp' = okOf (Ox O₀ a) pl st.hp := by funext B; simp only [okOf, own]
  refine ⟨pl, ⟨⟨fun p hp => ?_, ?_, hR.hs.fresh, hR.hs.old, hR.hs.base, fun g cs hg => ?_⟩, ?_, hR.nt, hR.df, hR.bd⟩, fun B hB => ?_⟩
  · rw [ok]; exact hR.hs.obj p (h.mem_iff.1 hp)
  · refine (List.Perm.pairwise_iff ?_ h).2 hR.hs.apart
    intro p p' hpp
    exact ⟨hpp.1.symm, fun q q' h1 h2 t1 t2 => (hpp.2 q' q h2 h1 t2 t1).symm⟩
  · rw [ok]; exact hR.hs.glob g cs hg
  · show TmR pl (okOf (Ox O₀ a) pl hp') w st.tm a.tmps
    rw [ok]; exact hR.tm
  · show ownOf pl st.hp B
    rw [← own]; exact hB
end Go.Sy
namespace Go.Proofs.YtcnkbdfkjhlbiaaDoor
open Go.Sy
set_option maxRecDepth 8000
def firstAt (v : List Nat) (i k : Nat) : Bool := (List.range k).all fun j => v.getD j 0 != v.getD i 0
def countTo (v : List Nat) : Nat → Nat
  | 0 => 0
  | i + 1 => countTo v i + if firstAt v i i then 1 else 0
theorem countTo_le (v : List Nat) : ∀ n, countTo v n ≤ n
  | 0 => Nat.le_refl _
  | n + 1 => by have := countTo_le v n; simp only [countTo]; split <;> omega
theorem firstAt_succ {v : List Nat} {i k : Nat} : firstAt v i (k + 1) = (firstAt v i k && (v.getD k 0 != v.getD i 0)) := by
  unfold firstAt; rw [List.range_succ, List.all_append]; simp
abbrev tysW43_55 := And.intro ty.sz0 <| And.intro ty.agg0 <| And.intro ty.elem0 <| And.intro ty.sz3 <| And.intro ty.agg3 <| And.intro ty.elem3 <| And.intro ty.zero3 <| And.intro ty.und3 <| And.intro ty.sz4 <| And.intro ty.agg4 <| And.intro ty.elem4 <| And.intro ty.zero4 <| And.intro ty.und4 <| And.intro ty.sz43 <| And.intro ty.agg43 <| And.intro ty.elem43 <| And.intro ty.by43 <| And.intro ty.ez43 <| And.intro ty.zero43 <| ty.und43
set_option maxHeartbeats 4000000 in
theorem persons_count (v : List Nat) (hl : v.length ≤ 1000) : CallP Tryd.prog G0 55 [SI (nats v)] (I (countTo v v.length : Nat)) := by
  refine CallP.body 34 [.tmp 2] Tryd.func55 (by kernel_rfl) rfl rfl rfl (by repeat' (first | exact Pure.d _ | exact Pure.dx _ | exact Pure.dp _ | exact fa_nil | refine fa_cons ?_ ?_ | refine Pure.agg ?_ | refine Pure.tup ?_ | refine Pure.clo ?_ ?_ | refine Pure.fp ?_ | exact Pure.mapd _ | assumption)) (by repeat' (first | exact Pure.d _ | exact Pure.dx _ | exact Pure.dp _ | exact fa_nil | refine fa_cons ?_ ?_ | refine Pure.agg ?_ | refine Pure.tup ?_ | refine Pure.clo ?_ ?_ | refine Pure.fp ?_ | exact Pure.mapd _ | assumption)) ?_
  refine Tr.reg [0] (by
      simp only [↓sxd, sxu, ↓zE, ↓exq, St.keep, Nat.reduceBEq, Nat.reduceLT]
      (repeat' (first | rfl | exact trivial | exact fun h => h | exact fun h => (by rw [h]; rfl) | apply And.intro | omega | exact Nat.le_of_ble_eq_true rfl))) ?_
  refine Tr.reg [0, 3] (by
      simp only [↓sxd, sxu, ↓zE, ↓exq, St.keep, Nat.reduceBEq, Nat.reduceLT]
      (repeat' (first | rfl | exact trivial | exact fun h => h | exact fun h => (by rw [h]; rfl) | apply And.intro | omega | exact Nat.le_of_ble_eq_true rfl))) ?_
  refine Tr.seq ?_
  refine Tr.reg [0, 3, 4] (by
      simp only [↓sxd, sxu, ↓zE, ↓exq, St.keep, Nat.reduceBEq, Nat.reduceLT]
      (repeat' (first | rfl | exact trivial | exact fun h => h | exact fun h => (by rw [h]; rfl) | apply And.intro | omega | exact Nat.le_of_ble_eq_true rfl))) ?_
  refine Tr.imp (st' := ⟨[(0, SI (nats v)), (3, I (countTo v 0 : Nat)), (4, I 0)], [], 0, 34, [], 0⟩) (Imp.keepAll) (Tr.block (Tr.loopI (fun mm ss => ∃ (i : Nat), (i ≤ v.length) ∧ v.length - i = mm ∧ ss = ⟨[(0, SI (nats v)), (3, I (countTo v i : Nat)), (4, I i)], [], 0, 34, [], 0⟩) _ ⟨0, ?_, rfl, rfl⟩ ?_))
  · exact Nat.zero_le _
  rintro mm ss ⟨i, hI, rfl, rfl⟩
  refine Tr.seq ?_
  refine Tr.reg [0, 3, 4, 10] (by
      simp only [↓sxd, sxu, ↓zE, ↓exq, ↓zB, St.keep, ↓zJ, Nat.reduceBEq, Nat.reduceLT, sxe, tysW43_55, nats_len]
      (repeat' (first | rfl | exact trivial | exact fun h => h | exact fun h => (by rw [h]; rfl) | apply And.intro | omega | exact Nat.le_of_ble_eq_true rfl))) ?_
  refine Tr.cond rfl (fun h10 => ?_) (fun h10 => ?_)
  · have hlt : i < v.length := by have := of_decide_eq_true h10; omega
    have hcl := countTo_le v i
    refine Tr.skip ?_
    refine Tr.seq ?_
    refine Tr.block ?_
    refine Tr.reg [0, 3, 4, 5] (by
        simp only [↓sxd, sxu, ↓zE, ↓exq, St.keep, Nat.reduceBEq, Nat.reduceLT]
        (repeat' (first | rfl | exact trivial | exact fun h => h | exact fun h => (by rw [h]; rfl) | apply And.intro | omega | exact Nat.le_of_ble_eq_true rfl))) ?_
    refine Tr.seq ?_
    refine Tr.reg [0, 3, 4, 5, 6] (by
        simp only [↓sxd, sxu, ↓zE, ↓exq, St.keep, Nat.reduceBEq, Nat.reduceLT]
        (repeat' (first | rfl | exact trivial | exact fun h => h | exact fun h => (by rw [h]; rfl) | apply And.intro | omega | exact Nat.le_of_ble_eq_true rfl))) ?_
    refine Tr.imp (st' := ⟨[(0, SI (nats v)), (3, I (countTo v i : Nat)), (4, I i), (5, B (firstAt v i 0)), (6, I 0)], [], 0, 34, [], 0⟩) (Imp.keepAll) (Tr.block (Tr.loopI (fun mm ss => ∃ (k : Nat), (k ≤ i) ∧ i - k = mm ∧ ss = ⟨[(0, SI (nats v)), (3, I (countTo v i : Nat)), (4, I i), (5, B (firstAt v i k)), (6, I k)], [], 0, 34, [], 0⟩) _ ⟨0, ?_, rfl, rfl⟩ ?_))
    · exact Nat.zero_le _
    rintro mm ss ⟨k, hI, rfl, rfl⟩
    refine Tr.seq ?_
    refine Tr.reg [0, 3, 4, 5, 6, 15] (by
        simp only [↓sxd, sxu, ↓zE, ↓exq, St.keep, Nat.reduceBEq, Nat.reduceLT, sxe]
        (repeat' (first | rfl | exact trivial | exact fun h => h | exact fun h => (by rw [h]; rfl) | apply And.intro | omega | exact Nat.le_of_ble_eq_true rfl))) ?_
    refine Tr.cond rfl (fun h15 => ?_) (fun h15 => ?_)
    · have hk : k < i := by have := of_decide_eq_true h15; omega
      have hkv : k < v.length := by omega
      refine Tr.skip ?_
      refine Tr.seq ?_
      refine Tr.block ?_
      refine Tr.regV1 [] [] [0, 3, 4, 5, 6] mix (by kernel_rfl) (by
          try simp only
          simp only [↓yB, ↓yG, addA, sxu, zK, ↓exq, St.keep, Nat.reduceBEq, Nat.reduceAdd, Nat.reduceLT]
          iterate 9
            (repeat ((with_reducible refine And.intro ?_ ?_); (focus (first | with_reducible rfl | trivial | exact fun h => h | exact fun h => (by rw [h]; rfl) | omega | assumption))))
            refine GdV.mk _ (fun hg => by simp only [↓sxd, sxu, ↓exP, ↓exq, ↓zD, Nat.reduceBEq, Nat.reduceLT, sxe, tysW43_55, nats_len, nats_at, hkv, hlt, hg]; (repeat' (first | rfl | exact trivial | exact fun h => h | exact fun h => (by rw [h]; rfl) | apply And.intro | omega | exact Nat.le_of_ble_eq_true rfl))) ?_
            simp only [↓yB, ↓yE, ↓yG, addA, sxu, zK, ↓exq, ↓zH, Nat.reduceBEq, Nat.reduceAdd, Nat.reduceLT]
          (repeat' (first | rfl | exact trivial | exact fun h => h | exact fun h => (by rw [h]; rfl) | apply And.intro | omega | exact Nat.le_of_ble_eq_true rfl))) ?_
      have w1 : IntKind.i64.wrap ((k : Int) + 1) = ((k + 1 : Nat) : Int) := by rw [wr (by omega) (by omega)]; rfl
      refine Tr.reg1 [0, 3, 4, 5, 6] (by
          simp only [↓sxd, sxu, ↓zE, ↓exq, St.keep, Nat.reduceBEq, Nat.reduceLT, w1]
          (repeat' (first | rfl | exact trivial | exact fun h => h | exact fun h => (by rw [h]; rfl) | apply And.intro | omega | exact Nat.le_of_ble_eq_true rfl))) ?_
      refine ⟨_, _, ?_, ?_, ⟨k + 1, hk, rfl, rfl⟩⟩
      · omega
      · rw [firstAt_succ, ← ibn]
        exact Imp.keepAll
    · have hke : k = i := by have := of_decide_eq_false h15; omega
      subst hke
      refine Tr.exit ?_
      refine Tr.reg [0, 3, 4, 30] (by
          simp only [↓sxd, sxu, ↓zE, ↓exq, St.keep, Nat.reduceBEq, Nat.reduceLT]
          (repeat' (first | rfl | exact trivial | exact fun h => h | exact fun h => (by rw [h]; rfl) | apply And.intro | omega | exact Nat.le_of_ble_eq_true rfl))) ?_
      refine Tr.cond rfl (fun h30 => ?_) (fun h30 => ?_)
      · have hc : countTo v (k + 1) = countTo v k + 1 := by rw [countTo, if_pos h30]
        have w2 : IntKind.i64.wrap (((countTo v k : Nat) : Int) + 1) = ((countTo v k + 1 : Nat) : Int) := by rw [wr (by omega) (by omega)]; rfl
        refine Tr.reg1 [0, 3, 4] (by
            simp only [↓sxd, sxu, ↓zE, ↓exq, St.keep, Nat.reduceBEq, Nat.reduceLT, w2]
            (repeat' (first | rfl | exact trivial | exact fun h => h | exact fun h => (by rw [h]; rfl) | apply And.intro | omega | exact Nat.le_of_ble_eq_true rfl))) ?_
        have w3 : IntKind.i64.wrap ((k : Int) + 1) = ((k + 1 : Nat) : Int) := by rw [wr (by omega) (by omega)]; rfl
        refine Tr.reg1 [0, 3, 4] (by
            simp only [↓sxd, sxu, ↓zE, ↓exq, St.keep, Nat.reduceBEq, Nat.reduceLT, w3]
            (repeat' (first | rfl | exact trivial | exact fun h => h | exact fun h => (by rw [h]; rfl) | apply And.intro | omega | exact Nat.le_of_ble_eq_true rfl))) ?_
        refine ⟨_, _, ?_, ?_, ⟨k + 1, hlt, rfl, rfl⟩⟩
        · omega
        · rw [hc]; exact Imp.keepAll
      · have hc : countTo v (k + 1) = countTo v k := by
          have h30 : firstAt v k k = false := h30
          rw [countTo, h30]; rfl
        refine Tr.skip ?_
        have w3 : IntKind.i64.wrap ((k : Int) + 1) = ((k + 1 : Nat) : Int) := by rw [wr (by omega) (by omega)]; rfl
        refine Tr.reg1 [0, 3, 4] (by
            simp only [↓sxd, sxu, ↓zE, ↓exq, St.keep, Nat.reduceBEq, Nat.reduceLT, w3]
            (repeat' (first | rfl | exact trivial | exact fun h => h | exact fun h => (by rw [h]; rfl) | apply And.intro | omega | exact Nat.le_of_ble_eq_true rfl))) ?_
        refine ⟨_, _, ?_, ?_, ⟨k + 1, hlt, rfl, rfl⟩⟩
        · omega
        · rw [hc]; exact Imp.keepAll
  · have hge : i = v.length := by have := of_decide_eq_false h10; omega
    subst hge
    refine Tr.exit ?_
    refine Tr.reg [2] (by
        simp only [↓sxd, sxu, ↓zE, ↓exq, St.keep, Nat.reduceBEq, Nat.reduceLT]
        (repeat' (first | rfl | exact trivial | exact fun h => h | exact fun h => (by rw [h]; rfl) | apply And.intro | omega | exact Nat.le_of_ble_eq_true rfl))) ?_
    refine Tr.ret ?_
    (refine ⟨.inr rfl, ?_⟩; first | rfl | exact ⟨rfl, rfl, trivial⟩ | exact ⟨rfl, rfl, rfl, trivial⟩ | (simp only [Res, ResL, ResOK, ↓sxd, sxu, ↓zE, ↓zC, zK, ↓exP, ↓exq, ↓zB, St.keep, ↓zH, ↓zL, ↓zJ, ↓zD, Nat.reduceBEq, Nat.reduceAdd, Nat.reduceLT, Nat.reduceMul, Nat.reduceSub, Nat.reduceLeDiff, Nat.reduceEqDiff, Int.reduceLE, Int.reduceLT, Int.reduceToNat, reduceIte, implies_true, sxe, tysW43_55, nats_len, nats_at]; (repeat' (first | rfl | exact trivial | exact fun h => h | exact fun h => (by rw [h]; rfl) | apply And.intro | omega | exact Nat.le_of_ble_eq_true rfl))))
def freeTo (E : List Entry) (o : List Nat) (p s : Nat) (k : Nat) : Bool := (List.range k).all fun j => (o.getD j 0 != p) || ((E.getD j default).sched != (s : Int))
theorem freeTo_succ {E : List Entry} {o : List Nat} {p s k : Nat} : freeTo E o p s (k + 1) = (freeTo E o p s k && ((o.getD k 0 != p) || ((E.getD k default).sched != (s : Int)))) := by
  unfold freeTo; rw [List.range_succ, List.all_append]; simp
def ageTo (E : List Entry) (o : List Nat) (p a0 : Nat) : Nat → Int
  | 0 => (a0 : Int)
  | j + 1 => if o.getD j 0 = p then (E.getD j default).ages.lo else ageTo E o p a0 j
def newE (E : List Entry) (o : List Nat) (w : Nat) : Entry :=
  ⟨((w / 5 % 10 : Nat) : Int), ((w % 5 % 2 : Nat) : Int), ((w % 5 / 3 : Nat) : Int), ⟨ageTo E o (w % 5) (30 + w % 5 * w / 64 % 2) o.length, ageTo E o (w % 5) (30 + w % 5 * w / 64 % 2) o.length + ((w / 128 % 3 : Nat) : Int)⟩⟩
def tStep (x : List Entry × List Nat) (w : Nat) : List Entry × List Nat := if freeTo x.1 x.2 (w % 5) (w / 5 % 10) x.2.length then (x.1 ++ [newE x.1 x.2 w], x.2 ++ [w % 5]) else x
def tTo (ws : List Nat) : Nat → List Entry × List Nat
  | 0 => ([], [])
  | i + 1 => tStep (tTo ws i) (ws.getD i 0)
structure TOk (i : Nat) (x : List Entry × List Nat) : Prop where
  len : x.1.length = x.2.length
  le : x.2.length ≤ i
  age : ∀ j, j < x.2.length → 30 ≤ (x.1.getD j default).ages.lo ∧ (x.1.getD j default).ages.lo ≤ 31
theorem age_bd {E : List Entry} {o : List Nat} {p a0 : Nat} (h0 : 30 ≤ a0 ∧ a0 ≤ 31) : ∀ n, (∀ j, j < n → 30 ≤ (E.getD j default).ages.lo ∧ (E.getD j default).ages.lo ≤ 31) → 30 ≤ ageTo E o p a0 n ∧ ageTo E o p a0 n ≤ 31
  | 0, _ => by simp only [ageTo]; omega
  | n + 1, h => by
    simp only [ageTo]
    split
    · exact h n (by omega)
    · exact age_bd h0 n fun j hj => h j (by omega)
theorem tTo_ok (ws : List Nat) : ∀ i, TOk i (tTo ws i)
  | 0 => ⟨rfl, Nat.le_refl _, fun j hj => absurd hj (Nat.not_lt_zero _)⟩
  | i + 1 => by
    have ih := tTo_ok ws i
    rw [tTo]
    generalize tTo ws i = x at ih
    unfold tStep
    split
    · refine ⟨by simp [ih.len], by simp; exact ih.le, fun j hj => ?_⟩
      by_cases hjl : j < x.2.length
      · have e : (x.1 ++ [newE x.1 x.2 (ws.getD i 0)]).getD j default = x.1.getD j default := getD_app_l (by rw [ih.len]; exact hjl)
        show 30 ≤ ((x.1 ++ [newE x.1 x.2 (ws.getD i 0)]).getD j default).ages.lo ∧ _
        rw [e]; exact ih.age j hjl
      · have hj2 : j = x.1.length := by simp at hj; have := ih.len; omega
        subst hj2
        have e : (x.1 ++ [newE x.1 x.2 (ws.getD i 0)]).getD x.1.length default = newE x.1 x.2 (ws.getD i 0) := by rw [getD_app_r (Nat.le_refl _), Nat.sub_self]; rfl
        show 30 ≤ ((x.1 ++ [newE x.1 x.2 (ws.getD i 0)]).getD x.1.length default).ages.lo ∧ _
        rw [e]
        exact age_bd (by omega) _ ih.age
    · exact ⟨ih.len, by have := ih.le; omega, ih.age⟩
theorem tmod5 (n : Nat) : (n : Int).tmod 5 = ((n % 5 : Nat) : Int) := tmod_n n 5
theorem tmod7 (n : Nat) : (n : Int).tmod 7 = ((n % 7 : Nat) : Int) := tmod_n n 7
theorem tdiv5 (n : Nat) : (n : Int).tdiv 5 = ((n / 5 : Nat) : Int) := by
  rw [Int.natCast_ediv, Int.tdiv_eq_ediv_of_nonneg (Int.natCast_nonneg _)]; rfl
theorem tdiv3 (n : Nat) : (n : Int).tdiv 3 = ((n / 3 : Nat) : Int) := by
  rw [Int.natCast_ediv, Int.tdiv_eq_ediv_of_nonneg (Int.natCast_nonneg _)]; rfl
theorem tdiv128 (n : Nat) : (n : Int).tdiv 128 = ((n / 128 : Nat) : Int) := by
  rw [Int.natCast_ediv, Int.tdiv_eq_ediv_of_nonneg (Int.natCast_nonneg _)]; rfl
theorem ee_snoc (l : List Entry) (e : Entry) : ee (l ++ [e]) = ee l ++ [[I e.sched, I e.sex, I e.key, I e.ages.lo, I e.ages.hi]] := by simp [ee, dE]
theorem vv_snoc2 (v : List Nat) (n : Nat) : vv (v ++ [n]) = vv v ++ [[I n]] := by simp [vv]
theorem vv_tn {r : Nat → Nat} {hp hp' : HpT} (v : List Nat) : F2 (F2 (TnS r hp hp')) (vv v) (vv v) := F2.map fun n _ => .cons (TnS.d _) .nil
def pStep (ws o : List Nat) (x : List Pair × List Pair) (i : Nat) : List Pair × List Pair :=
  if wordOf ws (i + 5) % 3 > 0 then x
  else if o.getD i 0 = o.getD (wordOf ws (i + 3) % i) 0 ∧ x.1.length < 5 then (x.1 ++ [⟨(i : Nat), (wordOf ws (i + 3) % i : Nat)⟩], x.2)
  else if o.getD i 0 ≠ o.getD (wordOf ws (i + 3) % i) 0 ∧ x.2.length < 5 then (x.1, x.2 ++ [⟨(i : Nat), (wordOf ws (i + 3) % i : Nat)⟩])
  else x
def pTo (ws o : List Nat) : Nat → List Pair × List Pair
  | 0 => ([], [])
  | j + 1 => pStep ws o (pTo ws o j) (j + 1)
theorem pTo_le (ws o : List Nat) : ∀ j, (pTo ws o j).1.length ≤ 5 ∧ (pTo ws o j).2.length ≤ 5
  | 0 => ⟨by simp [pTo], by simp [pTo]⟩
  | j + 1 => by
    have ih := pTo_le ws o j
    rw [pTo]
    generalize pTo ws o j = x at ih
    unfold pStep
    split
    · exact ih
    · split
      · rename_i h
        exact ⟨by show (x.1 ++ [_]).length ≤ 5; rw [List.length_append, List.length_singleton]; omega, ih.2⟩
      · split
        · rename_i h
          exact ⟨ih.1, by show (x.2 ++ [_]).length ≤ 5; rw [List.length_append, List.length_singleton]; omega⟩
        · exact ih
def trulyE (ws : List Nat) : List Entry := (tTo ws (min ws.length 9)).1
def trulyV (ws : List Nat) : List Nat := (tTo ws (min ws.length 9)).2
def missedW (ws : List Nat) : Nat := wordOf ws 2 % 7
def totalW (ws : List Nat) : Nat := missedW ws + countTo (trulyV ws) (trulyV ws).length
def trulyC (ws : List Nat) : Census :=
  ⟨trulyE ws, (pTo ws (trulyV ws) ((trulyV ws).length - 1)).1, (pTo ws (trulyV ws) ((trulyV ws).length - 1)).2, ⟨((missedW ws - missedW ws % 3 : Nat) : Int), ((missedW ws + wordOf ws 1 % 4 : Nat) : Int)⟩, ⟨max 0 ((totalW ws : Int) - ((wordOf ws 4 % 4 : Nat) : Int)), ((totalW ws + wordOf ws 6 % 3 : Nat) : Int)⟩⟩
theorem pp_snoc (l : List Pair) (p : Pair) : pp (l ++ [p]) = pp l ++ [[I p.fst, I p.snd]] := by simp [pp, dP]
abbrev zer : List SV := [.dx [], .dx [], .dx [], I 0, I 0, I 0, I 0]
theorem append0 {ws : List Nat} {i w : Nat} {E : List Entry} {o : List Nat} (hEo : E.length = o.length) : Imp ⟨[(0, SW ws), (2, .ptr 0 0 0), (4, .ptr 1 0 0), (5, .slc 5 1 0 (o.length + 1) (o.length + 1)), (6, I (i + 1 : Nat))], [(5, .arr 1 (vv o ++ [[I (w % 5 : Nat)]])), (4, .arr 5 (ee E ++ [[I (w / 5 % 10 : Nat), I (w % 5 % 2 : Nat), I (w % 5 / 3 : Nat), I (ageTo E o (w % 5) (30 + w % 5 * w / 64 % 2) o.length), I (ageTo E o (w % 5) (30 + w % 5 * w / 64 % 2) o.length + ((w / 128 % 3 : Nat) : Int))]])), (1, .arr 7 [[.slc 4 5 0 (E.length + 1) (E.length + 1), .dx [], .dx [], I 0, I 0, I 0, I 0]]), (0, .arr 7 [zer])], 6, 212, [], 0⟩
    ⟨[(0, SW ws), (2, .ptr 0 0 0), (4, .ptr 1 0 0), (5, .slc 3 1 0 (o ++ [w % 5]).length (o ++ [w % 5]).length), (6, I (i + 1 : Nat))], [(3, .arr 1 (vv (o ++ [w % 5]))), (2, .arr 5 (ee (E ++ [newE E o w]))), (1, .arr 7 [[.slc 2 5 0 (E ++ [newE E o w]).length (E ++ [newE E o w]).length, .dx [], .dx [], I 0, I 0, I 0, I 0]]), (0, .arr 7 [zer])], 4, 212, [], 0⟩ := by
  rw [List.length_append, List.length_append, List.length_singleton, List.length_singleton, ee_snoc, vv_snoc2]
  exact Imp.go (fun i => if i = 2 then 4 else if i = 3 then 5 else if i < 2 then i else i + 2) [(5, _), (4, _), (1, _), (0, _)] rfl rfl (.refl _) (fun _ h => absurd h (Nat.not_lt_zero _)) (fun id h => by simp only [show ¬ id = 2 by omega, show ¬ id = 3 by omega, show ¬ id < 2 by omega, if_false]; omega) (.cons rfl (TnS.d _) (.cons rfl (TnS.ptr rfl) (.cons rfl (TnS.ptr rfl) (.cons rfl (TnS.slc rfl) (.cons rfl (TnS.d _) trivial))))) (.cons ⟨rfl, TnO.arr (F2.append (vv_tn _) (.cons (.cons (TnS.d _) .nil) .nil))⟩ (.cons ⟨rfl, TnO.arr (F2.append (ee_tn _) (.cons (.cons (TnS.d _) (.cons (TnS.d _) (.cons (TnS.d _) (.cons (TnS.d _) (.cons (TnS.d _) .nil))))) .nil))⟩ (.cons ⟨rfl, TnO.arr (.cons (.cons (TnS.slc (r := fun i => if i = 2 then 4 else if i = 3 then 5 else if i < 2 then i else i + 2) (id := 4) (id' := 2) rfl) (.cons (TnS.dx _) (.cons (TnS.dx _) (.cons (TnS.d _) (.cons (TnS.d _) (.cons (TnS.d _) (.cons (TnS.d _) .nil))))))) .nil)⟩ (.cons ⟨rfl, TnO.arr (.cons (.cons (TnS.dx _) (.cons (TnS.dx _) (.cons (TnS.dx _) (.cons (TnS.d _) (.cons (TnS.d _) (.cons (TnS.d _) (.cons (TnS.d _) .nil))))))) .nil)⟩ .nil)))) (fun h => h)
theorem appendS {ws o : List Nat} {j : Nat} {E : List Entry} {S A : List Pair} {x y : Int} : Imp ⟨[(0, SW ws), (2, .ptr 0 0 0), (4, .ptr 1 0 0), (5, SI (nats o)), (14, I (j + 1 + 1 : Nat))], [(7, .arr 2 (pp S ++ [[I x, I y]])), (6, .arr 2 [[I x, I y]]), (5, .arr 2 (pp A)), (1, .arr 7 [[SE E, .slc 7 2 0 (S.length + 1) (S.length + 1), .slc 5 2 0 A.length A.length, I 0, I 0, I 0, I 0]]), (0, .arr 7 [zer])], 8, 212, [], 0⟩
    ⟨[(0, SW ws), (2, .ptr 0 0 0), (4, .ptr 1 0 0), (5, SI (nats o)), (14, I (j + 1 + 1 : Nat))], [(5, .arr 2 (pp A)), (4, .arr 2 (pp (S ++ [Pair.mk x y]))), (1, .arr 7 [[SE E, .slc 4 2 0 (S ++ [Pair.mk x y]).length (S ++ [Pair.mk x y]).length, .slc 5 2 0 A.length A.length, I 0, I 0, I 0, I 0]]), (0, .arr 7 [zer])], 6, 212, [], 0⟩ := by
  rw [List.length_append, List.length_singleton, pp_snoc]
  refine Imp.trans (b := ⟨[(0, SW ws), (2, .ptr 0 0 0), (4, .ptr 1 0 0), (5, SI (nats o)), (14, I (j + 1 + 1 : Nat))], [(4, .arr 2 (pp S ++ [[I x, I y]])), (5, .arr 2 (pp A)), (1, .arr 7 [[SE E, .slc 4 2 0 (S.length + 1) (S.length + 1), .slc 5 2 0 A.length A.length, I 0, I 0, I 0, I 0]]), (0, .arr 7 [zer])], 6, 212, [], 0⟩) (Imp.go (fun i => if i = 4 then 7 else if i < 6 then i else i + 2) [(7, _), (5, _), (1, _), (0, _)] rfl rfl (.cons_cons _ (.cons _ (.refl _))) (fun _ h => absurd h (Nat.not_lt_zero _)) (fun id h => by simp only [show ¬ id = 4 by omega, show ¬ id < 6 by omega, if_false]; omega) (.cons rfl (TnS.d _) (.cons rfl (TnS.ptr rfl) (.cons rfl (TnS.ptr rfl) (.cons rfl (TnS.d _) (.cons rfl (TnS.d _) trivial))))) (.cons ⟨rfl, TnO.arr (F2.append (pp_tn _) (.cons (.cons (TnS.d _) (.cons (TnS.d _) .nil)) .nil))⟩ (.cons ⟨rfl, TnO.arr (pp_tn _)⟩ (.cons ⟨rfl, TnO.arr (.cons (.cons (TnS.d _) (.cons (TnS.slc (r := fun i => if i = 4 then 7 else if i < 6 then i else i + 2) (id := 7) (id' := 4) rfl) (.cons (TnS.slc (r := fun i => if i = 4 then 7 else if i < 6 then i else i + 2) (id := 5) (id' := 5) rfl) (.cons (TnS.d _) (.cons (TnS.d _) (.cons (TnS.d _) (.cons (TnS.d _) .nil))))))) .nil)⟩ (.cons ⟨rfl, TnO.arr (.cons (.cons (TnS.dx _) (.cons (TnS.dx _) (.cons (TnS.dx _) (.cons (TnS.d _) (.cons (TnS.d _) (.cons (TnS.d _) (.cons (TnS.d _) .nil))))))) .nil)⟩ .nil)))) (fun h => h)) (Imp.perm (.swap _ _ _))
theorem appendA {ws o : List Nat} {j : Nat} {E : List Entry} {S A : List Pair} {x y : Int} : Imp ⟨[(0, SW ws), (2, .ptr 0 0 0), (4, .ptr 1 0 0), (5, SI (nats o)), (14, I (j + 1 + 1 : Nat))], [(7, .arr 2 (pp A ++ [[I x, I y]])), (6, .arr 2 [[I x, I y]]), (4, .arr 2 (pp S)), (1, .arr 7 [[SE E, .slc 4 2 0 S.length S.length, .slc 7 2 0 (A.length + 1) (A.length + 1), I 0, I 0, I 0, I 0]]), (0, .arr 7 [zer])], 8, 212, [], 0⟩
    ⟨[(0, SW ws), (2, .ptr 0 0 0), (4, .ptr 1 0 0), (5, SI (nats o)), (14, I (j + 1 + 1 : Nat))], [(5, .arr 2 (pp (A ++ [Pair.mk x y]))), (4, .arr 2 (pp S)), (1, .arr 7 [[SE E, .slc 4 2 0 S.length S.length, .slc 5 2 0 (A ++ [Pair.mk x y]).length (A ++ [Pair.mk x y]).length, I 0, I 0, I 0, I 0]]), (0, .arr 7 [zer])], 6, 212, [], 0⟩ := by
  rw [List.length_append, List.length_singleton, pp_snoc]
  exact Imp.go (fun i => if i = 5 then 7 else if i < 6 then i else i + 2) [(7, _), (4, _), (1, _), (0, _)] rfl rfl (.cons_cons _ (.cons _ (.refl _))) (fun _ h => absurd h (Nat.not_lt_zero _)) (fun id h => by simp only [show ¬ id = 5 by omega, show ¬ id < 6 by omega, if_false]; omega) (.cons rfl (TnS.d _) (.cons rfl (TnS.ptr rfl) (.cons rfl (TnS.ptr rfl) (.cons rfl (TnS.d _) (.cons rfl (TnS.d _) trivial))))) (.cons ⟨rfl, TnO.arr (F2.append (pp_tn _) (.cons (.cons (TnS.d _) (.cons (TnS.d _) .nil)) .nil))⟩ (.cons ⟨rfl, TnO.arr (pp_tn _)⟩ (.cons ⟨rfl, TnO.arr (.cons (.cons (TnS.d _) (.cons (TnS.slc (r := fun i => if i = 5 then 7 else if i < 6 then i else i + 2) (id := 4) (id' := 4) rfl) (.cons (TnS.slc (r := fun i => if i = 5 then 7 else if i < 6 then i else i + 2) (id := 7) (id' := 5) rfl) (.cons (TnS.d _) (.cons (TnS.d _) (.cons (TnS.d _) (.cons (TnS.d _) .nil))))))) .nil)⟩ (.cons ⟨rfl, TnO.arr (.cons (.cons (TnS.dx _) (.cons (TnS.dx _) (.cons (TnS.dx _) (.cons (TnS.d _) (.cons (TnS.d _) (.cons (TnS.d _) (.cons (TnS.d _) .nil))))))) .nil)⟩ .nil)))) (fun h => h)
theorem appendN {ws o : List Nat} {j : Nat} {E : List Entry} {S A : List Pair} {x y : Int} : Imp ⟨[(0, SW ws), (2, .ptr 0 0 0), (4, .ptr 1 0 0), (5, SI (nats o)), (14, I (j + 1 + 1 : Nat))], [(6, .arr 2 [[I x, I y]]), (5, .arr 2 (pp A)), (4, .arr 2 (pp S)), (1, .arr 7 [[SE E, .slc 4 2 0 S.length S.length, .slc 5 2 0 A.length A.length, I 0, I 0, I 0, I 0]]), (0, .arr 7 [zer])], 7, 212, [], 0⟩
    ⟨[(0, SW ws), (2, .ptr 0 0 0), (4, .ptr 1 0 0), (5, SI (nats o)), (14, I (j + 1 + 1 : Nat))], [(5, .arr 2 (pp A)), (4, .arr 2 (pp S)), (1, .arr 7 [[SE E, .slc 4 2 0 S.length S.length, .slc 5 2 0 A.length A.length, I 0, I 0, I 0, I 0]]), (0, .arr 7 [zer])], 6, 212, [], 0⟩ :=
  Imp.go (fun i => if i < 6 then i else i + 1) [(5, _), (4, _), (1, _), (0, _)] rfl rfl (.cons _ (.refl _)) (fun _ h => absurd h (Nat.not_lt_zero _)) (fun id h => by simp only [show ¬ id < 6 by omega, if_false]; omega) (.cons rfl (TnS.d _) (.cons rfl (TnS.ptr rfl) (.cons rfl (TnS.ptr rfl) (.cons rfl (TnS.d _) (.cons rfl (TnS.d _) trivial))))) (.cons ⟨rfl, TnO.arr (pp_tn _)⟩ (.cons ⟨rfl, TnO.arr (pp_tn _)⟩ (.cons ⟨rfl, TnO.arr (.cons (.cons (TnS.d _) (.cons (TnS.slc (r := fun i => if i < 6 then i else i + 1) (id := 4) (id' := 4) rfl) (.cons (TnS.slc (r := fun i => if i < 6 then i else i + 1) (id := 5) (id' := 5) rfl) (.cons (TnS.d _) (.cons (TnS.d _) (.cons (TnS.d _) (.cons (TnS.d _) .nil))))))) .nil)⟩ (.cons ⟨rfl, TnO.arr (.cons (.cons (TnS.dx _) (.cons (TnS.dx _) (.cons (TnS.dx _) (.cons (TnS.d _) (.cons (TnS.d _) (.cons (TnS.d _) (.cons (TnS.d _) .nil))))))) .nil)⟩ .nil)))) (fun h => h)
abbrev tysW43_54 := And.intro ty.sz0 <| And.intro ty.agg0 <| And.intro ty.elem0 <| And.intro ty.sz3 <| And.intro ty.agg3 <| And.intro ty.elem3 <| And.intro ty.zero3 <| And.intro ty.und3 <| And.intro ty.sz4 <| And.intro ty.agg4 <| And.intro ty.elem4 <| And.intro ty.zero4 <| And.intro ty.und4 <| And.intro ty.sz22 <| And.intro ty.agg22 <| And.intro ty.elem22 <| And.intro ty.by22 <| And.intro ty.ez22 <| And.intro ty.zero22 <| And.intro ty.und22 <| And.intro ty.sz23 <| And.intro ty.agg23 <| And.intro ty.elem23 <| And.intro ty.by23 <| And.intro ty.ez23 <| And.intro ty.zero23 <| And.intro ty.und23 <| And.intro ty.sz25 <| And.intro ty.agg25 <| And.intro ty.fld25_0 <| And.intro ty.fld25_1 <| And.intro ty.elem25 <| And.intro ty.zero25 <| And.intro ty.pl25 <| And.intro ty.sz27 <| And.intro ty.agg27 <| And.intro ty.fld27_0 <| And.intro ty.fld27_1 <| And.intro ty.fld27_2 <| And.intro ty.fld27_3 <| And.intro ty.fld27_4 <| And.intro ty.elem27 <| And.intro ty.zero27 <| And.intro ty.pl27 <| And.intro ty.sz43 <| And.intro ty.agg43 <| And.intro ty.elem43 <| And.intro ty.by43 <| And.intro ty.ez43 <| And.intro ty.zero43 <| And.intro ty.und43 <| And.intro ty.sz71 <| And.intro ty.agg71 <| And.intro ty.fld71_0 <| And.intro ty.fld71_1 <| And.intro ty.fld71_2 <| And.intro ty.fld71_3 <| And.intro ty.elem71 <| And.intro ty.zero71 <| And.intro ty.pl71 <| And.intro ty.sz73 <| And.intro ty.agg73 <| And.intro ty.fld73_0 <| And.intro ty.fld73_1 <| And.intro ty.elem73 <| And.intro ty.zero73 <| And.intro ty.pl73 <| And.intro ty.sz77 <| And.intro ty.agg77 <| And.intro ty.elem77 <| And.intro ty.zero77 <| And.intro ty.und77 <| And.intro ty.sz79 <| And.intro ty.agg79 <| And.intro ty.elem79 <| And.intro ty.by79 <| And.intro ty.ez79 <| And.intro ty.zero79 <| ty.und79
set_option maxHeartbeats 4000000 in
theorem Truly_c (ws : List Nat) (hw : ∀ n ∈ ws, n < 65536) : CallP Tryd.prog G0 54 [SW ws] (.tup [(trulyC ws).s, SI (nats (trulyV ws))]) := by
  refine CallP.body 212 [.cell 2 27, .tmp 3] Tryd.func54 (by kernel_rfl) rfl rfl rfl (by repeat' (first | exact Pure.d _ | exact Pure.dx _ | exact Pure.dp _ | exact fa_nil | refine fa_cons ?_ ?_ | refine Pure.agg ?_ | refine Pure.tup ?_ | refine Pure.clo ?_ ?_ | refine Pure.fp ?_ | exact Pure.mapd _ | assumption)) (by repeat' (first | exact Pure.d _ | exact Pure.dx _ | exact Pure.dp _ | exact fa_nil | refine fa_cons ?_ ?_ | refine Pure.agg ?_ | refine Pure.tup ?_ | refine Pure.clo ?_ ?_ | refine Pure.fp ?_ | exact Pure.mapd _ | assumption)) ?_
  refine Tr.reg [0, 2] (by
      simp only [↓sxd, sxu, ↓zE, ↓exq, St.keep, ↓zM, Nat.reduceBEq, Nat.reduceAdd, Nat.reduceLT, Nat.reduceEqDiff, tysW43_54]
      (repeat' (first | rfl | exact trivial | exact fun h => h | exact fun h => (by rw [h]; rfl) | apply And.intro | omega | exact Nat.le_of_ble_eq_true rfl))) ?_
  refine Tr.reg [0, 2, 4] (by
      simp only [↓sxd, sxu, ↓zE, ↓exq, St.keep, ↓zM, Nat.reduceBEq, Nat.reduceAdd, Nat.reduceLT, Nat.reduceEqDiff, tysW43_54]
      (repeat' (first | rfl | exact trivial | exact fun h => h | exact fun h => (by rw [h]; rfl) | apply And.intro | omega | exact Nat.le_of_ble_eq_true rfl))) ?_
  refine Tr.reg [0, 2, 4, 5] (by
      simp only [↓sxd, sxu, ↓zE, ↓exq, St.keep, Nat.reduceBEq, Nat.reduceLT]
      (repeat' (first | rfl | exact trivial | exact fun h => h | exact fun h => (by rw [h]; rfl) | apply And.intro | omega | exact Nat.le_of_ble_eq_true rfl))) ?_
  refine Tr.seq ?_
  refine Tr.reg [0, 2, 4, 5, 6] (by
      simp only [↓sxd, sxu, ↓zE, ↓exq, St.keep, Nat.reduceBEq, Nat.reduceLT]
      (repeat' (first | rfl | exact trivial | exact fun h => h | exact fun h => (by rw [h]; rfl) | apply And.intro | omega | exact Nat.le_of_ble_eq_true rfl))) ?_
  refine Tr.imp (st' := ⟨[(0, SW ws), (2, .ptr 0 0 0), (4, .ptr 1 0 0), (5, .slc 3 1 0 [].length [].length), (6, I 0)], [(3, .arr 1 (vv [])), (2, .arr 5 (ee [])), (1, .arr 7 [[.slc 2 5 0 [].length [].length, .dx [], .dx [], I 0, I 0, I 0, I 0]]), (0, .arr 7 [[.dx [], .dx [], .dx [], I 0, I 0, I 0, I 0]])], 4, 212, [], 0⟩) (Imp.trans (b := ⟨[(0, SW ws), (2, .ptr 0 0 0), (4, .ptr 1 0 0), (5, .dx []), (6, I 0)], [(2, .arr 5 []), (1, .arr 7 [[.slc 2 5 0 0 0, .dx [], .dx [], I 0, I 0, I 0, I 0]]), (0, .arr 7 [[.dx [], .dx [], .dx [], I 0, I 0, I 0, I 0]])], 3, 212, [], 0⟩) (Imp.goV 5 rfl rfl rfl rfl (by repeat' (first | exact trivial | exact F2.nil | refine F2.cons ?_ ?_ | refine TmV.cons rfl VnS.nil ?_ | refine TmV.cons rfl VnS.same ?_ | refine ⟨rfl, ?_⟩ | exact VnO.same _ | refine VnO.arr ?_ | exact VnS.nil | exact VnS.same | exact F2.refl fun _ _ => VnS.same)) (by repeat' (first | exact trivial | exact F2.nil | refine F2.cons ?_ ?_ | refine TmV.cons rfl VnS.nil ?_ | refine TmV.cons rfl VnS.same ?_ | refine ⟨rfl, ?_⟩ | exact VnO.same _ | refine VnO.arr ?_ | exact VnS.nil | exact VnS.same | exact F2.refl fun _ _ => VnS.same))) (Imp.goV 1 rfl rfl rfl rfl (by repeat' (first | exact trivial | exact F2.nil | refine F2.cons ?_ ?_ | refine TmV.cons rfl VnS.nil ?_ | refine TmV.cons rfl VnS.same ?_ | refine ⟨rfl, ?_⟩ | exact VnO.same _ | refine VnO.arr ?_ | exact VnS.nil | exact VnS.same | exact F2.refl fun _ _ => VnS.same)) (by repeat' (first | exact trivial | exact F2.nil | refine F2.cons ?_ ?_ | refine TmV.cons rfl VnS.nil ?_ | refine TmV.cons rfl VnS.same ?_ | refine ⟨rfl, ?_⟩ | exact VnO.same _ | refine VnO.arr ?_ | exact VnS.nil | exact VnS.same | exact F2.refl fun _ _ => VnS.same)))) (Tr.block (Tr.loopI (fun mm ss => ∃ (i : Nat) (E : List Entry) (o : List Nat), (i ≤ 9 ∧ i ≤ ws.length ∧ tTo ws i = (E, o)) ∧ 9 - i = mm ∧ ss = ⟨[(0, SW ws), (2, .ptr 0 0 0), (4, .ptr 1 0 0), (5, .slc 3 1 0 o.length o.length), (6, I i)], [(3, .arr 1 (vv o)), (2, .arr 5 (ee E)), (1, .arr 7 [[.slc 2 5 0 E.length E.length, .dx [], .dx [], I 0, I 0, I 0, I 0]]), (0, .arr 7 [[.dx [], .dx [], .dx [], I 0, I 0, I 0, I 0]])], 4, 212, [], 0⟩) _ ⟨0, [], [], ?_, rfl, rfl⟩ ?_))
  · exact ⟨Nat.zero_le _, Nat.zero_le _, rfl⟩
  rintro mm ss ⟨i, E, o, hI, rfl, rfl⟩
  obtain ⟨hI, hIw, hx⟩ := hI
  have hok := tTo_ok ws i
  rw [hx] at hok
  obtain ⟨hEo, hoi, hag⟩ := hok
  have hEo : E.length = o.length := hEo
  have hoi : o.length ≤ i := hoi
  have hag : ∀ j, j < o.length → 30 ≤ (E.getD j default).ages.lo ∧ (E.getD j default).ages.lo ≤ 31 := hag
  refine Tr.seq ?_
  refine Tr.reg [0, 2, 4, 5, 6, 26] (by
      simp only [↓sxd, sxu, ↓zE, ↓exq, ↓zB, St.keep, ↓zJ, Nat.reduceBEq, Nat.reduceLT, sxe, tysW43_54]
      iterate 2
        (repeat ((with_reducible refine And.intro ?_ ?_); (focus (first | with_reducible rfl | trivial | exact fun h => h | exact fun h => (by rw [h]; rfl) | omega | assumption))))
        refine GdO.mk _ (fun hg => by simp only [↓sxd, sxu, ↓exq, Nat.reduceBEq, hg]; (repeat' (first | rfl | exact trivial | exact fun h => h | exact fun h => (by rw [h]; rfl) | apply And.intro | omega | exact Nat.le_of_ble_eq_true rfl))) ?_
        simp only [↓sxd, sxu, ↓zE, ↓exq, ↓zH, Nat.reduceBEq, Nat.reduceLT]
      (repeat' (first | rfl | exact trivial | exact fun h => h | exact fun h => (by rw [h]; rfl) | apply And.intro | omega | exact Nat.le_of_ble_eq_true rfl))) ?_
  refine Tr.cond rfl (fun h26 => ?_) (fun h26 => ?_)
  · have hlt : i < ws.length ∧ i < 9 := by
      simp only [Bool.and_eq_true, decide_eq_true_eq] at h26; omega
    obtain ⟨hiw, hi9⟩ := hlt
    have hwb := hw _ (getD_mem (d := 0) hiw)
    have hst : tTo ws (i + 1) = tStep (E, o) (ws.getD i 0) := by rw [tTo, hx]
    generalize hwd : ws.getD i 0 = w at hwb hst
    have hstd : tStep (E, o) w = if freeTo E o (w % 5) (w / 5 % 10) o.length then (E ++ [newE E o w], o ++ [w % 5]) else (E, o) := rfl
    have hpw : w % 5 * w ≤ 4 * 65535 := Nat.mul_le_mul (by omega) (by omega)
    have wpw : IntKind.i64.wrap (((w % 5 : Nat) : Int) * (w : Int)) = ((w % 5 * w : Nat) : Int) := by
      rw [← Int.natCast_mul]; exact wi (by omega)
    refine Tr.skip ?_
    refine Tr.seq ?_
    refine Tr.block ?_
    refine Tr.reg [0, 2, 4, 5, 6, 7] (by
        simp only [↓sxd, sxu, ↓zE, ↓exq, St.keep, ↓xB, ↓zD, Nat.reduceBEq, Nat.reduceLT, sxe, tysW43_54, hiw, hwd, wi (show w < 9223372036854775808 by omega)]
        (repeat' (first | rfl | exact trivial | exact fun h => h | exact fun h => (by rw [h]; rfl) | apply And.intro | omega | exact Nat.le_of_ble_eq_true rfl))) ?_
    refine Tr.reg [0, 2, 4, 5, 6, 7, 8, 9] (by
        simp only [↓sxd, sxu, ↓zE, ↓exq, St.keep, Nat.reduceBEq, Nat.reduceLT, tmod5, tdiv5, wi (show w / 5 < 9223372036854775808 by omega), tmod10]
        (repeat' (first | rfl | exact trivial | exact fun h => h | exact fun h => (by rw [h]; rfl) | apply And.intro | omega | exact Nat.le_of_ble_eq_true rfl))) ?_
    refine Tr.reg [0, 2, 4, 5, 6, 7, 8, 9, 10] (by
        simp only [↓sxd, sxu, ↓zE, ↓exq, St.keep, Nat.reduceBEq, Nat.reduceLT]
        (repeat' (first | rfl | exact trivial | exact fun h => h | exact fun h => (by rw [h]; rfl) | apply And.intro | omega | exact Nat.le_of_ble_eq_true rfl))) ?_
    refine Tr.seq ?_
    refine Tr.reg [0, 2, 4, 5, 6, 7, 8, 9, 10, 11] (by
        simp only [↓sxd, sxu, ↓zE, ↓exq, St.keep, Nat.reduceBEq, Nat.reduceLT]
        (repeat' (first | rfl | exact trivial | exact fun h => h | exact fun h => (by rw [h]; rfl) | apply And.intro | omega | exact Nat.le_of_ble_eq_true rfl))) ?_
    refine Tr.imp (st' := ⟨[(0, SW ws), (2, .ptr 0 0 0), (4, .ptr 1 0 0), (5, .slc 3 1 0 o.length o.length), (6, I i), (7, I w), (8, I (w % 5 : Nat)), (9, I (w / 5 % 10 : Nat)), (10, B (freeTo E o (w % 5) (w / 5 % 10) 0)), (11, I 0)], [(3, .arr 1 (vv o)), (2, .arr 5 (ee E)), (1, .arr 7 [[.slc 2 5 0 E.length E.length, .dx [], .dx [], I 0, I 0, I 0, I 0]]), (0, .arr 7 [[.dx [], .dx [], .dx [], I 0, I 0, I 0, I 0]])], 4, 212, [], 0⟩) (Imp.keepAll) (Tr.block (Tr.loopI (fun mm ss => ∃ (k : Nat), (k ≤ o.length) ∧ o.length - k = mm ∧ ss = ⟨[(0, SW ws), (2, .ptr 0 0 0), (4, .ptr 1 0 0), (5, .slc 3 1 0 o.length o.length), (6, I i), (7, I w), (8, I (w % 5 : Nat)), (9, I (w / 5 % 10 : Nat)), (10, B (freeTo E o (w % 5) (w / 5 % 10) k)), (11, I k)], [(3, .arr 1 (vv o)), (2, .arr 5 (ee E)), (1, .arr 7 [[.slc 2 5 0 E.length E.length, .dx [], .dx [], I 0, I 0, I 0, I 0]]), (0, .arr 7 [[.dx [], .dx [], .dx [], I 0, I 0, I 0, I 0]])], 4, 212, [], 0⟩) _ ⟨0, ?_, rfl, rfl⟩ ?_))
    · exact Nat.zero_le _
    rintro mm ss ⟨k, hI, rfl, rfl⟩
    refine Tr.seq ?_
    refine Tr.reg [0, 2, 4, 5, 6, 7, 8, 9, 10, 11, 42] (by
        simp only [↓sxd, sxu, ↓zE, ↓exq, ↓zB, St.keep, ↓zJ, Nat.reduceBEq, Nat.reduceLT, sxe, tysW43_54]
        (repeat' (first | rfl | exact trivial | exact fun h => h | exact fun h => (by rw [h]; rfl) | apply And.intro | omega | exact Nat.le_of_ble_eq_true rfl))) ?_
    refine Tr.cond rfl (fun h42 => ?_) (fun h42 => ?_)
    · have hko : k < o.length := by have := of_decide_eq_true h42; omega
      have hkE : k < E.length := by omega
      refine Tr.skip ?_
      refine Tr.seq ?_
      refine Tr.block ?_
      refine Tr.reg1 [0, 2, 4, 5, 6, 7, 8, 9, 10, 11] (by
          simp only [↓sxd, sxu, ↓zE, ↓exq, St.keep, Nat.reduceBEq, Nat.reduceLT, hko]
          iterate 15
            (repeat ((with_reducible refine And.intro ?_ ?_); (focus (first | with_reducible rfl | trivial | exact fun h => h | exact fun h => (by rw [h]; rfl) | omega | assumption))))
            refine GdO.mk _ (fun hg => by simp only [↓sxd, sxu, ↓exq, ↓zD, ↓zA, Nat.reduceBEq, Nat.reduceAdd, Nat.reduceLT, Nat.reduceEqDiff, sxe, tysW43_54, hko, vv_getD hko, ee_len, hkE, ee_get hkE, hg]; (repeat' (first | rfl | exact trivial | exact fun h => h | exact fun h => (by rw [h]; rfl) | apply And.intro | omega | exact Nat.le_of_ble_eq_true rfl))) ?_
            simp only [↓sxd, sxu, ↓zE, Nat.reduceBEq, Nat.reduceLT]
          (repeat ((with_reducible refine And.intro ?_ ?_); (focus (first | with_reducible rfl | trivial | exact fun h => h | exact fun h => (by rw [h]; rfl) | omega | assumption))))
          first | refine GdO.or (fun hg => by simp only [sxu, Nat.reduceBEq, pickArgs, hg]; (repeat' (first | rfl | exact trivial | exact fun h => h | exact fun h => (by rw [h]; rfl) | apply And.intro | omega | exact Nat.le_of_ble_eq_true rfl))) ?_ | refine GdO.mk _ (fun hg => by simp only [↓sxd, sxu, ↓zE, ↓zC, zK, ↓exP, ↓exq, ↓zB, St.keep, ↓zH, ↓xB, ↓zL, ↓zJ, ↓zD, ↓zM, ↓zO, ↓zG, ↓zQ, ↓zA, Nat.reduceBEq, Nat.reduceAdd, Nat.reduceLT, Nat.reduceMul, Nat.reduceSub, Nat.reduceLeDiff, Nat.reduceEqDiff, Int.reduceLE, Int.reduceLT, Int.reduceToNat, reduceIte, implies_true, sxe, tysW43_54, vv_len, hko, vv_getD hko, ee_len, hkE, ee_get hkE, hg, if_true]; (repeat' (first | rfl | exact trivial | exact fun h => h | exact fun h => (by rw [h]; rfl) | apply And.intro | omega | exact Nat.le_of_ble_eq_true rfl))) ?_
          simp only [↓sxd, sxu, ↓zE, ↓exq, ↓zH, Nat.reduceBEq, Nat.reduceLT]
          (repeat' (first | rfl | exact trivial | exact fun h => h | exact fun h => (by rw [h]; rfl) | apply And.intro | omega | exact Nat.le_of_ble_eq_true rfl))) ?_
      have w1 : IntKind.i64.wrap ((k : Int) + 1) = ((k + 1 : Nat) : Int) := by rw [wr (by omega) (by omega)]; rfl
      refine Tr.reg1 [0, 2, 4, 5, 6, 7, 8, 9, 10, 11] (by
          simp only [↓sxd, sxu, ↓zE, ↓exq, St.keep, Nat.reduceBEq, Nat.reduceLT, w1]
          (repeat' (first | rfl | exact trivial | exact fun h => h | exact fun h => (by rw [h]; rfl) | apply And.intro | omega | exact Nat.le_of_ble_eq_true rfl))) ?_
      refine ⟨_, _, ?_, ?_, ⟨k + 1, hko, rfl, rfl⟩⟩
      · omega
      · rw [freeTo_succ, ← ibn]
        exact Imp.keepAll
    · have hke : k = o.length := by have := of_decide_eq_false h42; omega
      subst hke
      refine Tr.exit ?_
      refine Tr.seq ?_
      refine Tr.reg [0, 2, 4, 5, 6, 7, 8, 9, 65] (by
          simp only [↓sxd, sxu, ↓zE, ↓exq, St.keep, ↓zL, Nat.reduceBEq, Nat.reduceLT]
          (repeat' (first | rfl | exact trivial | exact fun h => h | exact fun h => (by rw [h]; rfl) | apply And.intro | omega | exact Nat.le_of_ble_eq_true rfl))) ?_
      refine Tr.cond rfl (fun h65 => ?_) (fun h65 => ?_)
      · have hfr : freeTo E o (w % 5) (w / 5 % 10) o.length = false := by simpa using h65
        have hnx : tTo ws (i + 1) = (E, o) := by rw [hst, hstd, hfr]; rfl
        refine Tr.exit ?_
        have w3 : IntKind.i64.wrap ((i : Int) + 1) = ((i + 1 : Nat) : Int) := by rw [wr (by omega) (by omega)]; rfl
        refine Tr.reg1 [0, 2, 4, 5, 6] (by
            simp only [↓sxd, sxu, ↓zE, ↓exq, St.keep, Nat.reduceBEq, Nat.reduceLT, w3]
            (repeat' (first | rfl | exact trivial | exact fun h => h | exact fun h => (by rw [h]; rfl) | apply And.intro | omega | exact Nat.le_of_ble_eq_true rfl))) ?_
        first |(have hq := hab; exact ⟨_, _, by omega, append0 hEo, ⟨i + 1, E ++ [newE E o w], o ++ [w % 5], ⟨by omega, by omega, hnx⟩, rfl, rfl⟩⟩) |(exact ⟨_, _, by omega, Imp.keepAll, ⟨i + 1, E, o, ⟨by omega, by omega, hnx⟩, rfl, rfl⟩⟩)
      · have hfr : freeTo E o (w % 5) (w / 5 % 10) o.length = true := by simpa using h65
        have hnx : tTo ws (i + 1) = (E ++ [newE E o w], o ++ [w % 5]) := by rw [hst, hstd, hfr]; rfl
        have hab := age_bd (E := E) (o := o) (p := w % 5) (a0 := 30 + w % 5 * w / 64 % 2) (by omega) o.length hag
        have wa := wadd (k := w / 128 % 3) (show 0 ≤ ageTo E o (w % 5) (30 + w % 5 * w / 64 % 2) o.length by omega) (by omega) (by omega)
        refine Tr.skip ?_
        have w30 : IntKind.i64.wrap ((30 : Int) + ((w % 5 * w / 64 % 2 : Nat) : Int)) = ((30 + w % 5 * w / 64 % 2 : Nat) : Int) := by
          have : w % 5 * w / 64 % 2 < 2 := Nat.mod_lt _ (by omega)
          generalize w % 5 * w / 64 % 2 = z at this ⊢
          rw [wr (by omega) (by omega)]; rfl
        refine Tr.reg [0, 2, 4, 5, 6, 7, 8, 9, 12] (by
            simp only [↓sxd, sxu, ↓zE, ↓exq, St.keep, Nat.reduceBEq, Nat.reduceLT, wpw, tdiv64, tmod2n, wi (show w % 5 * w / 64 < 9223372036854775808 by omega), w30]
            (repeat' (first | rfl | exact trivial | exact fun h => h | exact fun h => (by rw [h]; rfl) | apply And.intro | omega | exact Nat.le_of_ble_eq_true rfl))) ?_
        refine Tr.seq ?_
        refine Tr.reg [0, 2, 4, 5, 6, 7, 8, 9, 12, 13] (by
            simp only [↓sxd, sxu, ↓zE, ↓exq, St.keep, Nat.reduceBEq, Nat.reduceLT]
            (repeat' (first | rfl | exact trivial | exact fun h => h | exact fun h => (by rw [h]; rfl) | apply And.intro | omega | exact Nat.le_of_ble_eq_true rfl))) ?_
        refine Tr.imp (st' := ⟨[(0, SW ws), (2, .ptr 0 0 0), (4, .ptr 1 0 0), (5, .slc 3 1 0 o.length o.length), (6, I i), (7, I w), (8, I (w % 5 : Nat)), (9, I (w / 5 % 10 : Nat)), (12, I (ageTo E o (w % 5) (30 + w % 5 * w / 64 % 2) 0)), (13, I 0)], [(3, .arr 1 (vv o)), (2, .arr 5 (ee E)), (1, .arr 7 [[.slc 2 5 0 E.length E.length, .dx [], .dx [], I 0, I 0, I 0, I 0]]), (0, .arr 7 [[.dx [], .dx [], .dx [], I 0, I 0, I 0, I 0]])], 4, 212, [], 0⟩) (Imp.keepAll) (Tr.block (Tr.loopI (fun mm ss => ∃ (j : Nat), (j ≤ o.length) ∧ o.length - j = mm ∧ ss = ⟨[(0, SW ws), (2, .ptr 0 0 0), (4, .ptr 1 0 0), (5, .slc 3 1 0 o.length o.length), (6, I i), (7, I w), (8, I (w % 5 : Nat)), (9, I (w / 5 % 10 : Nat)), (12, I (ageTo E o (w % 5) (30 + w % 5 * w / 64 % 2) j)), (13, I j)], [(3, .arr 1 (vv o)), (2, .arr 5 (ee E)), (1, .arr 7 [[.slc 2 5 0 E.length E.length, .dx [], .dx [], I 0, I 0, I 0, I 0]]), (0, .arr 7 [[.dx [], .dx [], .dx [], I 0, I 0, I 0, I 0]])], 4, 212, [], 0⟩) _ ⟨0, ?_, rfl, rfl⟩ ?_))
        · exact Nat.zero_le _
        rintro mm ss ⟨j, hI, rfl, rfl⟩
        refine Tr.seq ?_
        refine Tr.reg [0, 2, 4, 5, 6, 7, 8, 9, 12, 13, 75] (by
            simp only [↓sxd, sxu, ↓zE, ↓exq, ↓zB, St.keep, ↓zJ, Nat.reduceBEq, Nat.reduceLT, sxe, tysW43_54]
            (repeat' (first | rfl | exact trivial | exact fun h => h | exact fun h => (by rw [h]; rfl) | apply And.intro | omega | exact Nat.le_of_ble_eq_true rfl))) ?_
        refine Tr.cond rfl (fun h75 => ?_) (fun h75 => ?_)
        · have hjo : j < o.length := by have := of_decide_eq_true h75; omega
          have hjE : j < E.length := by omega
          refine Tr.skip ?_
          refine Tr.seq ?_
          refine Tr.block ?_
          refine Tr.reg [0, 2, 4, 5, 6, 7, 8, 9, 12, 13, 83] (by
              simp only [↓sxd, sxu, ↓zE, ↓exq, St.keep, ↓zD, Nat.reduceBEq, Nat.reduceLT, sxe, tysW43_54, hjo, vv_getD hjo]
              (repeat' (first | rfl | exact trivial | exact fun h => h | exact fun h => (by rw [h]; rfl) | apply And.intro | omega | exact Nat.le_of_ble_eq_true rfl))) ?_
          refine Tr.cond rfl (fun h83 => ?_) (fun h83 => ?_)
          · have hq : o.getD j 0 = w % 5 := by have := beq_iff_eq.1 h83; omega
            have hat : ageTo E o (w % 5) (30 + w % 5 * w / 64 % 2) (j + 1) = (E.getD j default).ages.lo := by rw [ageTo, if_pos hq]
            refine Tr.reg1 [0, 2, 4, 5, 6, 7, 8, 9, 12, 13] (by
                simp only [↓sxd, sxu, ↓zE, ↓exq, St.keep, ↓zD, ↓zA, Nat.reduceBEq, Nat.reduceAdd, Nat.reduceLT, Nat.reduceEqDiff, sxe, tysW43_54, ee_len, hjE, ee_get hjE]
                (repeat' (first | rfl | exact trivial | exact fun h => h | exact fun h => (by rw [h]; rfl) | apply And.intro | omega | exact Nat.le_of_ble_eq_true rfl))) ?_
            have w2 : IntKind.i64.wrap ((j : Int) + 1) = ((j + 1 : Nat) : Int) := by rw [wr (by omega) (by omega)]; rfl
            refine Tr.reg1 [0, 2, 4, 5, 6, 7, 8, 9, 12, 13] (by
                simp only [↓sxd, sxu, ↓zE, ↓exq, St.keep, Nat.reduceBEq, Nat.reduceLT, w2]
                (repeat' (first | rfl | exact trivial | exact fun h => h | exact fun h => (by rw [h]; rfl) | apply And.intro | omega | exact Nat.le_of_ble_eq_true rfl))) ?_
            refine ⟨_, _, ?_, ?_, ⟨j + 1, hjo, rfl, rfl⟩⟩
            · omega
            · rw [hat]; exact Imp.keepAll
          · have hq : ¬ o.getD j 0 = w % 5 := fun hc => by rw [hc] at h83; simp at h83
            have hat : ageTo E o (w % 5) (30 + w % 5 * w / 64 % 2) (j + 1) = ageTo E o (w % 5) (30 + w % 5 * w / 64 % 2) j := by rw [ageTo, if_neg hq]
            refine Tr.skip ?_
            have w2 : IntKind.i64.wrap ((j : Int) + 1) = ((j + 1 : Nat) : Int) := by rw [wr (by omega) (by omega)]; rfl
            refine Tr.reg1 [0, 2, 4, 5, 6, 7, 8, 9, 12, 13] (by
                simp only [↓sxd, sxu, ↓zE, ↓exq, St.keep, Nat.reduceBEq, Nat.reduceLT, w2]
                (repeat' (first | rfl | exact trivial | exact fun h => h | exact fun h => (by rw [h]; rfl) | apply And.intro | omega | exact Nat.le_of_ble_eq_true rfl))) ?_
            refine ⟨_, _, ?_, ?_, ⟨j + 1, hjo, rfl, rfl⟩⟩
            · omega
            · rw [hat]; exact Imp.keepAll
        · have hje : j = o.length := by have := of_decide_eq_false h75; omega
          subst hje
          refine Tr.exit ?_
          have hk5 : (E.length + 1 ≤ 1073741824) = True := eq_true (by omega)
          refine Tr.reg [0, 2, 4, 5, 6, 8] (by
              simp only [↓sxd, sxu, ↓zE, ↓exq, ↓zB, St.keep, ↓zD, ↓zO, ↓zG, ↓zQ, ↓zA, Nat.reduceBEq, Nat.reduceAdd, Nat.reduceLT, Nat.reduceLeDiff, Nat.reduceEqDiff, tysW43_54, ee_len, tmod2n, tdiv3, tdiv128, tmod3, wi (show w / 128 < 9223372036854775808 by omega), wi (show w % 5 / 3 < 9223372036854775808 by omega), wa, hk5]
              (repeat' (first | rfl | exact trivial | exact fun h => h | exact fun h => (by rw [h]; rfl) | apply And.intro | omega | exact Nat.le_of_ble_eq_true rfl))) ?_
          have hk6 : (o.length + 1 ≤ 1073741824) = True := eq_true (by omega)
          refine Tr.reg1 [0, 2, 4, 5, 6] (by
              simp only [↓sxd, sxu, ↓zE, ↓exq, ↓zB, St.keep, ↓zG, ↓zQ, Nat.reduceBEq, Nat.reduceAdd, Nat.reduceLT, Nat.reduceLeDiff, Nat.reduceEqDiff, tysW43_54, hk6]
              (repeat' (first | rfl | exact trivial | exact fun h => h | exact fun h => (by rw [h]; rfl) | apply And.intro | omega | exact Nat.le_of_ble_eq_true rfl))) ?_
          have w3 : IntKind.i64.wrap ((i : Int) + 1) = ((i + 1 : Nat) : Int) := by rw [wr (by omega) (by omega)]; rfl
          refine Tr.reg1 [0, 2, 4, 5, 6] (by
              simp only [↓sxd, sxu, ↓zE, ↓exq, St.keep, Nat.reduceBEq, Nat.reduceLT, w3]
              (repeat' (first | rfl | exact trivial | exact fun h => h | exact fun h => (by rw [h]; rfl) | apply And.intro | omega | exact Nat.le_of_ble_eq_true rfl))) ?_
          first |(have hq := hab; exact ⟨_, _, by omega, append0 hEo, ⟨i + 1, E ++ [newE E o w], o ++ [w % 5], ⟨by omega, by omega, hnx⟩, rfl, rfl⟩⟩) |(exact ⟨_, _, by omega, Imp.keepAll, ⟨i + 1, E, o, ⟨by omega, by omega, hnx⟩, rfl, rfl⟩⟩)
  · have hend : i = ws.length ∨ i = 9 := by
      simp only [Bool.and_eq_false_iff, decide_eq_false_iff_not] at h26; omega
    refine Tr.exit ?_
    refine Tr.seq ?_
    have hmin : i = min ws.length 9 := by omega
    have hE : trulyE ws = E := by unfold trulyE; rw [← hmin, hx]
    have hV : trulyV ws = o := by unfold trulyV; rw [← hmin, hx]
    have hwo := wordOf_lt hw
    have ho9 : o.length ≤ 9 := by omega
    refine Tr.imp (st' := ⟨[(0, SW ws), (2, .ptr 0 0 0), (4, .ptr 1 0 0), (5, SI (nats o))], [(1, .arr 7 [[SE E, .dx [], .dx [], I 0, I 0, I 0, I 0]]), (0, .arr 7 [[.dx [], .dx [], .dx [], I 0, I 0, I 0, I 0]])], 4, 212, [], 0⟩) (Imp.go (fun i => i) [(1, _), (0, _)] rfl rfl (.cons _ (.cons _ (.refl _))) (fun _ _ => rfl) (fun _ h => h) (.cons rfl (TnS.d _) (.cons rfl (TnS.ptr rfl) (.cons rfl (TnS.ptr rfl) (.cons rfl (TnS.frz0 (id := 3) (sz := 1) (es := vv o) rfl (by simp) (by simp) (by rw [vv_len]) (vv_fz o)) trivial)))) (.cons ⟨rfl, TnO.arr (.cons (.cons (efz (id := 2) (es := ee E) (l := E) rfl rfl (by simp) rfl) (by repeat' (first | exact TmT.cons rfl (TnS.d _) ?_ | exact trivial | exact F2.nil | refine F2.append ?_ ?_ | refine F2.map fun _ _ => ?_ | refine F2.cons ?_ ?_ | refine TmT.cons rfl ?_ ?_ | exact TnS.d _ | exact TnS.dx _ | exact TnS.dp _ | exact TnS.slc rfl | exact TnS.ptr rfl | refine TnS.frzf rfl (by simp) (by simp) (by simp) ?_ | refine TnS.frz0 rfl (by simp) (by simp) (by simp) ?_ | refine TnS.frzm rfl (by simp) ?_ | exact TnS.mapr rfl | exact TnS.yld rfl | refine ⟨rfl, ?_⟩ | refine TnO.arr ?_ | refine TnO.map ?_ | exact TnO.raw _ | exact TnO.iter _ _ | refine TnS.agg ?_ | refine TnS.tup ?_ | exact TnS.pure (Pure.clo (by assumption) (by assumption)) | refine TnS.clo ?_ ?_ | exact TnS.unk _ | exact TnS.pure (Pure.clo (by assumption) (by assumption))))) .nil)⟩ (.cons ⟨rfl, TnO.arr (by repeat' (first | exact TmT.cons rfl (TnS.d _) ?_ | exact trivial | exact F2.nil | refine F2.append ?_ ?_ | refine F2.map fun _ _ => ?_ | refine F2.cons ?_ ?_ | refine TmT.cons rfl ?_ ?_ | exact TnS.d _ | exact TnS.dx _ | exact TnS.dp _ | exact TnS.slc rfl | exact TnS.ptr rfl | refine TnS.frzf rfl (by simp) (by simp) (by simp) ?_ | refine TnS.frz0 rfl (by simp) (by simp) (by simp) ?_ | refine TnS.frzm rfl (by simp) ?_ | exact TnS.mapr rfl | exact TnS.yld rfl | refine ⟨rfl, ?_⟩ | refine TnO.arr ?_ | refine TnO.map ?_ | exact TnO.raw _ | exact TnO.iter _ _ | refine TnS.agg ?_ | refine TnS.tup ?_ | exact TnS.pure (Pure.clo (by assumption) (by assumption)) | refine TnS.clo ?_ ?_ | exact TnS.unk _ | exact TnS.pure (Pure.clo (by assumption) (by assumption))))⟩ .nil)) (fun _ => rfl)) ?_
    refine Tr.reg [0, 2, 4, 5, 14] (by
        simp only [↓sxd, sxu, ↓zE, ↓exq, St.keep, Nat.reduceBEq, Nat.reduceLT]
        (repeat' (first | rfl | exact trivial | exact fun h => h | exact fun h => (by rw [h]; rfl) | apply And.intro | omega | exact Nat.le_of_ble_eq_true rfl))) ?_
    refine Tr.imp (st' := ⟨[(0, SW ws), (2, .ptr 0 0 0), (4, .ptr 1 0 0), (5, SI (nats o)), (14, I (0 + 1 : Nat))], [(5, .arr 2 (pp [])), (4, .arr 2 (pp [])), (1, .arr 7 [[SE E, .slc 4 2 0 [].length [].length, .slc 5 2 0 [].length [].length, I 0, I 0, I 0, I 0]]), (0, .arr 7 [[.dx [], .dx [], .dx [], I 0, I 0, I 0, I 0]])], 6, 212, [], 0⟩) (Imp.trans (b := ⟨[(0, SW ws), (2, .ptr 0 0 0), (4, .ptr 1 0 0), (5, SI (nats o)), (14, I 1)], [(4, .arr 2 []), (1, .arr 7 [[SE E, .slc 4 2 0 0 0, .dx [], I 0, I 0, I 0, I 0]]), (0, .arr 7 [[.dx [], .dx [], .dx [], I 0, I 0, I 0, I 0]])], 5, 212, [], 0⟩) (Imp.goV 2 rfl rfl rfl rfl (by repeat' (first | exact trivial | exact F2.nil | refine F2.cons ?_ ?_ | refine TmV.cons rfl VnS.nil ?_ | refine TmV.cons rfl VnS.same ?_ | refine ⟨rfl, ?_⟩ | exact VnO.same _ | refine VnO.arr ?_ | exact VnS.nil | exact VnS.same | exact F2.refl fun _ _ => VnS.same)) (by repeat' (first | exact trivial | exact F2.nil | refine F2.cons ?_ ?_ | refine TmV.cons rfl VnS.nil ?_ | refine TmV.cons rfl VnS.same ?_ | refine ⟨rfl, ?_⟩ | exact VnO.same _ | refine VnO.arr ?_ | exact VnS.nil | exact VnS.same | exact F2.refl fun _ _ => VnS.same))) (Imp.goV 2 rfl rfl rfl rfl (by repeat' (first | exact trivial | exact F2.nil | refine F2.cons ?_ ?_ | refine TmV.cons rfl VnS.nil ?_ | refine TmV.cons rfl VnS.same ?_ | refine ⟨rfl, ?_⟩ | exact VnO.same _ | refine VnO.arr ?_ | exact VnS.nil | exact VnS.same | exact F2.refl fun _ _ => VnS.same)) (by repeat' (first | exact trivial | exact F2.nil | refine F2.cons ?_ ?_ | refine TmV.cons rfl VnS.nil ?_ | refine TmV.cons rfl VnS.same ?_ | refine ⟨rfl, ?_⟩ | exact VnO.same _ | refine VnO.arr ?_ | exact VnS.nil | exact VnS.same | exact F2.refl fun _ _ => VnS.same)))) (Tr.block (Tr.loopI (fun mm ss => ∃ (j : Nat) (S A : List Pair), (j ≤ o.length - 1 ∧ pTo ws o j = (S, A)) ∧ o.length - j = mm ∧ ss = ⟨[(0, SW ws), (2, .ptr 0 0 0), (4, .ptr 1 0 0), (5, SI (nats o)), (14, I (j + 1 : Nat))], [(5, .arr 2 (pp A)), (4, .arr 2 (pp S)), (1, .arr 7 [[SE E, .slc 4 2 0 S.length S.length, .slc 5 2 0 A.length A.length, I 0, I 0, I 0, I 0]]), (0, .arr 7 [[.dx [], .dx [], .dx [], I 0, I 0, I 0, I 0]])], 6, 212, [], 0⟩) _ ⟨0, [], [], ?_, rfl, rfl⟩ ?_))
    · exact ⟨Nat.zero_le _, rfl⟩
    rintro mm ss ⟨j, S, A, hI, rfl, rfl⟩
    obtain ⟨hJ, hp⟩ := hI
    have hp5 := pTo_le ws o j
    rw [hp] at hp5
    obtain ⟨hS5, hA5⟩ := hp5
    have hS5 : S.length ≤ 5 := hS5
    have hA5 : A.length ≤ 5 := hA5
    refine Tr.seq ?_
    refine Tr.reg [0, 2, 4, 5, 14, 116] (by
        simp only [↓sxd, sxu, ↓zE, ↓exq, ↓zB, St.keep, ↓zJ, Nat.reduceBEq, Nat.reduceLT, sxe, tysW43_54, nats_len]
        (repeat' (first | rfl | exact trivial | exact fun h => h | exact fun h => (by rw [h]; rfl) | apply And.intro | omega | exact Nat.le_of_ble_eq_true rfl))) ?_
    refine Tr.cond rfl (fun h116 => ?_) (fun h116 => ?_)
    · have hjl : j + 1 < o.length := by have := of_decide_eq_true h116; omega
      obtain ⟨q, hq⟩ : ∃ q, q = wordOf ws (j + 1 + 3) % (j + 1) := ⟨_, rfl⟩
      have hql : q < j + 1 := by rw [hq]; exact Nat.mod_lt _ (by omega)
      have hqo : q < o.length := by omega
      have hne : (((j + 1 : Nat) : Int) = 0) = False := eq_false (by omega)
      have wj3 : IntKind.i64.wrap (((j + 1 : Nat) : Int) + 3) = ((j + 1 + 3 : Nat) : Int) := by rw [wr (by omega) (by omega)]; rfl
      have wj5 : IntKind.i64.wrap (((j + 1 : Nat) : Int) + 5) = ((j + 1 + 5 : Nat) : Int) := by rw [wr (by omega) (by omega)]; rfl
      have hps : pTo ws o (j + 1) = pStep ws o (S, A) (j + 1) := by rw [pTo, hp]
      unfold pStep at hps
      rw [← hq] at hps
      have hps : pTo ws o (j + 1) = if wordOf ws (j + 1 + 5) % 3 > 0 then (S, A) else if o.getD (j + 1) 0 = o.getD q 0 ∧ S.length < 5 then (S ++ [⟨((j + 1 : Nat) : Int), (q : Int)⟩], A) else if o.getD (j + 1) 0 ≠ o.getD q 0 ∧ A.length < 5 then (S, A ++ [⟨((j + 1 : Nat) : Int), (q : Int)⟩]) else (S, A) := hps
      refine Tr.skip ?_
      refine Tr.seq ?_
      refine Tr.block ?_
      refine Tr.reg [0, 2, 4, 5, 14, 15] (by
          simp only [↓sxd, sxu, ↓zE, ↓exq, St.keep, Nat.reduceBEq, Nat.reduceLT, wj3]
          (repeat ((with_reducible refine And.intro ?_ ?_); (focus (first | with_reducible rfl | trivial | exact fun h => h | exact fun h => (by rw [h]; rfl) | omega | assumption))))
          refine CallO.use (word_c ws hw (j + 1 + 3)) ?_
          try simp only [↓sxd, sxu, ↓zE, ↓exq, Nat.reduceBEq, Nat.reduceLT, tmod_n, hne, ← hq]
          (repeat' (first | rfl | exact trivial | exact fun h => h | exact fun h => (by rw [h]; rfl) | apply And.intro | omega | exact Nat.le_of_ble_eq_true rfl))) ?_
      refine Tr.reg [0, 2, 4, 5, 14, 15, 16] (by
          simp only [↓sxd, sxu, ↓zE, ↓exq, St.keep, ↓zM, ↓zO, Nat.reduceBEq, Nat.reduceAdd, Nat.reduceLT, Nat.reduceLeDiff, Nat.reduceEqDiff, tysW43_54]
          (repeat' (first | rfl | exact trivial | exact fun h => h | exact fun h => (by rw [h]; rfl) | apply And.intro | omega | exact Nat.le_of_ble_eq_true rfl))) ?_
      refine Tr.block ?_
      refine Tr.reg [0, 2, 4, 5, 14, 15, 16, 128] (by
          simp only [↓sxd, sxu, ↓zE, ↓exq, St.keep, Nat.reduceBEq, Nat.reduceLT, wj5]
          (repeat ((with_reducible refine And.intro ?_ ?_); (focus (first | with_reducible rfl | trivial | exact fun h => h | exact fun h => (by rw [h]; rfl) | omega | assumption))))
          refine CallO.use (word_c ws hw (j + 1 + 5)) ?_
          try simp only [↓sxd, sxu, ↓zE, ↓exq, Nat.reduceBEq, Nat.reduceLT, tmod3]
          (repeat' (first | rfl | exact trivial | exact fun h => h | exact fun h => (by rw [h]; rfl) | apply And.intro | omega | exact Nat.le_of_ble_eq_true rfl))) ?_
      refine Tr.cond rfl (fun h128 => ?_) (fun h128 => ?_)
      · have h3 : wordOf ws (j + 1 + 5) % 3 > 0 := by have := of_decide_eq_true h128; omega
        rw [if_pos h3] at hps
        refine Tr.skip ?_
        have w4 : IntKind.i64.wrap (((j + 1 : Nat) : Int) + 1) = ((j + 1 + 1 : Nat) : Int) := by rw [wr (by omega) (by omega)]; rfl
        refine Tr.reg1 [0, 2, 4, 5, 14] (by
            simp only [↓sxd, sxu, ↓zE, ↓exq, St.keep, Nat.reduceBEq, Nat.reduceLT, w4]
            (repeat' (first | rfl | exact trivial | exact fun h => h | exact fun h => (by rw [h]; rfl) | apply And.intro | omega | exact Nat.le_of_ble_eq_true rfl))) ?_
        first |(have hz := hqS; exact ⟨_, _, by omega, appendS, ⟨j + 1, S ++ [⟨((j + 1 : Nat) : Int), (q : Int)⟩], A, ⟨by omega, hps⟩, rfl, rfl⟩⟩) |(have hz := hqA; exact ⟨_, _, by omega, appendA, ⟨j + 1, S, A ++ [⟨((j + 1 : Nat) : Int), (q : Int)⟩], ⟨by omega, hps⟩, rfl, rfl⟩⟩) |(exact ⟨_, _, by omega, appendN, ⟨j + 1, S, A, ⟨by omega, hps⟩, rfl, rfl⟩⟩)
      · have h3 : ¬ wordOf ws (j + 1 + 5) % 3 > 0 := by have := of_decide_eq_false h128; omega
        rw [if_neg h3] at hps
        refine Tr.regD [0, 1, 2, 3, 4, 5, 6, 7, 8, 9, 10, 11, 12, 13, 14, 15] [] [] [0, 2, 4, 5, 14, 15, 16, 135] mix (by kernel_rfl) (by
            simp only [↓sxd, sxu, ↓zC, zK, ↓exq, St.keep, ↓zD, Nat.reduceBEq, Nat.reduceLT, sxe, tysW43_54, nats_len, nats_at, hjl, hqo]
            iterate 4
              (repeat ((with_reducible refine And.intro ?_ ?_); (focus (first | with_reducible rfl | trivial | exact fun h => h | exact fun h => (by rw [h]; rfl) | omega | assumption))))
              refine GdD.mk _ (fun hg => by simp only [↓sxd, sxu, ↓exP, ↓exq, ↓zB, ↓zJ, ↓zD, ↓zA, Nat.reduceBEq, Nat.reduceAdd, Nat.reduceLT, Nat.reduceEqDiff, tysW43_54, hg]; (repeat' (first | rfl | exact trivial | exact fun h => h | exact fun h => (by rw [h]; rfl) | apply And.intro | omega | exact Nat.le_of_ble_eq_true rfl))) ?_
              simp only [↓sxd, sxu, ↓zC, zK, ↓exq, ↓zH, Nat.reduceBEq, Nat.reduceLT]
            (repeat' (first | rfl | exact trivial | exact fun h => h | exact fun h => (by rw [h]; rfl) | apply And.intro | omega | exact Nat.le_of_ble_eq_true rfl))) ?_
        refine Tr.cond rfl (fun h135 => ?_) (fun h135 => ?_)
        · have hc : o.getD (j + 1) 0 = o.getD q 0 ∧ S.length < 5 := by
            rw [Bool.and_eq_true, decide_eq_true_eq, beq_iff_eq] at h135; omega
          rw [if_pos hc] at hps
          have hqS : S.length < 5 := hc.2
          have hk7 : (S.length + 1 ≤ 1073741824) = True := eq_true (by omega)
          refine Tr.reg1 [0, 2, 4, 5, 14] (by
              simp only [↓sxd, sxu, ↓zE, ↓exq, ↓zB, St.keep, ↓zD, ↓zG, ↓zQ, ↓zA, Nat.reduceBEq, Nat.reduceAdd, Nat.reduceLT, Nat.reduceLeDiff, Nat.reduceEqDiff, tysW43_54, pp_len, hk7]
              (repeat' (first | rfl | exact trivial | exact fun h => h | exact fun h => (by rw [h]; rfl) | apply And.intro | omega | exact Nat.le_of_ble_eq_true rfl))) ?_
          have w4 : IntKind.i64.wrap (((j + 1 : Nat) : Int) + 1) = ((j + 1 + 1 : Nat) : Int) := by rw [wr (by omega) (by omega)]; rfl
          refine Tr.reg1 [0, 2, 4, 5, 14] (by
              simp only [↓sxd, sxu, ↓zE, ↓exq, St.keep, Nat.reduceBEq, Nat.reduceLT, w4]
              (repeat' (first | rfl | exact trivial | exact fun h => h | exact fun h => (by rw [h]; rfl) | apply And.intro | omega | exact Nat.le_of_ble_eq_true rfl))) ?_
          first |(have hz := hqS; exact ⟨_, _, by omega, appendS, ⟨j + 1, S ++ [⟨((j + 1 : Nat) : Int), (q : Int)⟩], A, ⟨by omega, hps⟩, rfl, rfl⟩⟩) |(have hz := hqA; exact ⟨_, _, by omega, appendA, ⟨j + 1, S, A ++ [⟨((j + 1 : Nat) : Int), (q : Int)⟩], ⟨by omega, hps⟩, rfl, rfl⟩⟩) |(exact ⟨_, _, by omega, appendN, ⟨j + 1, S, A, ⟨by omega, hps⟩, rfl, rfl⟩⟩)
        · have hc : ¬ (o.getD (j + 1) 0 = o.getD q 0 ∧ S.length < 5) := fun hc => by
            rw [hc.1, beq_self_eq_true, Bool.true_and, decide_eq_false_iff_not] at h135; omega
          rw [if_neg hc] at hps
          refine Tr.regD [0, 1, 2, 3, 4, 5, 6, 7, 8, 9, 10, 11, 12, 13, 14, 15] [] [] [0, 2, 4, 5, 14, 16, 157] mix (by kernel_rfl) (by
              simp only [↓sxd, sxu, ↓zC, zK, ↓exq, St.keep, ↓zD, Nat.reduceBEq, Nat.reduceLT, sxe, tysW43_54, nats_len, nats_at, hjl, hqo]
              iterate 4
                (repeat ((with_reducible refine And.intro ?_ ?_); (focus (first | with_reducible rfl | trivial | exact fun h => h | exact fun h => (by rw [h]; rfl) | omega | assumption))))
                refine GdD.mk _ (fun hg => by simp only [↓sxd, sxu, ↓exP, ↓exq, ↓zB, ↓zJ, ↓zD, ↓zA, Nat.reduceBEq, Nat.reduceAdd, Nat.reduceLT, Nat.reduceEqDiff, tysW43_54, hg]; (repeat' (first | rfl | exact trivial | exact fun h => h | exact fun h => (by rw [h]; rfl) | apply And.intro | omega | exact Nat.le_of_ble_eq_true rfl))) ?_
                simp only [↓sxd, sxu, ↓zC, zK, ↓exq, ↓zH, Nat.reduceBEq, Nat.reduceLT]
              (repeat' (first | rfl | exact trivial | exact fun h => h | exact fun h => (by rw [h]; rfl) | apply And.intro | omega | exact Nat.le_of_ble_eq_true rfl))) ?_
          refine Tr.cond rfl (fun h157 => ?_) (fun h157 => ?_)
          · have hd : o.getD (j + 1) 0 ≠ o.getD q 0 ∧ A.length < 5 := by
              rw [Bool.and_eq_true, decide_eq_true_eq, bne_iff_ne] at h157; omega
            rw [if_pos hd] at hps
            have hqA : A.length < 5 := hd.2
            have hk8 : (A.length + 1 ≤ 1073741824) = True := eq_true (by omega)
            refine Tr.reg1 [0, 2, 4, 5, 14] (by
                simp only [↓sxd, sxu, ↓zE, ↓exq, ↓zB, St.keep, ↓zD, ↓zG, ↓zQ, ↓zA, Nat.reduceBEq, Nat.reduceAdd, Nat.reduceLT, Nat.reduceLeDiff, Nat.reduceEqDiff, tysW43_54, pp_len, hk8]
                (repeat' (first | rfl | exact trivial | exact fun h => h | exact fun h => (by rw [h]; rfl) | apply And.intro | omega | exact Nat.le_of_ble_eq_true rfl))) ?_
            have w4 : IntKind.i64.wrap (((j + 1 : Nat) : Int) + 1) = ((j + 1 + 1 : Nat) : Int) := by rw [wr (by omega) (by omega)]; rfl
            refine Tr.reg1 [0, 2, 4, 5, 14] (by
                simp only [↓sxd, sxu, ↓zE, ↓exq, St.keep, Nat.reduceBEq, Nat.reduceLT, w4]
                (repeat' (first | rfl | exact trivial | exact fun h => h | exact fun h => (by rw [h]; rfl) | apply And.intro | omega | exact Nat.le_of_ble_eq_true rfl))) ?_
            first |(have hz := hqS; exact ⟨_, _, by omega, appendS, ⟨j + 1, S ++ [⟨((j + 1 : Nat) : Int), (q : Int)⟩], A, ⟨by omega, hps⟩, rfl, rfl⟩⟩) |(have hz := hqA; exact ⟨_, _, by omega, appendA, ⟨j + 1, S, A ++ [⟨((j + 1 : Nat) : Int), (q : Int)⟩], ⟨by omega, hps⟩, rfl, rfl⟩⟩) |(exact ⟨_, _, by omega, appendN, ⟨j + 1, S, A, ⟨by omega, hps⟩, rfl, rfl⟩⟩)
          · have hd : ¬ (o.getD (j + 1) 0 ≠ o.getD q 0 ∧ A.length < 5) := fun hd => by
              have h1 : (((o.getD (j + 1) 0 : Nat) : Int) != ((o.getD q 0 : Nat) : Int)) = true := by rw [bne_iff_ne]; omega
              rw [h1, Bool.true_and, decide_eq_false_iff_not] at h157; omega
            rw [if_neg hd] at hps
            refine Tr.skip ?_
            have w4 : IntKind.i64.wrap (((j + 1 : Nat) : Int) + 1) = ((j + 1 + 1 : Nat) : Int) := by rw [wr (by omega) (by omega)]; rfl
            refine Tr.reg1 [0, 2, 4, 5, 14] (by
                simp only [↓sxd, sxu, ↓zE, ↓exq, St.keep, Nat.reduceBEq, Nat.reduceLT, w4]
                (repeat' (first | rfl | exact trivial | exact fun h => h | exact fun h => (by rw [h]; rfl) | apply And.intro | omega | exact Nat.le_of_ble_eq_true rfl))) ?_
            first |(have hz := hqS; exact ⟨_, _, by omega, appendS, ⟨j + 1, S ++ [⟨((j + 1 : Nat) : Int), (q : Int)⟩], A, ⟨by omega, hps⟩, rfl, rfl⟩⟩) |(have hz := hqA; exact ⟨_, _, by omega, appendA, ⟨j + 1, S, A ++ [⟨((j + 1 : Nat) : Int), (q : Int)⟩], ⟨by omega, hps⟩, rfl, rfl⟩⟩) |(exact ⟨_, _, by omega, appendN, ⟨j + 1, S, A, ⟨by omega, hps⟩, rfl, rfl⟩⟩)
    · have hje : j = o.length - 1 := by have := of_decide_eq_false h116; omega
      subst hje
      refine Tr.exit ?_
      obtain ⟨ms, hms⟩ : ∃ ms, ms = wordOf ws 2 % 7 := ⟨_, rfl⟩
      have hm7 : ms < 7 := by rw [hms]; exact Nat.mod_lt _ (by omega)
      have hM : missedW ws = ms := hms.symm
      have hcn := countTo_le o o.length
      obtain ⟨cn, hcd⟩ : ∃ cn, cn = countTo o o.length := ⟨_, rfl⟩
      rw [← hcd] at hcn
      have hTot : totalW ws = ms + cn := by unfold totalW; rw [hM, hV, hcd]
      have m1 : IntKind.i64.wrap ((ms : Int) - ((ms % 3 : Nat) : Int)) = ((ms - ms % 3 : Nat) : Int) := by rw [wr (by omega) (by omega)]; omega
      have m2 : IntKind.i64.wrap ((ms : Int) + ((wordOf ws 1 % 4 : Nat) : Int)) = ((ms + wordOf ws 1 % 4 : Nat) : Int) := by rw [wr (by omega) (by omega)]; rfl
      have m3 : IntKind.i64.wrap ((ms : Int) + (cn : Int)) = ((ms + cn : Nat) : Int) := by rw [wr (by omega) (by omega)]; rfl
      have m4 : IntKind.i64.wrap (((ms + cn : Nat) : Int) - ((wordOf ws 4 % 4 : Nat) : Int)) = ((ms + cn : Nat) : Int) - ((wordOf ws 4 % 4 : Nat) : Int) := wr (by omega) (by omega)
      have m5 : IntKind.i64.wrap (((ms + cn : Nat) : Int) + ((wordOf ws 6 % 3 : Nat) : Int)) = ((ms + cn + wordOf ws 6 % 3 : Nat) : Int) := by rw [wr (by omega) (by omega)]; rfl
      have hC : trulyC ws = ⟨E, S, A, ⟨((ms - ms % 3 : Nat) : Int), ((ms + wordOf ws 1 % 4 : Nat) : Int)⟩, ⟨max 0 (((ms + cn : Nat) : Int) - ((wordOf ws 4 % 4 : Nat) : Int)), ((ms + cn + wordOf ws 6 % 3 : Nat) : Int)⟩⟩ := by
        unfold trulyC
        rw [hE, hV, hM, hTot, hp]
      refine Tr.reg [0, 2, 4, 5, 17] (by
          simp only [↓sxd, sxu, ↓zE, ↓exq, St.keep, Nat.reduceLT]
          (repeat ((with_reducible refine And.intro ?_ ?_); (focus (first | with_reducible rfl | trivial | exact fun h => h | exact fun h => (by rw [h]; rfl) | omega | assumption))))
          refine CallO.use (word_c ws hw 2) ?_
          try simp only [↓sxd, sxu, ↓zE, ↓exq, Nat.reduceBEq, Nat.reduceLT, tmod7]
          (repeat' (first | rfl | exact trivial | exact fun h => h | exact fun h => (by rw [h]; rfl) | apply And.intro | omega | exact Nat.le_of_ble_eq_true rfl))) ?_
      refine Tr.reg [0, 2, 4, 5, 17] (by
          simp only [↓sxd, sxu, ↓zE, ↓exq, St.keep, Nat.reduceBEq, Nat.reduceLT, ← hms, tmod3, m1]
          (repeat ((with_reducible refine And.intro ?_ ?_); (focus (first | with_reducible rfl | trivial | exact fun h => h | exact fun h => (by rw [h]; rfl) | omega | assumption))))
          refine CallO.use (word_c ws hw 1) ?_
          try simp only [↓sxd, sxu, ↓zE, ↓exq, ↓zO, ↓zA, Nat.reduceBEq, Nat.reduceAdd, Nat.reduceLT, Nat.reduceLeDiff, Nat.reduceEqDiff, tysW43_54, m2, tmod4]
          (repeat' (first | rfl | exact trivial | exact fun h => h | exact fun h => (by rw [h]; rfl) | apply And.intro | omega | exact Nat.le_of_ble_eq_true rfl))) ?_
      refine Tr.reg [0, 2, 4, 5, 18] (by
          simp only [↓sxd, sxu, ↓zE, ↓exq, St.keep, Nat.reduceBEq, Nat.reduceLT]
          (repeat ((with_reducible refine And.intro ?_ ?_); (focus (first | with_reducible rfl | trivial | exact fun h => h | exact fun h => (by rw [h]; rfl) | omega | assumption))))
          refine CallO.use (persons_count o (by omega)) ?_
          try simp only [↓sxd, sxu, ↓zE, ↓exq, Nat.reduceBEq, Nat.reduceLT, m3, ← hcd]
          (repeat' (first | rfl | exact trivial | exact fun h => h | exact fun h => (by rw [h]; rfl) | apply And.intro | omega | exact Nat.le_of_ble_eq_true rfl))) ?_
      refine Tr.reg [2, 4, 5] (by
          simp only [↓sxd, sxu, ↓zE, ↓exq, St.keep, Nat.reduceBEq, Nat.reduceLT]
          (repeat ((with_reducible refine And.intro ?_ ?_); (focus (first | with_reducible rfl | trivial | exact fun h => h | exact fun h => (by rw [h]; rfl) | omega | assumption))))
          refine CallO.use (word_c ws hw 4) ?_
          try simp only [↓sxd, sxu, ↓zE, ↓exq, ↓zB, Nat.reduceBEq, Nat.reduceLT, tmod4, m4]
          (repeat ((with_reducible refine And.intro ?_ ?_); (focus (first | with_reducible rfl | trivial | exact fun h => h | exact fun h => (by rw [h]; rfl) | omega | assumption))))
          refine CallO.use (word_c ws hw 6) ?_
          try simp only [↓sxd, sxu, ↓zE, ↓exq, ↓zO, ↓zA, Nat.reduceBEq, Nat.reduceAdd, Nat.reduceLT, Nat.reduceLeDiff, Nat.reduceEqDiff, tysW43_54, tmod3, m5]
          (repeat' (first | rfl | exact trivial | exact fun h => h | exact fun h => (by rw [h]; rfl) | apply And.intro | omega | exact Nat.le_of_ble_eq_true rfl))) ?_
      refine Tr.reg [2, 3] (by
          simp only [↓sxd, sxu, ↓zE, ↓exq, St.keep, ↓zD, Nat.reduceBEq, Nat.reduceAdd, Nat.reduceLT, Nat.reduceEqDiff, tysW43_54]
          (repeat' (first | rfl | exact trivial | exact fun h => h | exact fun h => (by rw [h]; rfl) | apply And.intro | omega | exact Nat.le_of_ble_eq_true rfl))) ?_
      rw [hC, hV]
      refine Tr.imp (st' := ⟨[(2, .ptr 0 0 0), (3, SI (nats o))], [(0, .arr 7 [[SE E, SP S, SP A, I ((ms - ms % 3 : Nat) : Int), I ((ms + wordOf ws 1 % 4 : Nat) : Int), I (max 0 (((ms + cn : Nat) : Int) - ((wordOf ws 4 % 4 : Nat) : Int))), I ((ms + cn + wordOf ws 6 % 3 : Nat) : Int)]])], 6, 212, [], 0⟩) (Imp.go (fun i => i) [(0, .arr 7 [[SE E, .slc 4 2 0 S.length S.length, .slc 5 2 0 A.length A.length, I ((ms - ms % 3 : Nat) : Int), I ((ms + wordOf ws 1 % 4 : Nat) : Int), I (max 0 (((ms + cn : Nat) : Int) - ((wordOf ws 4 % 4 : Nat) : Int))), I ((ms + cn + wordOf ws 6 % 3 : Nat) : Int)]])] rfl rfl (.cons _ (.cons _ (.cons _ (.refl _)))) (fun _ _ => rfl) (fun _ h => h) (.cons rfl (TnS.ptr rfl) (.cons rfl (TnS.d _) trivial)) (.cons ⟨rfl, TnO.arr (.cons (.cons (TnS.d _) (.cons (pfz (id := 4) (l := S) rfl rfl (by simp) rfl) (.cons (pfz (id := 5) (l := A) rfl rfl (by simp) rfl) (.cons (TnS.d _) (.cons (TnS.d _) (.cons (TnS.d _) (.cons (TnS.d _) .nil))))))) .nil)⟩ .nil) (fun _ => rfl)) ?_
      refine Tr.ret ?_
      (refine ⟨.inr rfl, ?_⟩; first | rfl | exact ⟨rfl, rfl, trivial⟩ | exact ⟨rfl, rfl, rfl, trivial⟩ | (simp only [Res, ResL, ResOK, sxu, ↓zD, Nat.reduceBEq, Nat.reduceAdd, Nat.reduceLT, tysW43_54]; (repeat' (first | rfl | exact trivial | exact fun h => h | exact fun h => (by rw [h]; rfl) | apply And.intro | omega | exact Nat.le_of_ble_eq_true rfl))))
end Go.Proofs.YtcnkbdfkjhlbiaaDoor
namespace Go.Proofs.YtcnkbdfkjhlbiaaDoor
set_option maxRecDepth 8000
structure TInv (x : List Entry × List Nat) : Prop where
  len : x.1.length = x.2.length
  p5 : ∀ j, j < x.2.length → x.2.getD j 0 < 5
  val : ∀ e ∈ x.1, Entry.valid e = true
  kind : ∀ j, j < x.2.length → (x.1.getD j default).sex = ((x.2.getD j 0 % 2 : Nat) : Int) ∧ (x.1.getD j default).key = ((x.2.getD j 0 / 3 : Nat) : Int) ∧ (x.1.getD j default).ages.lo ≤ (x.1.getD j default).ages.hi
  same : ∀ j k, j < k → k < x.2.length → x.2.getD j 0 = x.2.getD k 0 → (x.1.getD j default).sched ≠ (x.1.getD k default).sched ∧ (x.1.getD j default).ages.lo = (x.1.getD k default).ages.lo
theorem freeTo_at {E : List Entry} {o : List Nat} {p s k : Nat} (h : freeTo E o p s k = true) {j : Nat} (hj : j < k) (ho : o.getD j 0 = p) : (E.getD j default).sched ≠ (s : Int) := by
  unfold freeTo at h
  have := List.all_eq_true.1 h j (List.mem_range.2 hj)
  rw [ho] at this
  simpa using this
theorem ageTo_at {x : List Entry × List Nat} (hs : ∀ j k, j < k → k < x.2.length → x.2.getD j 0 = x.2.getD k 0 → (x.1.getD j default).ages.lo = (x.1.getD k default).ages.lo) {p a0 : Nat} : ∀ n, n ≤ x.2.length → ∀ j, j < n → x.2.getD j 0 = p → (x.1.getD j default).ages.lo = ageTo x.1 x.2 p a0 n
  | 0, _, j, hj, _ => absurd hj (Nat.not_lt_zero _)
  | n + 1, hn, j, hj, hp => by
    rw [ageTo]
    by_cases hq : x.2.getD n 0 = p
    · rw [if_pos hq]
      by_cases hjn : j = n
      · rw [hjn]
      · exact hs j n (by omega) (by omega) (by rw [hp, hq])
    · rw [if_neg hq]
      have hjn : j ≠ n := fun hc => hq (by rw [← hc]; exact hp)
      exact ageTo_at hs n (by omega) j (by omega) hp
theorem TInv.step {x : List Entry × List Nat} (h : TInv x) {i : Nat} (hok : TOk i x) (w : Nat) : TInv (tStep x w) := by
  unfold tStep
  split
  · rename_i hfr
    have hl : ∀ j, j < x.2.length → (x.1 ++ [newE x.1 x.2 w]).getD j default = x.1.getD j default := fun j hj => getD_app_l (by rw [h.len]; exact hj)
    have hl2 : ∀ j, j < x.2.length → (x.2 ++ [w % 5]).getD j 0 = x.2.getD j 0 := fun j hj => getD_app_l hj
    have hr : (x.1 ++ [newE x.1 x.2 w]).getD x.2.length default = newE x.1 x.2 w := by rw [← h.len, getD_app_r (Nat.le_refl _), Nat.sub_self]; rfl
    have hr2 : (x.2 ++ [w % 5]).getD x.2.length 0 = w % 5 := by rw [getD_app_r (Nat.le_refl _), Nat.sub_self]; rfl
    have hage := age_bd (E := x.1) (o := x.2) (p := w % 5) (a0 := 30 + w % 5 * w / 64 % 2) (by omega) x.2.length hok.age
    refine ⟨by simp [h.len], fun j hj => ?_, fun e he => ?_, fun j hj => ?_, fun j k hjk hk he => ?_⟩
    · show (x.2 ++ [w % 5]).getD j 0 < 5
      by_cases hjl : j < x.2.length
      · rw [hl2 j hjl]; exact h.p5 j hjl
      · have hj : j < (x.2 ++ [w % 5]).length := hj
        have : j = x.2.length := by simp at hj; omega
        rw [this, hr2]; omega
    · rcases List.mem_append.1 he with he | he
      · exact h.val e he
      · rw [List.mem_singleton] at he
        subst he
        have e1 : w / 5 % 10 < 10 := Nat.mod_lt _ (by omega)
        have e2 : w % 5 % 2 < 2 := Nat.mod_lt _ (by omega)
        have e3 : w % 5 / 3 < 5 := by omega
        have e4 : w / 128 % 3 < 3 := Nat.mod_lt _ (by omega)
        simp only [Entry.valid, Rng.valid, within, newE, Bool.and_eq_true]
        refine ⟨⟨⟨⟨?_, ?_⟩, ?_, ?_⟩, ?_, ?_⟩, ⟨?_, ?_⟩, ?_⟩ <;> exact decide_eq_true (by omega)
    · show ((x.1 ++ [newE x.1 x.2 w]).getD j default).sex = (((x.2 ++ [w % 5]).getD j 0 % 2 : Nat) : Int) ∧ ((x.1 ++ [newE x.1 x.2 w]).getD j default).key = (((x.2 ++ [w % 5]).getD j 0 / 3 : Nat) : Int) ∧ ((x.1 ++ [newE x.1 x.2 w]).getD j default).ages.lo ≤ ((x.1 ++ [newE x.1 x.2 w]).getD j default).ages.hi
      by_cases hjl : j < x.2.length
      · rw [hl j hjl, hl2 j hjl]; exact h.kind j hjl
      · have hj : j < (x.2 ++ [w % 5]).length := hj
        have : j = x.2.length := by simp at hj; omega
        rw [this, hr, hr2]
        refine ⟨rfl, rfl, ?_⟩
        simp only [newE]; omega
    · have hk : k < (x.2 ++ [w % 5]).length := hk
      have hk2 : k < x.2.length + 1 := by simpa using hk
      have hjl : j < x.2.length := by omega
      have he : (x.2 ++ [w % 5]).getD j 0 = (x.2 ++ [w % 5]).getD k 0 := he
      show ((x.1 ++ [newE x.1 x.2 w]).getD j default).sched ≠ ((x.1 ++ [newE x.1 x.2 w]).getD k default).sched ∧ ((x.1 ++ [newE x.1 x.2 w]).getD j default).ages.lo = ((x.1 ++ [newE x.1 x.2 w]).getD k default).ages.lo
      by_cases hkl : k < x.2.length
      · rw [hl j hjl, hl k hkl]
        rw [hl2 j hjl, hl2 k hkl] at he
        exact h.same j k hjk hkl he
      · have : k = x.2.length := by omega
        subst this
        rw [hl j hjl, hr]
        rw [hl2 j hjl, hr2] at he
        exact ⟨freeTo_at hfr hjl he, ageTo_at (fun j k a b c => (h.same j k a b c).2) _ (Nat.le_refl _) j hjl he⟩
  · exact h
theorem tTo_inv (ws : List Nat) : ∀ i, TInv (tTo ws i)
  | 0 => ⟨rfl, fun j hj => absurd hj (Nat.not_lt_zero _), fun e he => (by cases he), fun j hj => absurd hj (Nat.not_lt_zero _), fun j k _ hk => absurd hk (Nat.not_lt_zero _)⟩
  | i + 1 => (tTo_inv ws i).step (tTo_ok ws i) _
theorem pTo_ok (ws o : List Nat) : ∀ n, (∀ p ∈ (pTo ws o n).1, ∃ i k : Nat, p = ⟨i, k⟩ ∧ k < i ∧ i ≤ n ∧ o.getD i 0 = o.getD k 0) ∧ (∀ p ∈ (pTo ws o n).2, ∃ i k : Nat, p = ⟨i, k⟩ ∧ k < i ∧ i ≤ n ∧ o.getD i 0 ≠ o.getD k 0)
  | 0 => ⟨fun p hp => (by cases hp), fun p hp => (by cases hp)⟩
  | n + 1 => by
    obtain ⟨h1, h2⟩ := pTo_ok ws o n
    have w1 : ∀ p ∈ (pTo ws o n).1, ∃ i k : Nat, p = ⟨i, k⟩ ∧ k < i ∧ i ≤ n + 1 ∧ o.getD i 0 = o.getD k 0 := fun p hp => by
      obtain ⟨i, k, a, b, c, d⟩ := h1 p hp; exact ⟨i, k, a, b, by omega, d⟩
    have w2 : ∀ p ∈ (pTo ws o n).2, ∃ i k : Nat, p = ⟨i, k⟩ ∧ k < i ∧ i ≤ n + 1 ∧ o.getD i 0 ≠ o.getD k 0 := fun p hp => by
      obtain ⟨i, k, a, b, c, d⟩ := h2 p hp; exact ⟨i, k, a, b, by omega, d⟩
    have hq : wordOf ws (n + 1 + 3) % (n + 1) < n + 1 := Nat.mod_lt _ (by omega)
    rw [pTo]
    generalize pTo ws o n = x at w1 w2
    unfold pStep
    split
    · exact ⟨w1, w2⟩
    · split
      · rename_i hc
        refine ⟨fun p hp => ?_, w2⟩
        rcases List.mem_append.1 hp with hp | hp
        · exact w1 p hp
        · rw [List.mem_singleton] at hp
          exact ⟨n + 1, _, hp, hq, Nat.le_refl _, hc.1⟩
      · split
        · rename_i hc
          refine ⟨w1, fun p hp => ?_⟩
          rcases List.mem_append.1 hp with hp | hp
          · exact w2 p hp
          · rw [List.mem_singleton] at hp
            exact ⟨n + 1, _, hp, hq, Nat.le_refl _, hc.1⟩
        · exact ⟨w1, w2⟩
theorem count_dist (v : List Nat) : ∀ n, countTo v n = (dist (fn v) n).length
  | 0 => rfl
  | n + 1 => by
    rw [countTo, count_dist v n]
    have hf : firstAt v n n = true ↔ ¬ fn v n ∈ dist (fn v) n := by
      rw [mem_dist]
      unfold firstAt
      rw [List.all_eq_true]
      constructor
      · rintro h ⟨i, hi, he⟩
        have := h i (List.mem_range.2 hi)
        rw [bne_iff_ne] at this
        exact this he
      · intro h i hi
        rw [bne_iff_ne]
        exact fun he => h ⟨i, List.mem_range.1 hi, he⟩
    rw [dist]
    by_cases hm : fn v n ∈ dist (fn v) n
    · rw [if_pos hm, if_neg (fun hc => (hf.1 hc) hm)]; rfl
    · rw [if_neg hm, if_pos (hf.2 hm), List.length_append]; rfl
structure EveryOk (c : Census) (v : List Nat) : Prop where
  fine : Fine c
  len : v.length = c.entries.length
  pers : ∃ P O, c.personsS = (P, O, 0) ∧ P.lo ≤ countTo v v.length ∧ (countTo v v.length : Int) ≤ P.hi ∧ c.omitted.lo ≤ O.lo ∧ O.hi ≤ c.omitted.hi ∧ O.lo ≤ O.hi
  tog : ∀ i k : Nat, i < v.length → k < v.length → ∃ can must, c.together i k = (can, must, 0) ∧ (v.getD i 0 = v.getD k 0 → can = true) ∧ (v.getD i 0 ≠ v.getD k 0 → must = false) ∧ (must = true → can = true)
theorem truly_law (ws : List Nat) : EveryOk (trulyC ws) (trulyV ws) := by
  have hti := tTo_inv ws (min ws.length 9)
  have hto := tTo_ok ws (min ws.length 9)
  have hE : trulyE ws = (tTo ws (min ws.length 9)).1 := rfl
  have hV : trulyV ws = (tTo ws (min ws.length 9)).2 := rfl
  have hle := hto.le
  rw [← hV] at hle
  obtain ⟨i1, i2, i3, i4, i5⟩ := hti
  rw [← hE, ← hV] at i1
  rw [← hV] at i2
  rw [← hE] at i3
  rw [← hE, ← hV] at i4 i5
  obtain ⟨p1, p2⟩ := pTo_ok ws (trulyV ws) ((trulyV ws).length - 1)
  obtain ⟨q1, q2⟩ := pTo_le ws (trulyV ws) ((trulyV ws).length - 1)
  have hC : trulyC ws = ⟨trulyE ws, (pTo ws (trulyV ws) ((trulyV ws).length - 1)).1, (pTo ws (trulyV ws) ((trulyV ws).length - 1)).2, ⟨((missedW ws - missedW ws % 3 : Nat) : Int), ((missedW ws + wordOf ws 1 % 4 : Nat) : Int)⟩, ⟨max 0 ((totalW ws : Int) - ((wordOf ws 4 % 4 : Nat) : Int)), ((totalW ws + wordOf ws 6 % 3 : Nat) : Int)⟩⟩ := rfl
  have hms : missedW ws < 7 := Nat.mod_lt _ (by omega)
  have htot : totalW ws = missedW ws + countTo (trulyV ws) (trulyV ws).length := rfl
  have hct := countTo_le (trulyV ws) (trulyV ws).length
  generalize pTo ws (trulyV ws) ((trulyV ws).length - 1) = SA at p1 p2 q1 q2 hC
  obtain ⟨S, A⟩ := SA
  have q1 : S.length ≤ 5 := q1
  have q2 : A.length ≤ 5 := q2
  generalize trulyV ws = v at *
  generalize trulyE ws = E at *
  generalize missedW ws = ms at *
  generalize totalW ws = tot at *
  generalize trulyC ws = c at *
  have hce : c.entries = E := by rw [hC]
  have hcn : c.entries.length = v.length := by rw [hce, i1]
  have hentry : ∀ i, c.entry i = E.getD i default := fun i => by unfold Census.entry; rw [hce]
  have hf : Fine c := by
    refine ⟨by rw [hcn]; omega, by rw [hC]; show S.length ≤ 6; have := q1; omega, by rw [hC]; show A.length ≤ 6; have := q2; omega, by rw [hce]; exact i3, fun p hp => ?_, fun p hp => ?_, by rw [hC]; dsimp only; omega, by rw [hC]; dsimp only; omega⟩
    · rw [hC] at hp
      obtain ⟨i, k, rfl, h1, h2, _⟩ := p1 p hp
      rw [pair_iff, hcn]; dsimp only; omega
    · rw [hC] at hp
      obtain ⟨i, k, rfl, h1, h2, _⟩ := p2 p hp
      rw [pair_iff, hcn]; dsimp only; omega
  have hfits : ∀ i k, i < k → k < v.length → v.getD i 0 = v.getD k 0 → (c.entry i).fits (c.entry k) = true := fun i k hik hk he => by
    obtain ⟨a1, a2⟩ := i5 i k hik hk he
    obtain ⟨b1, b2, b3⟩ := i4 i (by omega)
    obtain ⟨d1, d2, d3⟩ := i4 k hk
    rw [hentry, hentry]
    unfold Entry.fits
    rw [he] at b1 b2
    simp only [Bool.and_eq_true, bne_iff_ne, ne_eq, beq_iff_eq, decide_eq_true_eq]
    exact ⟨⟨⟨a1, by rw [b1, d1]⟩, by rw [b2, d2]⟩, by omega⟩
  have hal : Allow c (fn v) := by
    refine ⟨fun i k hi hk hik he => ?_, fun p hp => ?_, fun p hp => ?_⟩
    · rw [hcn] at hi hk
      rcases Nat.lt_or_gt_of_ne hik with h | h
      · exact hfits i k h hk he
      · rw [Efits_comm]; exact hfits k i h hi he.symm
    · rw [hC] at hp
      obtain ⟨i, k, rfl, _, _, h⟩ := p1 p hp
      exact h
    · rw [hC] at hp
      obtain ⟨i, k, rfl, _, _, h⟩ := p2 p hp
      exact h
  have hsum : Sums c (countTo v v.length) := by
    refine ⟨(ms : Int), ?_, ?_, ?_, ?_⟩ <;> rw [hC] <;> dsimp only <;> omega
  have hsem : Sem c (countTo v v.length) := ⟨fn v, hal, by rw [hcn, count_dist]; exact dist_exact (fn v) v.length⟩
  have hcons : c.cons = true := (cons_iff hf.pairs hf.n10 hf.lims).2 ⟨_, hsem, hsum⟩
  have hpr := (pers_iff hf.pairs hf.n10 hf.lims).1 ⟨hsem, hsum⟩
  obtain ⟨k0, s1, s2, s3, s4⟩ := hsum
  refine ⟨hf, hcn.symm, ⟨_, _, personsS_yes hf hcons, hpr.1, hpr.2, ?_, ?_, ?_⟩, fun i k hi hk => ?_⟩
  · simp only [Rng.cut]; omega
  · simp only [Rng.cut]; omega
  · simp only [Rng.cut]; omega
  · have ht : c.tried true = 0 := by rw [fine_tried hf, hcons]; rfl
    have hbo : c.both i k = true := fine_both (by rw [hcn]; exact hi) (by rw [hcn]; exact hk)
    have hlaw := together_law (c := c) (a := i) (b := k) (by rw [hbo]; exact ht)
    have hmem : canon (fn v) c.entries.length ∈ c.all := (mem_all hf.lims).2 ⟨canon_len _ _, canon_rgs _ _, hal.congr hf.pairs fun i k hi hk => (canon_same (fn v) hi hk).symm, by
      rw [canon_many, hcn, ← count_dist]; exact ⟨k0, s1, s2, s3, s4⟩⟩
    have hsm := canon_same (fn v) (n := c.entries.length) (i := i) (k := k) (by rw [hcn]; exact hi) (by rw [hcn]; exact hk)
    refine ⟨_, _, hlaw, fun he => ?_, fun hne => ?_, fun hm => ?_⟩
    · unfold someOf
      rw [List.any_eq_true]
      exact ⟨_, hmem, by rw [beq_iff_eq]; exact hsm.2 he⟩
    · rw [← Bool.not_eq_true]
      intro hc
      have := List.all_eq_true.1 hc _ hmem
      rw [beq_iff_eq] at this
      exact hne (hsm.1 this)
    · have := List.all_eq_true.1 hm _ hmem
      unfold someOf
      rw [List.any_eq_true]
      exact ⟨_, hmem, this⟩
end Go.Proofs.YtcnkbdfkjhlbiaaDoor
namespace Go.Proofs.YtcnkbdfkjhlbiaaDoor
open Go.Sy
set_option maxRecDepth 8000
abbrev tysW44_14 := And.intro ty.sz0 <| And.intro ty.agg0 <| And.intro ty.elem0 <| And.intro ty.sz3 <| And.intro ty.agg3 <| And.intro ty.elem3 <| And.intro ty.zero3 <| And.intro ty.und3 <| And.intro ty.sz4 <| And.intro ty.agg4 <| And.intro ty.elem4 <| And.intro ty.zero4 <| And.intro ty.und4 <| And.intro ty.sz25 <| And.intro ty.agg25 <| And.intro ty.fld25_0 <| And.intro ty.fld25_1 <| And.intro ty.elem25 <| And.intro ty.zero25 <| And.intro ty.pl25 <| And.intro ty.sz27 <| And.intro ty.agg27 <| And.intro ty.fld27_0 <| And.intro ty.fld27_1 <| And.intro ty.fld27_2 <| And.intro ty.fld27_3 <| And.intro ty.fld27_4 <| And.intro ty.elem27 <| And.intro ty.zero27 <| And.intro ty.pl27 <| And.intro ty.sz30 <| And.intro ty.agg30 <| And.intro ty.fld30_0 <| And.intro ty.fld30_1 <| And.intro ty.elem30 <| And.intro ty.zero30 <| And.intro ty.pl30 <| And.intro ty.sz31 <| And.intro ty.agg31 <| And.intro ty.elem31 <| And.intro ty.zero31 <| And.intro ty.und31 <| And.intro ty.sz32 <| And.intro ty.agg32 <| And.intro ty.elem32 <| And.intro ty.sz37 <| And.intro ty.agg37 <| And.intro ty.fld37_0 <| And.intro ty.fld37_1 <| And.intro ty.fld37_2 <| And.intro ty.fld37_3 <| And.intro ty.fld37_4 <| And.intro ty.elem37 <| And.intro ty.zero37 <| And.intro ty.pl37 <| And.intro ty.sz43 <| And.intro ty.agg43 <| And.intro ty.elem43 <| And.intro ty.by43 <| And.intro ty.ez43 <| And.intro ty.zero43 <| And.intro ty.und43 <| And.intro ty.sz79 <| And.intro ty.agg79 <| And.intro ty.elem79 <| And.intro ty.by79 <| And.intro ty.ez79 <| And.intro ty.zero79 <| And.intro ty.und79 <| And.intro ty.sz91 <| And.intro ty.agg91 <| And.intro ty.elem91 <| And.intro ty.sz94 <| And.intro ty.agg94 <| ty.elem94
set_option maxHeartbeats 4000000 in
theorem SheetEvery_c (ws : List Nat) (hw : ∀ n ∈ ws, n < 65536) : CallP Tryd.prog G0 14 [SW ws] (B true) := by
  have hT := Truly_c ws hw
  have hlaw := truly_law ws
  have hv9 : (trulyV ws).length ≤ 9 := by have := (tTo_ok ws (min ws.length 9)).le; unfold trulyV; omega
  generalize trulyC ws = c at hT hlaw
  generalize trulyV ws = v at hT hlaw hv9
  obtain ⟨hf, hvl, ⟨P, O, hpe, q1, q2, q3, q4, q5⟩, htog⟩ := hlaw
  have hsm := fine_small hf
  have hP := PersonsF_c c hf
  rw [hpe] at hP
  obtain ⟨cn, hcn⟩ : ∃ cn, cn = countTo v v.length := ⟨_, rfl⟩
  rw [← hcn] at q1 q2
  refine CallP.body 125 [.tmp 2] Tryd.func14 (by kernel_rfl) rfl rfl rfl (by repeat' (first | exact Pure.d _ | exact Pure.dx _ | exact Pure.dp _ | exact fa_nil | refine fa_cons ?_ ?_ | refine Pure.agg ?_ | refine Pure.tup ?_ | refine Pure.clo ?_ ?_ | refine Pure.fp ?_ | exact Pure.mapd _ | assumption)) (by repeat' (first | exact Pure.d _ | exact Pure.dx _ | exact Pure.dp _ | exact fa_nil | refine fa_cons ?_ ?_ | refine Pure.agg ?_ | refine Pure.tup ?_ | refine Pure.clo ?_ ?_ | refine Pure.fp ?_ | exact Pure.mapd _ | assumption)) ?_
  refine Tr.reg [0] (by
      simp only [↓sxd, sxu, ↓zE, ↓exq, St.keep, Nat.reduceBEq, Nat.reduceLT]
      (repeat' (first | rfl | exact trivial | exact fun h => h | exact fun h => (by rw [h]; rfl) | apply And.intro | omega | exact Nat.le_of_ble_eq_true rfl))) ?_
  refine Tr.reg [3, 4] (by
      simp only [↓sxd, sxu, ↓zE, ↓exq, St.keep, Nat.reduceLT]
      (repeat ((with_reducible refine And.intro ?_ ?_); (focus (first | with_reducible rfl | trivial | exact fun h => h | exact fun h => (by rw [h]; rfl) | omega | assumption))))
      refine CallO.use (hT) ?_
      try simp only [↓sxd, sxu, ↓zE, ↓exq, ↓zN, ↓zM, Nat.reduceBEq, Nat.reduceAdd, Nat.reduceLT, Nat.reduceEqDiff, tysW44_14]
      (repeat' (first | rfl | exact trivial | exact fun h => h | exact fun h => (by rw [h]; rfl) | apply And.intro | omega | exact Nat.le_of_ble_eq_true rfl))) ?_
  refine Tr.reg [3, 4, 5, 6, 7] (by
      simp only [↓sxd, sxu, ↓zE, ↓exq, St.keep, ↓zD, Nat.reduceAdd, Nat.reduceLT, tysW44_14]
      (repeat ((with_reducible refine And.intro ?_ ?_); (focus (first | with_reducible rfl | trivial | exact fun h => h | exact fun h => (by rw [h]; rfl) | omega | assumption))))
      refine CallO.use (lCensus_c c hsm) ?_
      try simp only [↓sxd, sxu, ↓zE, Nat.reduceLT]
      (repeat ((with_reducible refine And.intro ?_ ?_); (focus (first | with_reducible rfl | trivial | exact fun h => h | exact fun h => (by rw [h]; rfl) | omega | assumption))))
      refine CallO.use (hP) ?_
      try simp only [↓sxd, sxu, ↓zE, ↓exq, ↓zN, ↓zM, Nat.reduceBEq, Nat.reduceAdd, Nat.reduceLT, Nat.reduceEqDiff, tysW44_14]
      (repeat' (first | rfl | exact trivial | exact fun h => h | exact fun h => (by rw [h]; rfl) | apply And.intro | omega | exact Nat.le_of_ble_eq_true rfl))) ?_
  refine Tr.reg [3, 4, 5, 6, 7, 8] (by
      simp only [↓sxd, sxu, ↓zE, ↓exq, St.keep, Nat.reduceBEq, Nat.reduceLT]
      (repeat ((with_reducible refine And.intro ?_ ?_); (focus (first | with_reducible rfl | trivial | exact fun h => h | exact fun h => (by rw [h]; rfl) | omega | assumption))))
      refine CallO.use (persons_count v (by omega)) ?_
      try simp only [↓sxd, sxu, ↓zE, ↓exq, Nat.reduceBEq, Nat.reduceLT, ← hcn]
      (repeat' (first | rfl | exact trivial | exact fun h => h | exact fun h => (by rw [h]; rfl) | apply And.intro | omega | exact Nat.le_of_ble_eq_true rfl))) ?_
  refine Tr.seq ?_
  refine Tr.reg [3, 4, 64] (by
      simp only [↓sxd, sxu, ↓zE, ↓exq, St.keep, Nat.reduceBEq, Nat.reduceLT]
      iterate 25
        (repeat ((with_reducible refine And.intro ?_ ?_); (focus (first | with_reducible rfl | trivial | exact fun h => h | exact fun h => (by rw [h]; rfl) | omega | assumption))))
        refine GdO.mk _ (fun hg => by simp only [↓sxd, sxu, ↓exq, ↓zD, ↓zA, Nat.reduceBEq, Nat.reduceAdd, Nat.reduceLT, Nat.reduceEqDiff, tysW44_14, hg]; (repeat' (first | rfl | exact trivial | exact fun h => h | exact fun h => (by rw [h]; rfl) | apply And.intro | omega | exact Nat.le_of_ble_eq_true rfl))) ?_
        simp only [↓sxd, sxu, ↓zE, ↓exq, ↓zH, Nat.reduceBEq, Nat.reduceLT]
      (repeat' (first | rfl | exact trivial | exact fun h => h | exact fun h => (by rw [h]; rfl) | apply And.intro | omega | exact Nat.le_of_ble_eq_true rfl))) ?_
  refine Tr.cond rfl (fun h64 => ?_) (fun h64 => ?_)
  · exfalso
    rw [decide_eq_false (show ¬ (cn : Int) < P.lo by omega), decide_eq_false (show ¬ (cn : Int) > P.hi by omega), decide_eq_false (show ¬ O.lo < c.omitted.lo by omega), decide_eq_false (show ¬ O.hi > c.omitted.hi by omega), decide_eq_false (show ¬ O.lo > O.hi by omega)] at h64
    exact absurd h64 (by decide)
  · refine Tr.skip ?_
    refine Tr.seq ?_
    refine Tr.reg [3, 4, 9] (by
        simp only [↓sxd, sxu, ↓zE, ↓exq, St.keep, Nat.reduceBEq, Nat.reduceLT]
        (repeat' (first | rfl | exact trivial | exact fun h => h | exact fun h => (by rw [h]; rfl) | apply And.intro | omega | exact Nat.le_of_ble_eq_true rfl))) ?_
    refine Tr.imp (st' := ⟨[(3, .ptr 0 0 0), (4, SI (nats v)), (9, I 0)], [(2, .arr 2 [[I O.lo, I O.hi]]), (1, .arr 2 [[I P.lo, I P.hi]]), (0, .arr 7 [cs c (SP c.same) (SP c.apart)])], 3, 125, [], 0⟩) (Imp.keepAll) (Tr.block (Tr.loopI (fun mm ss => ∃ (i : Nat), (i ≤ v.length) ∧ v.length - i = mm ∧ ss = ⟨[(3, .ptr 0 0 0), (4, SI (nats v)), (9, I i)], [(2, .arr 2 [[I O.lo, I O.hi]]), (1, .arr 2 [[I P.lo, I P.hi]]), (0, .arr 7 [cs c (SP c.same) (SP c.apart)])], 3, 125, [], 0⟩) _ ⟨0, ?_, rfl, rfl⟩ ?_))
    · exact Nat.zero_le _
    rintro mm ss ⟨i, hI, rfl, rfl⟩
    refine Tr.seq ?_
    refine Tr.reg [3, 4, 9, 68] (by
        simp only [↓sxd, sxu, ↓zE, ↓exq, ↓zB, St.keep, ↓zJ, Nat.reduceBEq, Nat.reduceLT, sxe, tysW44_14, nats_len]
        (repeat' (first | rfl | exact trivial | exact fun h => h | exact fun h => (by rw [h]; rfl) | apply And.intro | omega | exact Nat.le_of_ble_eq_true rfl))) ?_
    refine Tr.cond rfl (fun h68 => ?_) (fun h68 => ?_)
    · have hi : i < v.length := by have := of_decide_eq_true h68; omega
      refine Tr.skip ?_
      refine Tr.seq ?_
      refine Tr.block ?_
      refine Tr.reg [3, 4, 9, 10] (by
          simp only [↓sxd, sxu, ↓zE, ↓exq, St.keep, Nat.reduceBEq, Nat.reduceLT]
          (repeat' (first | rfl | exact trivial | exact fun h => h | exact fun h => (by rw [h]; rfl) | apply And.intro | omega | exact Nat.le_of_ble_eq_true rfl))) ?_
      refine Tr.imp (st' := ⟨[(3, .ptr 0 0 0), (4, SI (nats v)), (9, I i), (10, I 0)], [(2, .arr 2 [[I O.lo, I O.hi]]), (1, .arr 2 [[I P.lo, I P.hi]]), (0, .arr 7 [cs c (SP c.same) (SP c.apart)])], 3, 125, [], 0⟩) (Imp.keepAll) (Tr.block (Tr.loopI (fun mm ss => ∃ (k : Nat), (k ≤ v.length) ∧ v.length - k = mm ∧ ss = ⟨[(3, .ptr 0 0 0), (4, SI (nats v)), (9, I i), (10, I k)], [(2, .arr 2 [[I O.lo, I O.hi]]), (1, .arr 2 [[I P.lo, I P.hi]]), (0, .arr 7 [cs c (SP c.same) (SP c.apart)])], 3, 125, [], 0⟩) _ ⟨0, ?_, rfl, rfl⟩ ?_))
      · exact Nat.zero_le _
      rintro mm ss ⟨k, hI, rfl, rfl⟩
      refine Tr.seq ?_
      refine Tr.reg [3, 4, 9, 10, 74] (by
          simp only [↓sxd, sxu, ↓zE, ↓exq, ↓zB, St.keep, ↓zJ, Nat.reduceBEq, Nat.reduceLT, sxe, tysW44_14, nats_len]
          (repeat' (first | rfl | exact trivial | exact fun h => h | exact fun h => (by rw [h]; rfl) | apply And.intro | omega | exact Nat.le_of_ble_eq_true rfl))) ?_
      refine Tr.cond rfl (fun h74 => ?_) (fun h74 => ?_)
      · have hk : k < v.length := by have := of_decide_eq_true h74; omega
        obtain ⟨can, must, ht, t1, t2, t3⟩ := htog i k hi hk
        have hTo := Together_c c i k hsm
        rw [ht] at hTo
        refine Tr.skip ?_
        refine Tr.seq ?_
        refine Tr.block ?_
        refine Tr.reg [3, 4, 9, 10, 11, 12, 13] (by
            simp only [↓sxd, sxu, ↓zE, ↓exq, St.keep, ↓zD, Nat.reduceBEq, Nat.reduceAdd, Nat.reduceLT, tysW44_14]
            (repeat ((with_reducible refine And.intro ?_ ?_); (focus (first | with_reducible rfl | trivial | exact fun h => h | exact fun h => (by rw [h]; rfl) | omega | assumption))))
            refine CallO.use (lCensus_c c hsm) ?_
            try simp only [↓sxd, sxu, ↓zE, ↓exq, Nat.reduceBEq, Nat.reduceLT]
            (repeat ((with_reducible refine And.intro ?_ ?_); (focus (first | with_reducible rfl | trivial | exact fun h => h | exact fun h => (by rw [h]; rfl) | omega | assumption))))
            refine CallO.use (hTo) ?_
            try simp only [↓sxd, sxu, ↓zE, ↓exq, ↓zN, Nat.reduceBEq, Nat.reduceAdd, Nat.reduceLT]
            (repeat' (first | rfl | exact trivial | exact fun h => h | exact fun h => (by rw [h]; rfl) | apply And.intro | omega | exact Nat.le_of_ble_eq_true rfl))) ?_
        refine Tr.regV [] [] [3, 4, 9, 10, 123] mix (by kernel_rfl) (by
            try simp only
            simp only [↓yB, ↓yG, addA, ↓sxd, sxu, zK, ↓exq, St.keep, Nat.reduceBEq, Nat.reduceAdd, Nat.reduceLT]
            iterate 12
              (repeat ((with_reducible refine And.intro ?_ ?_); (focus (first | with_reducible rfl | trivial | exact fun h => h | exact fun h => (by rw [h]; rfl) | omega | assumption))))
              refine GdV.mk _ (fun hg => by simp only [↓sxd, sxu, ↓exP, ↓exq, ↓zL, ↓zD, Nat.reduceBEq, Nat.reduceLT, sxe, tysW44_14, nats_len, nats_at, hi, hk, hg]; (repeat' (first | rfl | exact trivial | exact fun h => h | exact fun h => (by rw [h]; rfl) | apply And.intro | omega | exact Nat.le_of_ble_eq_true rfl))) ?_
              simp only [↓yB, ↓yG, addA, sxu, zK, Nat.reduceBEq, Nat.reduceAdd, Nat.reduceLT]
            (repeat ((with_reducible refine And.intro ?_ ?_); (focus (first | with_reducible rfl | trivial | exact fun h => h | exact fun h => (by rw [h]; rfl) | omega | assumption))))
            first | refine GdV.and (fun hg => by simp only [sxu, Nat.reduceBEq, pickArgs, hg]; (repeat' (first | rfl | exact trivial | exact fun h => h | exact fun h => (by rw [h]; rfl) | apply And.intro | omega | exact Nat.le_of_ble_eq_true rfl))) ?_ | refine GdV.mk _ (fun hg => by simp only [↓yB, ↓yE, ↓yG, addA, ↓sxd, sxu, ↓zE, ↓zC, zK, ↓exP, ↓exq, ↓zB, St.keep, ↓zH, ↓zL, ↓zJ, ↓zD, ↓zN, ↓zM, ↓zA, Nat.reduceBEq, Nat.reduceAdd, Nat.reduceLT, Nat.reduceMul, Nat.reduceSub, Nat.reduceLeDiff, Nat.reduceEqDiff, Int.reduceLE, Int.reduceLT, Int.reduceToNat, reduceIte, implies_true, sxe, tysW44_14, nats_len, nats_at, hi, hk, hg, if_true]; (repeat' (first | rfl | exact trivial | exact fun h => h | exact fun h => (by rw [h]; rfl) | apply And.intro | omega | exact Nat.le_of_ble_eq_true rfl))) ?_
            simp only [↓yB, ↓yG, addA, sxu, zK, ↓exq, ↓zH, Nat.reduceBEq, Nat.reduceAdd, Nat.reduceLT]
            iterate 11
              (repeat ((with_reducible refine And.intro ?_ ?_); (focus (first | with_reducible rfl | trivial | exact fun h => h | exact fun h => (by rw [h]; rfl) | omega | assumption))))
              refine GdV.mk _ (fun hg => by simp only [↓sxd, sxu, ↓exP, ↓exq, ↓zD, Nat.reduceBEq, Nat.reduceLT, sxe, tysW44_14, nats_len, nats_at, hi, hk, hg]; (repeat' (first | rfl | exact trivial | exact fun h => h | exact fun h => (by rw [h]; rfl) | apply And.intro | omega | exact Nat.le_of_ble_eq_true rfl))) ?_
              simp only [↓yB, ↓yG, addA, sxu, zK, Nat.reduceBEq, Nat.reduceAdd, Nat.reduceLT]
            (repeat ((with_reducible refine And.intro ?_ ?_); (focus (first | with_reducible rfl | trivial | exact fun h => h | exact fun h => (by rw [h]; rfl) | omega | assumption))))
            first | refine GdV.and (fun hg => by simp only [sxu, Nat.reduceBEq, pickArgs, hg]; (repeat' (first | rfl | exact trivial | exact fun h => h | exact fun h => (by rw [h]; rfl) | apply And.intro | omega | exact Nat.le_of_ble_eq_true rfl))) ?_ | refine GdV.mk _ (fun hg => by simp only [↓yB, ↓yE, ↓yG, addA, ↓sxd, sxu, ↓zE, ↓zC, zK, ↓exP, ↓exq, ↓zB, St.keep, ↓zH, ↓zL, ↓zJ, ↓zD, ↓zN, ↓zM, ↓zA, Nat.reduceBEq, Nat.reduceAdd, Nat.reduceLT, Nat.reduceMul, Nat.reduceSub, Nat.reduceLeDiff, Nat.reduceEqDiff, Int.reduceLE, Int.reduceLT, Int.reduceToNat, reduceIte, implies_true, sxe, tysW44_14, nats_len, nats_at, hi, hk, hg, if_true]; (repeat' (first | rfl | exact trivial | exact fun h => h | exact fun h => (by rw [h]; rfl) | apply And.intro | omega | exact Nat.le_of_ble_eq_true rfl))) ?_
            simp only [↓yB, ↓yG, addA, sxu, zK, ↓exq, ↓zH, Nat.reduceBEq, Nat.reduceAdd, Nat.reduceLT]
            iterate 4
              (repeat ((with_reducible refine And.intro ?_ ?_); (focus (first | with_reducible rfl | trivial | exact fun h => h | exact fun h => (by rw [h]; rfl) | omega | assumption))))
              refine GdV.mk _ (fun hg => by simp only [sxu, ↓exP, ↓exq, ↓zL, Nat.reduceBEq, hg]; (repeat' (first | rfl | exact trivial | exact fun h => h | exact fun h => (by rw [h]; rfl) | apply And.intro | omega | exact Nat.le_of_ble_eq_true rfl))) ?_
              simp only [↓yB, ↓yG, addA, sxu, zK, Nat.reduceBEq, Nat.reduceAdd, Nat.reduceLT]
            (repeat ((with_reducible refine And.intro ?_ ?_); (focus (first | with_reducible rfl | trivial | exact fun h => h | exact fun h => (by rw [h]; rfl) | omega | assumption))))
            first | refine GdV.and (fun hg => by simp only [sxu, Nat.reduceBEq, pickArgs, hg]; (repeat' (first | rfl | exact trivial | exact fun h => h | exact fun h => (by rw [h]; rfl) | apply And.intro | omega | exact Nat.le_of_ble_eq_true rfl))) ?_ | refine GdV.mk _ (fun hg => by simp only [↓yB, ↓yE, ↓yG, addA, ↓sxd, sxu, ↓zE, ↓zC, zK, ↓exP, ↓exq, ↓zB, St.keep, ↓zH, ↓zL, ↓zJ, ↓zD, ↓zN, ↓zM, ↓zA, Nat.reduceBEq, Nat.reduceAdd, Nat.reduceLT, Nat.reduceMul, Nat.reduceSub, Nat.reduceLeDiff, Nat.reduceEqDiff, Int.reduceLE, Int.reduceLT, Int.reduceToNat, reduceIte, implies_true, sxe, tysW44_14, nats_len, nats_at, hi, hk, hg, if_true]; (repeat' (first | rfl | exact trivial | exact fun h => h | exact fun h => (by rw [h]; rfl) | apply And.intro | omega | exact Nat.le_of_ble_eq_true rfl))) ?_
            simp only [↓yB, ↓yE, ↓yG, sxu, ↓exq, ↓zH, Nat.reduceBEq, Nat.reduceAdd, Nat.reduceLT]
            (repeat' (first | rfl | exact trivial | exact fun h => h | exact fun h => (by rw [h]; rfl) | apply And.intro | omega | exact Nat.le_of_ble_eq_true rfl))) ?_
        refine Tr.cond rfl (fun h123 => ?_) (fun h123 => ?_)
        · exfalso
          rw [ib, ibn] at h123
          by_cases he : v.getD i 0 = v.getD k 0
          · rw [t1 he] at h123
            rw [he] at h123
            simp at h123
          · rw [t2 he] at h123
            have h1 : (v.getD i 0 == v.getD k 0) = false := by simpa using he
            rw [h1] at h123
            simp at h123
        · refine Tr.skip ?_
          have w1 : IntKind.i64.wrap ((k : Int) + 1) = ((k + 1 : Nat) : Int) := by rw [wr (by omega) (by omega)]; rfl
          refine Tr.reg1 [3, 4, 9, 10] (by
              simp only [↓sxd, sxu, ↓zE, ↓exq, St.keep, Nat.reduceBEq, Nat.reduceLT, w1]
              (repeat' (first | rfl | exact trivial | exact fun h => h | exact fun h => (by rw [h]; rfl) | apply And.intro | omega | exact Nat.le_of_ble_eq_true rfl))) ?_
          exact ⟨_, _, by omega, Imp.keepAll, ⟨k + 1, hk, rfl, rfl⟩⟩
      · skip
        refine Tr.exit ?_
        have w2 : IntKind.i64.wrap ((i : Int) + 1) = ((i + 1 : Nat) : Int) := by rw [wr (by omega) (by omega)]; rfl
        refine Tr.reg1 [3, 4, 9] (by
            simp only [↓sxd, sxu, ↓zE, ↓exq, St.keep, Nat.reduceBEq, Nat.reduceLT, w2]
            (repeat' (first | rfl | exact trivial | exact fun h => h | exact fun h => (by rw [h]; rfl) | apply And.intro | omega | exact Nat.le_of_ble_eq_true rfl))) ?_
        exact ⟨_, _, by omega, Imp.keepAll, ⟨i + 1, hi, rfl, rfl⟩⟩
    · skip
      refine Tr.exit ?_
      refine Tr.reg [2] (by
          simp only [↓sxd, sxu, ↓zE, St.keep, Nat.reduceLT]
          (repeat ((with_reducible refine And.intro ?_ ?_); (focus (first | with_reducible rfl | trivial | exact fun h => h | exact fun h => (by rw [h]; rfl) | omega | assumption))))
          refine CallO.use (awake_c) ?_
          try simp only [↓sxd, sxu, ↓zE, ↓exq, Nat.reduceLT]
          (repeat' (first | rfl | exact trivial | exact fun h => h | exact fun h => (by rw [h]; rfl) | apply And.intro | omega | exact Nat.le_of_ble_eq_true rfl))) ?_
      refine Tr.ret ?_
      (refine ⟨.inr rfl, ?_⟩; first | rfl | exact ⟨rfl, rfl, trivial⟩ | exact ⟨rfl, rfl, rfl, trivial⟩ | (simp only [Res, ResL, ResOK, ↓sxd, sxu, ↓zE, ↓zC, zK, ↓exP, ↓exq, ↓zB, St.keep, ↓zH, ↓zL, ↓zJ, ↓zD, ↓zN, ↓zM, ↓zA, Nat.reduceBEq, Nat.reduceAdd, Nat.reduceLT, Nat.reduceMul, Nat.reduceSub, Nat.reduceLeDiff, Nat.reduceEqDiff, Int.reduceLE, Int.reduceLT, Int.reduceToNat, reduceIte, implies_true, sxe, tysW44_14]; (repeat' (first | rfl | exact trivial | exact fun h => h | exact fun h => (by rw [h]; rfl) | apply And.intro | omega | exact Nat.le_of_ble_eq_true rfl))))
end Go.Proofs.YtcnkbdfkjhlbiaaDoor
