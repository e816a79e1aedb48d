/- Lemmas, part YFA. Conditions: none. -/
import Derived.Test.YtcnkbdfkjhlbiaaDoorXPBB
import Derived.Carry
set_option linter.unusedVariables false
namespace Go.Proofs.YtcnkbdfkjhlbiaaDoor
open Go.Sy
theorem ty.sz91 : tsz Tryd.prog 91 = some 1 := by kernel_rfl
theorem ty.agg91 : tagg Tryd.prog 91 = some false := by kernel_rfl
theorem ty.elem91 : telem Tryd.prog 91 = none := by kernel_rfl
end Go.Proofs.YtcnkbdfkjhlbiaaDoor
namespace Go.Sy
section
variable {P : Program} {G : Nat → Option (List D)} {O : Nat → Prop} {pb pl pl' : Nat → Option Pl} {w w' : World} {hp hp' : HpT} {nx nx' : Nat} {ok ok' : Nat → Prop} {r : Nat → Nat}
theorem Imp.trans {a b c : St} (h : Imp a b) (h' : Imp b c) : Imp a c := by
  intro G O M pb pl x w hR
  obtain ⟨pl1, h1, g1⟩ := h G O M pb pl x w hR
  obtain ⟨pl2, h2, g2⟩ := h' G O M pb pl1 x w h1
  exact ⟨pl2, h2, fun B hB => g1 B (g2 B hB)⟩
theorem Rigid.unk : Rigid .unk := fun _ _ _ _ _ _ v _ => .unk v
theorem Rigid.nil : Rigid (.d (.sl [])) := fun _ _ _ _ _ _ v h => by
  cases h with | d _ _ h =>
  generalize hD : D.sl [] = x at h
  cases h with
  | lit => cases hD
  | nil a cap => exact .d _ _ (.nil a cap)
  | sl sz es B off cap f hB hs hc hz hw hr => cases hD; exact .d _ _ (.nil _ cap)
  | mnil => cases hD
  | mp => cases hD
theorem Rigid.tup {cs : List SV} (h : ∀ c ∈ cs, Rigid c) : Rigid (.tup cs) := fun pl pl' ok ok' w w' v hv => by
  cases hv with | tup _ vs hl h1 => exact .tup _ vs hl fun i hi => h _ (List.getElem_mem hi) pl pl' ok ok' w w' _ (h1 i hi)
theorem Rigid.agg {cs : List SV} (h : ∀ c ∈ cs, Rigid c) : Rigid (.agg cs) := fun pl pl' ok ok' w w' v hv => by
  cases hv with | agg _ vs hl h1 => exact .agg _ vs hl fun i hi => h _ (List.getElem_mem hi) pl pl' ok ok' w w' _ (h1 i hi)
end
end Go.Sy
namespace Go.Sy
section
variable {P : Program} {G : Nat → Option (List D)} {ro : Option Nat} {M : Nat} {O : Nat → Prop} {pb pl pl' : Nat → Option Pl} {w w' : World} {hp hp' : HpT} {nx nx' : Nat} {ok ok' : Nat → Prop} {st : St} {Q : Exit → St → Prop}
theorem ra_nil : ∀ s ∈ ([] : List SV), Rigid s := fun _ h => by simp at h
theorem ra_cons {s : SV} {l : List SV} (h : Rigid s) (t : ∀ x ∈ l, Rigid x) : ∀ x ∈ s :: l, Rigid x := fun x hx => by
  rcases List.mem_cons.1 hx with rfl | hx
  · exact h
  · exact t x hx
end
end Go.Sy
namespace Go.Proofs.YtcnkbdfkjhlbiaaDoor
open Go.Sy
set_option maxRecDepth 8000
theorem dU_1 (l : List Nat) : (dU l).length = l.length := dU_len l
theorem tl_one {a : List Bool} {b : List Int} (h1 : a.length = 1024) {k : Nat} (h : k < 1024) : (List.drop k (a.map cB ++ b.map cI)).getD 0 default = cB (a.getD k false) := by
  rw [List.getD_eq_getElem?_getD, List.getElem?_drop, List.getElem?_append_left (by simp; omega)]
  simp [List.getD_eq_getElem?_getD, h1, h]
theorem tl_one0 {a : List Bool} {b : List Int} (h1 : a.length = 1024) {k : Nat} (h : k < 1024) : 0 < (List.drop k (a.map cB ++ b.map cI)).length := by simp; omega
end Go.Proofs.YtcnkbdfkjhlbiaaDoor
namespace Go.Proofs.YtcnkbdfkjhlbiaaDoor
open Go.Sy
set_option maxRecDepth 8000
theorem Readable.with {c : Census} (hc : c.check = 0) {a b : Int} {s : Bool} (ha : within a 0 (c.entries.length - 1) = true) (hb : within b 0 (c.entries.length - 1) = true) : Readable (c.with a b s) := by
  have h := Census.readable hc
  have h1 := Census.small_of hc
  simp only [within, Bool.and_eq_true, decide_eq_true_eq] at ha hb
  cases s
  · refine ⟨h.ne, h.ns, ?_, h.hs, fun p hp => ?_⟩
    · simp [Census.with]; omega
    · simp only [Census.with, Bool.false_eq_true, if_false, List.mem_append, List.mem_singleton] at hp
      rcases hp with hp | rfl
      · exact h.ha p hp
      · exact ⟨ha.1, hb.1⟩
  · refine ⟨h.ne, ?_, h.na, fun p hp => ?_, h.ha⟩
    · simp [Census.with]; omega
    · simp only [Census.with, if_true, List.mem_append, List.mem_singleton] at hp
      rcases hp with hp | rfl
      · exact h.hs p hp
      · refine ⟨ha.1, hb.1, ?_, ?_⟩ <;> simp only [Census.with, if_true] <;> omega
def Census.both (c : Census) (a b : Int) : Bool := within a 0 (c.entries.length - 1) && within b 0 (c.entries.length - 1)
def Census.together (c : Census) (a b : Int) : Bool × Bool × Int :=
  if c.tried (c.both a b) = 0 then (if a = b then (true, true, 0) else ((c.with a b true).cons, !(c.with a b false).cons, 0)) else (false, false, c.tried (c.both a b))
abbrev tysW10_52 := And.intro ty.sz0 <| And.intro ty.agg0 <| And.intro ty.elem0 <| And.intro ty.sz3 <| And.intro ty.agg3 <| And.intro ty.elem3 <| And.intro ty.zero3 <| And.intro ty.und3 <| And.intro ty.sz4 <| And.intro ty.agg4 <| And.intro ty.elem4 <| And.intro ty.zero4 <| And.intro ty.und4 <| And.intro ty.sz31 <| And.intro ty.agg31 <| And.intro ty.elem31 <| And.intro ty.zero31 <| And.intro ty.und31 <| And.intro ty.sz34 <| And.intro ty.agg34 <| And.intro ty.elem34 <| And.intro ty.by34 <| And.intro ty.ez34 <| And.intro ty.zero34 <| And.intro ty.und34 <| And.intro ty.sz37 <| And.intro ty.agg37 <| And.intro ty.fld37_0 <| And.intro ty.fld37_1 <| And.intro ty.fld37_2 <| And.intro ty.fld37_3 <| And.intro ty.fld37_4 <| And.intro ty.elem37 <| And.intro ty.zero37 <| And.intro ty.pl37 <| And.intro ty.sz108 <| And.intro ty.agg108 <| And.intro ty.elem108 <| And.intro ty.zero108 <| And.intro ty.sz109 <| And.intro ty.agg109 <| ty.elem109
theorem Together_c (c : Census) (a b : Int) (hs : c.small) : CallP Tryd.prog G0 52 [c.s, I a, I b] (.tup [B (c.together a b).1, B (c.together a b).2.1, I (c.together a b).2.2]) := by
  refine CallP.body 46 [.tmp 6, .tmp 7, .tmp 8] Tryd.func52 (by kernel_rfl) rfl rfl rfl (by repeat' (first | exact Pure.d _ | exact Pure.dx _ | exact Pure.dp _ | exact fa_nil | refine fa_cons ?_ ?_ | refine Pure.agg ?_ | refine Pure.tup ?_ | refine Pure.clo ?_ ?_ | refine Pure.fp ?_ | exact Pure.mapd _ | assumption)) (by repeat' (first | exact Pure.d _ | exact Pure.dx _ | exact Pure.dp _ | exact fa_nil | refine fa_cons ?_ ?_ | refine Pure.agg ?_ | refine Pure.tup ?_ | refine Pure.clo ?_ ?_ | refine Pure.fp ?_ | exact Pure.mapd _ | assumption)) ?_
  refine Tr.reg [1, 2, 3] (by
      simp only [↓sxd, sxu, ↓zE, ↓exq, St.keep, ↓zI, Nat.reduceBEq, Nat.reduceAdd, Nat.reduceLT, Nat.reduceEqDiff]
      (repeat' (first | rfl | exact trivial | exact fun h => h | exact fun h => (by rw [h]; rfl) | apply And.intro | omega | exact Nat.le_of_ble_eq_true rfl))) ?_
  have w1 : IntKind.i64.wrap ((c.entries.length : Int) - 1) = c.entries.length - 1 := wr (by have := hs.1; omega) (by have := hs.1; omega)
  refine Tr.reg [1, 2, 3, 9] (by
      simp only [↓sxd, sxu, ↓zE, ↓exq, ↓zB, St.keep, ↓zJ, ↓zD, ↓zA, Nat.reduceBEq, Nat.reduceAdd, Nat.reduceLT, Nat.reduceEqDiff, sxe, tysW10_52, w1]
      (repeat' (first | rfl | exact trivial | exact fun h => h | exact fun h => (by rw [h]; rfl) | apply And.intro | omega | exact Nat.le_of_ble_eq_true rfl))) ?_
  refine Tr.regD [0, 1, 2, 3, 4, 5, 6, 7, 8, 9, 10, 11, 12, 13] [] [] [1, 2, 3, 8] mix (by kernel_rfl) (by
      simp only [↓sxd, sxu, ↓zC, zK, ↓exq, St.keep, ↓zD, Nat.reduceBEq, Nat.reduceAdd, Nat.reduceLT, tysW10_52]
      (repeat ((with_reducible refine And.intro ?_ ?_); (focus (first | with_reducible rfl | trivial | exact fun h => h | exact fun h => (by rw [h]; rfl) | omega | assumption))))
      refine CallD.use (within_c _ a 0 (c.entries.length - 1)) ?_
      try simp only [↓sxd, sxu, ↓zC, zK, ↓exq, Nat.reduceLT]
      iterate 2
        (repeat ((with_reducible refine And.intro ?_ ?_); (focus (first | with_reducible rfl | trivial | exact fun h => h | exact fun h => (by rw [h]; rfl) | omega | assumption))))
        refine GdD.mk _ (fun hg => by simp only [sxu, ↓exP, ↓exq, Nat.reduceBEq, hg]; (repeat' (first | rfl | exact trivial | exact fun h => h | exact fun h => (by rw [h]; rfl) | apply And.intro | omega | exact Nat.le_of_ble_eq_true rfl))) ?_
        simp only [↓sxd, sxu, ↓zC, zK, Nat.reduceBEq, Nat.reduceLT]
      (repeat ((with_reducible refine And.intro ?_ ?_); (focus (first | with_reducible rfl | trivial | exact fun h => h | exact fun h => (by rw [h]; rfl) | omega | assumption))))
      refine GdD.mk _ (fun hg => by simp only [sxu, ↓exP, Nat.reduceBEq, hg]; first | exact within_c _ b 0 (c.entries.length - 1) | exact ⟨within_c _ b 0 (c.entries.length - 1), rfl, rfl⟩ | exact ⟨within_c _ b 0 (c.entries.length - 1), trivial⟩ | exact ⟨within_c _ b 0 (c.entries.length - 1), trivial, trivial⟩) ?_
      simp only [↓sxd, sxu, ↓zC, zK, ↓exq, ↓zH, Nat.reduceBEq, Nat.reduceLT]
      (repeat ((with_reducible refine And.intro ?_ ?_); (focus (first | with_reducible rfl | trivial | exact fun h => h | exact fun h => (by rw [h]; rfl) | omega | assumption))))
      refine CallD.use (tried'_c c hs _) ?_
      try simp only [↓sxd, sxu, ↓zC, zK, ↓exq, ↓zN, Nat.reduceBEq, Nat.reduceAdd, Nat.reduceLT]
      (repeat' (first | rfl | exact trivial | exact fun h => h | exact fun h => (by rw [h]; rfl) | apply And.intro | omega | exact Nat.le_of_ble_eq_true rfl))) ?_
  refine Tr.seq ?_
  refine Tr.block ?_
  refine Tr.reg [1, 2, 3, 8, 27] (by
      simp only [↓sxd, sxu, ↓zE, ↓exq, St.keep, Nat.reduceBEq, Nat.reduceLT]
      (repeat' (first | rfl | exact trivial | exact fun h => h | exact fun h => (by rw [h]; rfl) | apply And.intro | omega | exact Nat.le_of_ble_eq_true rfl))) ?_
  refine Tr.cond rfl (fun h27 => ?_) (fun h27 => ?_)
  · have ht : c.together a b = (false, false, c.tried (c.both a b)) := if_neg (by simpa [Census.both, within] using h27)
    rw [ht]
    refine Tr.reg [6, 7, 8] (by
        simp only [↓sxd, sxu, ↓zE, ↓exq, St.keep, Nat.reduceBEq, Nat.reduceLT]
        (repeat' (first | rfl | exact trivial | exact fun h => h | exact fun h => (by rw [h]; rfl) | apply And.intro | omega | exact Nat.le_of_ble_eq_true rfl))) ?_
    refine Tr.ret ?_
    (refine ⟨.inr rfl, ?_⟩; first | rfl | exact ⟨rfl, rfl, trivial⟩ | exact ⟨rfl, rfl, rfl, trivial⟩ | (simp only [Res, ResL, ResOK, ↓sxd, sxu, ↓zE, ↓zC, zK, ↓exP, ↓exq, ↓zB, St.keep, ↓zH, ↓zL, ↓zJ, ↓zD, ↓zN, ↓zI, ↓zA, Nat.reduceBEq, Nat.reduceAdd, Nat.reduceLT, Nat.reduceMul, Nat.reduceSub, Nat.reduceLeDiff, Nat.reduceEqDiff, Int.reduceLE, Int.reduceLT, Int.reduceToNat, reduceIte, implies_true, sxe, tysW10_52]; (repeat' (first | rfl | exact trivial | exact fun h => h | exact fun h => (by rw [h]; rfl) | apply And.intro | omega | exact Nat.le_of_ble_eq_true rfl))))
  · have h0 : c.tried (c.both a b) = 0 := by simpa [Census.both, within] using h27
    have ⟨hk, hb⟩ := Census.tried_ok h0
    have hn := Census.small_of hk
    simp only [Census.both, Bool.and_eq_true] at hb
    refine Tr.reg [1, 2, 3, 31] (by
        simp only [↓sxd, sxu, ↓zE, ↓exq, St.keep, Nat.reduceBEq, Nat.reduceLT]
        (repeat' (first | rfl | exact trivial | exact fun h => h | exact fun h => (by rw [h]; rfl) | apply And.intro | omega | exact Nat.le_of_ble_eq_true rfl))) ?_
    refine Tr.cond rfl (fun h31 => ?_) (fun h31 => ?_)
    · have ht : c.together a b = (true, true, 0) := by unfold Census.together; rw [if_pos h0, if_pos (by simpa using h31)]
      rw [ht]
      refine Tr.reg [6, 7, 8] (by
          simp only [↓sxd, sxu, ↓zE, ↓exq, St.keep, Nat.reduceBEq, Nat.reduceLT]
          (repeat' (first | rfl | exact trivial | exact fun h => h | exact fun h => (by rw [h]; rfl) | apply And.intro | omega | exact Nat.le_of_ble_eq_true rfl))) ?_
      refine Tr.ret ?_
      (refine ⟨.inr rfl, ?_⟩; first | rfl | exact ⟨rfl, rfl, trivial⟩ | exact ⟨rfl, rfl, rfl, trivial⟩ | (simp only [Res, ResL, ResOK, ↓sxd, sxu, ↓zE, ↓zC, zK, ↓exP, ↓exq, ↓zB, St.keep, ↓zH, ↓zL, ↓zJ, ↓zD, ↓zN, ↓zI, ↓zA, Nat.reduceBEq, Nat.reduceAdd, Nat.reduceLT, Nat.reduceMul, Nat.reduceSub, Nat.reduceLeDiff, Nat.reduceEqDiff, Int.reduceLE, Int.reduceLT, Int.reduceToNat, reduceIte, implies_true, sxe, tysW10_52]; (repeat' (first | rfl | exact trivial | exact fun h => h | exact fun h => (by rw [h]; rfl) | apply And.intro | omega | exact Nat.le_of_ble_eq_true rfl))))
    · have ht : c.together a b = ((c.with a b true).cons, !(c.with a b false).cons, 0) := by unfold Census.together; rw [if_pos h0, if_neg (by simpa using h31)]
      rw [ht]
      refine Tr.skip ?_
      refine Tr.regD [0, 1, 2, 3, 4, 5, 6, 7, 8, 9, 10, 11, 12, 13] [] [] [6, 7, 8] mix (by kernel_rfl) (by
          simp only [↓sxd, sxu, ↓zC, zK, ↓exq, St.keep, ↓zD, Nat.reduceBEq, Nat.reduceAdd, Nat.reduceLT, tysW10_52]
          (repeat ((with_reducible refine And.intro ?_ ?_); (focus (first | with_reducible rfl | trivial | exact fun h => h | exact fun h => (by rw [h]; rfl) | omega | assumption))))
          refine CallD.use (with_c c a b true (by omega) (by omega)) ?_
          try simp only [↓sxd, sxu, ↓zC, Nat.reduceLT]
          (repeat ((with_reducible refine And.intro ?_ ?_); (focus (first | with_reducible rfl | trivial | exact fun h => h | exact fun h => (by rw [h]; rfl) | omega | assumption))))
          refine CallD.use (consistent_c _ (Readable.with hk hb.1 hb.2)) ?_
          try simp only [↓sxd, sxu, ↓zC, zK, ↓exq, ↓zD, Nat.reduceBEq, Nat.reduceAdd, Nat.reduceLT, tysW10_52]
          (repeat ((with_reducible refine And.intro ?_ ?_); (focus (first | with_reducible rfl | trivial | exact fun h => h | exact fun h => (by rw [h]; rfl) | omega | assumption))))
          refine CallD.use (with_c c a b false (by omega) (by omega)) ?_
          try simp only [↓sxd, sxu, ↓zC, Nat.reduceLT]
          (repeat ((with_reducible refine And.intro ?_ ?_); (focus (first | with_reducible rfl | trivial | exact fun h => h | exact fun h => (by rw [h]; rfl) | omega | assumption))))
          refine CallD.use (consistent_c _ (Readable.with hk hb.1 hb.2)) ?_
          try simp only [↓sxd, sxu, ↓zC, zK, ↓exq, ↓zL, Nat.reduceBEq, Nat.reduceLT]
          (repeat' (first | rfl | exact trivial | exact fun h => h | exact fun h => (by rw [h]; rfl) | apply And.intro | omega | exact Nat.le_of_ble_eq_true rfl))) ?_
      refine Tr.ret ?_
      (refine ⟨.inr rfl, ?_⟩; first | rfl | exact ⟨rfl, rfl, trivial⟩ | exact ⟨rfl, rfl, rfl, trivial⟩ | (simp only [Res, ResL, ResOK, ↓sxd, sxu, ↓zE, ↓zC, zK, ↓exP, ↓exq, ↓zB, St.keep, ↓zH, ↓zL, ↓zJ, ↓zD, ↓zN, ↓zI, ↓zA, Nat.reduceBEq, Nat.reduceAdd, Nat.reduceLT, Nat.reduceMul, Nat.reduceSub, Nat.reduceLeDiff, Nat.reduceEqDiff, Int.reduceLE, Int.reduceLT, Int.reduceToNat, reduceIte, implies_true, sxe, tysW10_52]; (repeat' (first | rfl | exact trivial | exact fun h => h | exact fun h => (by rw [h]; rfl) | apply And.intro | omega | exact Nat.le_of_ble_eq_true rfl))))
end Go.Proofs.YtcnkbdfkjhlbiaaDoor
namespace Go.Proofs.YtcnkbdfkjhlbiaaDoor
open Go.Sy
set_option maxRecDepth 8000
def Coding.runTo (c : Coding) (codes : List Int) : Nat → Option (List Int)
  | 0 => some [0, 0, 0]
  | n + 1 => match c.runTo codes n with
    | none => none
    | some es => if (c.next n es (codes.getD n 0)).2.2 then some (c.next n es (codes.getD n 0)).1.2 else none
theorem runTo_none {c : Coding} {codes : List Int} {k : Nat} (h : c.runTo codes k = none) : ∀ d, c.runTo codes (k + d) = none
  | 0 => h
  | d + 1 => by show c.runTo codes (k + d + 1) = none; rw [Coding.runTo, runTo_none h d]
def Coding.proves (c : Coding) (codes : List Int) : Bool := if c.check = 0 ∧ codes.length = c.cols ∧ codes.all isCode = true then (c.runTo codes codes.length).isSome else false
theorem prove_f {a : Int} {m n : Nat} {x : Bool} (h : ((a != 0) || ((m : Int) != (n : Int)) || !x) = false) : a = 0 ∧ m = n ∧ x = true := by
  simp only [Bool.or_eq_false_iff, bne_eq_false_iff_eq, Bool.not_eq_false'] at h
  exact ⟨h.1.1, by omega, h.2⟩
theorem prove_t {a : Int} {m n : Nat} {x : Bool} (h : ((a != 0) || ((m : Int) != (n : Int)) || !x) = true) : ¬ (a = 0 ∧ m = n ∧ x = true) := by
  rintro ⟨rfl, rfl, rfl⟩
  simp at h
abbrev tysW15_47 := And.intro ty.sz0 <| And.intro ty.agg0 <| And.intro ty.elem0 <| And.intro ty.sz3 <| And.intro ty.agg3 <| And.intro ty.elem3 <| And.intro ty.zero3 <| And.intro ty.und3 <| And.intro ty.sz4 <| And.intro ty.agg4 <| And.intro ty.elem4 <| And.intro ty.zero4 <| And.intro ty.und4 <| And.intro ty.sz31 <| And.intro ty.agg31 <| And.intro ty.elem31 <| And.intro ty.zero31 <| And.intro ty.und31 <| And.intro ty.sz39 <| And.intro ty.agg39 <| And.intro ty.elem39 <| And.intro ty.by39 <| And.intro ty.ez39 <| And.intro ty.zero39 <| And.intro ty.und39 <| And.intro ty.sz43 <| And.intro ty.agg43 <| And.intro ty.elem43 <| And.intro ty.by43 <| And.intro ty.ez43 <| And.intro ty.zero43 <| And.intro ty.und43 <| And.intro ty.sz59 <| And.intro ty.agg59 <| And.intro ty.fld59_0 <| And.intro ty.fld59_1 <| And.intro ty.elem59 <| And.intro ty.zero59 <| And.intro ty.pl59 <| And.intro ty.sz128 <| And.intro ty.agg128 <| And.intro ty.fld128_0 <| And.intro ty.fld128_1 <| And.intro ty.elem128 <| And.intro ty.zero128 <| And.intro ty.pl128 <| And.intro ty.sz130 <| And.intro ty.agg130 <| ty.elem130
theorem ProveSolution_c (c : Coding) (hs : c.codes.length < 4611686018427387904) (hw : c.wrong.length < 4611686018427387904) (codes : List Int) (hl : codes.length < 4611686018427387904) : CallP Tryd.prog G0 47 [c.s, SI codes] (B (c.proves codes)) := by
  refine CallP.body 47 [.tmp 4] Tryd.func47 (by kernel_rfl) rfl rfl rfl (by repeat' (first | exact Pure.d _ | exact Pure.dx _ | exact Pure.dp _ | exact fa_nil | refine fa_cons ?_ ?_ | refine Pure.agg ?_ | refine Pure.tup ?_ | refine Pure.clo ?_ ?_ | refine Pure.fp ?_ | exact Pure.mapd _ | assumption)) (by repeat' (first | exact Pure.d _ | exact Pure.dx _ | exact Pure.dp _ | exact fa_nil | refine fa_cons ?_ ?_ | refine Pure.agg ?_ | refine Pure.tup ?_ | refine Pure.clo ?_ ?_ | refine Pure.fp ?_ | exact Pure.mapd _ | assumption)) ?_
  refine Tr.reg [1, 2] (by
      simp only [↓sxd, sxu, ↓zE, ↓exq, St.keep, ↓zI, Nat.reduceBEq, Nat.reduceAdd, Nat.reduceLT, Nat.reduceEqDiff]
      (repeat' (first | rfl | exact trivial | exact fun h => h | exact fun h => (by rw [h]; rfl) | apply And.intro | omega | exact Nat.le_of_ble_eq_true rfl))) ?_
  refine Tr.seq ?_
  refine Tr.reg [1, 2, 28] (by
      simp only [↓sxd, sxu, ↓zE, ↓exq, St.keep, ↓zD, Nat.reduceBEq, Nat.reduceAdd, Nat.reduceLT, tysW15_47]
      (repeat ((with_reducible refine And.intro ?_ ?_); (focus (first | with_reducible rfl | trivial | exact fun h => h | exact fun h => (by rw [h]; rfl) | omega | assumption))))
      refine CallO.use (CheckCoding_c c hs hw) ?_
      try simp only [↓sxd, sxu, ↓zE, ↓exq, Nat.reduceLT]
      iterate 4
        (repeat ((with_reducible refine And.intro ?_ ?_); (focus (first | with_reducible rfl | trivial | exact fun h => h | exact fun h => (by rw [h]; rfl) | omega | assumption))))
        refine GdO.mk _ (fun hg => by simp only [sxu, ↓exq, ↓zB, ↓zJ, ↓zD, ↓zA, Nat.reduceBEq, Nat.reduceAdd, Nat.reduceLT, Nat.reduceEqDiff, sxe, tysW15_47, hg]; (repeat' (first | rfl | exact trivial | exact fun h => h | exact fun h => (by rw [h]; rfl) | apply And.intro | omega | exact Nat.le_of_ble_eq_true rfl))) ?_
        simp only [↓sxd, sxu, ↓zE, Nat.reduceBEq, Nat.reduceLT]
      (repeat ((with_reducible refine And.intro ?_ ?_); (focus (first | with_reducible rfl | trivial | exact fun h => h | exact fun h => (by rw [h]; rfl) | omega | assumption))))
      refine GdO.mk _ (fun hg => by
        have h0 : 0 < c.codes.length := (coding_ok (by simpa using hg)).2.1
        simp only [↓sxd, sxu, ↓exq, Int.reduceLE, sxe, tysW15_47, hg, h0]
        (repeat' (first | rfl | exact trivial | exact fun h => h | exact fun h => (by rw [h]; rfl) | apply And.intro | omega | exact Nat.le_of_ble_eq_true rfl))) ?_
      try simp only [↓sxd, sxu, ↓zE, Nat.reduceBEq, Nat.reduceLT]
      (repeat ((with_reducible refine And.intro ?_ ?_); (focus (first | with_reducible rfl | trivial | exact fun h => h | exact fun h => (by rw [h]; rfl) | omega | assumption))))
      refine GdO.mk _ (fun hg => by
        have h0 : 0 < c.codes.length := (coding_ok (by simpa using hg)).2.1
        simp only [sxu, ↓exq, ↓zD, Nat.reduceLT, tysW15_47, hg]
        (repeat' (first | rfl | exact trivial | exact fun h => h | exact fun h => (by rw [h]; rfl) | apply And.intro | omega | exact Nat.le_of_ble_eq_true rfl))) ?_
      try simp only [↓sxd, sxu, ↓zE, Nat.reduceBEq, Nat.reduceLT]
      iterate 3
        (repeat ((with_reducible refine And.intro ?_ ?_); (focus (first | with_reducible rfl | trivial | exact fun h => h | exact fun h => (by rw [h]; rfl) | omega | assumption))))
        refine GdO.mk _ (fun hg => by simp only [↓sxd, sxu, ↓exq, ↓zB, ↓zJ, Nat.reduceBEq, sxe, tysW15_47, hg]; (repeat' (first | rfl | exact trivial | exact fun h => h | exact fun h => (by rw [h]; rfl) | apply And.intro | omega | exact Nat.le_of_ble_eq_true rfl))) ?_
        simp only [↓sxd, sxu, ↓zE, ↓exq, ↓zH, Nat.reduceBEq, Nat.reduceLT]
      (repeat ((with_reducible refine And.intro ?_ ?_); (focus (first | with_reducible rfl | trivial | exact fun h => h | exact fun h => (by rw [h]; rfl) | omega | assumption))))
      refine GdO.mk _ (fun hg => by simp only [sxu, ↓exq, ↓zB, hg]; (repeat ((with_reducible refine And.intro ?_ ?_); (focus (first | with_reducible rfl | trivial | exact fun h => h | exact fun h => (by rw [h]; rfl) | omega | assumption)))); exact CallP.use (allI_c isCode codes hl 80 [] [] fa_nil fa_nil (fun x _ => code_c _ x)) ⟨rfl, rfl, rfl⟩) ?_
      simp only [↓sxd, sxu, ↓zE, Nat.reduceBEq, Nat.reduceLT]
      (repeat ((with_reducible refine And.intro ?_ ?_); (focus (first | with_reducible rfl | trivial | exact fun h => h | exact fun h => (by rw [h]; rfl) | omega | assumption))))
      refine GdO.mk _ (fun hg => by simp only [sxu, ↓exq, ↓zL, hg]; (repeat' (first | rfl | exact trivial | exact fun h => h | exact fun h => (by rw [h]; rfl) | apply And.intro | omega | exact Nat.le_of_ble_eq_true rfl))) ?_
      simp only [↓sxd, sxu, ↓zE, ↓exq, ↓zH, Nat.reduceBEq, Nat.reduceLT]
      (repeat' (first | rfl | exact trivial | exact fun h => h | exact fun h => (by rw [h]; rfl) | apply And.intro | omega | exact Nat.le_of_ble_eq_true rfl))) ?_
  refine Tr.cond rfl (fun h28 => ?_) (fun h28 => ?_)
  · have hf : c.proves codes = false := if_neg (fun hq => by have := prove_t h28; exact this hq)
    rw [hf]
    refine Tr.reg [4] (by
        simp only [↓sxd, sxu, ↓zE, ↓exq, St.keep, Nat.reduceLT]
        (repeat' (first | rfl | exact trivial | exact fun h => h | exact fun h => (by rw [h]; rfl) | apply And.intro | omega | exact Nat.le_of_ble_eq_true rfl))) ?_
    refine Tr.ret ?_
    (refine ⟨.inr rfl, ?_⟩; first | rfl | exact ⟨rfl, rfl, trivial⟩ | exact ⟨rfl, rfl, rfl, trivial⟩ | (simp only [Res, ResL, ResOK, ↓sxd, sxu, ↓zE, ↓zC, zK, ↓exP, ↓exq, ↓zB, St.keep, ↓zH, ↓zL, ↓zJ, ↓zD, ↓zN, ↓zM, ↓zI, ↓zA, Nat.reduceBEq, Nat.reduceAdd, Nat.reduceLT, Nat.reduceMul, Nat.reduceSub, Nat.reduceLeDiff, Nat.reduceEqDiff, Int.reduceLE, Int.reduceLT, Int.reduceToNat, reduceIte, implies_true, sxe, tysW15_47]; (repeat' (first | rfl | exact trivial | exact fun h => h | exact fun h => (by rw [h]; rfl) | apply And.intro | omega | exact Nat.le_of_ble_eq_true rfl))))
  · have hq : c.check = 0 ∧ codes.length = c.cols ∧ codes.all isCode = true := prove_f h28
    have hf : c.proves codes = (c.runTo codes codes.length).isSome := if_pos hq
    have ⟨hok, hn0, hc0⟩ := coding_ok hq.1
    refine Tr.skip ?_
    refine Tr.reg [1, 2, 5] (by
        simp only [↓sxd, sxu, ↓zE, ↓exq, St.keep, ↓zM, Nat.reduceBEq, Nat.reduceAdd, Nat.reduceLT, Nat.reduceEqDiff, tysW15_47]
        (repeat' (first | rfl | exact trivial | exact fun h => h | exact fun h => (by rw [h]; rfl) | apply And.intro | omega | exact Nat.le_of_ble_eq_true rfl))) ?_
    refine Tr.seq ?_
    refine Tr.reg [2, 5, 29, 30, 31] (by
        simp only [↓sxd, sxu, ↓zE, ↓exq, ↓zB, St.keep, ↓zJ, Nat.reduceBEq, Nat.reduceLT, sxe, tysW15_47]
        (repeat' (first | rfl | exact trivial | exact fun h => h | exact fun h => (by rw [h]; rfl) | apply And.intro | omega | exact Nat.le_of_ble_eq_true rfl))) ?_
    refine Tr.imp (st' := ⟨[(2, .ptr 0 0 0), (5, .ptr 1 0 0), (29, SI codes), (30, I codes.length), (31, I 0)], [(1, .arr 4 [sol 0 [0, 0, 0]]), (0, .arr 2 [[SL c.codes, SI c.wrong]])], 2, 47, [], 0⟩) (Imp.keepAll) (Tr.block (Tr.loopI (fun mm ss => ∃ (k : Nat) (e0 e1 e2 : Int), (k ≤ codes.length ∧ c.runTo codes k = some [e0, e1, e2]) ∧ codes.length - k = mm ∧ ss = ⟨[(2, .ptr 0 0 0), (5, .ptr 1 0 0), (29, SI codes), (30, I codes.length), (31, I k)], [(1, .arr 4 [sol k [e0, e1, e2]]), (0, .arr 2 [[SL c.codes, SI c.wrong]])], 2, 47, [], 0⟩) _ ⟨0, 0, 0, 0, ?_, rfl, rfl⟩ ?_))
    · exact ⟨Nat.zero_le _, rfl⟩
    rintro mm ss ⟨k, e0, e1, e2, hI, rfl, rfl⟩
    obtain ⟨hI, hrun⟩ := hI
    refine Tr.reg [2, 5, 29, 30, 31, 32] (by
        simp only [↓sxd, sxu, ↓zE, ↓exq, St.keep, Nat.reduceBEq, Nat.reduceLT, sxe]
        (repeat' (first | rfl | exact trivial | exact fun h => h | exact fun h => (by rw [h]; rfl) | apply And.intro | omega | exact Nat.le_of_ble_eq_true rfl))) ?_
    refine Tr.seq ?_
    refine Tr.cond rfl (fun h32 => ?_) (fun h32 => ?_)
    · have hlt : k < codes.length := by simpa using h32
      have hkc : k < c.cols := by omega
      obtain ⟨a0, a1, a2, hA⟩ := three (next_len c k [e0, e1, e2] rfl (codes.getD k 0))
      refine Tr.skip ?_
      refine Tr.seq ?_
      refine Tr.block ?_
      refine Tr.reg [2, 5, 7, 29, 30, 31] (by
          simp only [↓sxd, sxu, ↓zE, ↓exq, St.keep, ↓zD, Nat.reduceBEq, Nat.reduceLT, sxe, tysW15_47, hlt]
          (repeat' (first | rfl | exact trivial | exact fun h => h | exact fun h => (by rw [h]; rfl) | apply And.intro | omega | exact Nat.le_of_ble_eq_true rfl))) ?_
      refine Tr.reg [2, 5, 8, 10, 29, 30, 31] (by
          simp only [↓sxd, sxu, ↓zE, ↓exq, St.keep, ↓zD, Nat.reduceBEq, Nat.reduceAdd, Nat.reduceLT, tysW15_47]
          (repeat ((with_reducible refine And.intro ?_ ?_); (focus (first | with_reducible rfl | trivial | exact fun h => h | exact fun h => (by rw [h]; rfl) | omega | assumption))))
          refine CallO.use (next_c c hok k hkc e0 e1 e2 (codes.getD k 0)) ?_
          try simp only [↓sxd, sxu, ↓zE, ↓exq, ↓zN, ↓zM, Nat.reduceBEq, Nat.reduceAdd, Nat.reduceLT, Nat.reduceEqDiff, tysW15_47, hA]
          (repeat' (first | rfl | exact trivial | exact fun h => h | exact fun h => (by rw [h]; rfl) | apply And.intro | omega | exact Nat.le_of_ble_eq_true rfl))) ?_
      refine Tr.seq ?_
      refine Tr.reg [2, 5, 8, 29, 30, 31, 44] (by
          simp only [↓sxd, sxu, ↓zE, ↓exq, St.keep, ↓zL, Nat.reduceBEq, Nat.reduceLT]
          (repeat' (first | rfl | exact trivial | exact fun h => h | exact fun h => (by rw [h]; rfl) | apply And.intro | omega | exact Nat.le_of_ble_eq_true rfl))) ?_
      refine Tr.cond rfl (fun h44 => ?_) (fun h44 => ?_)
      · have hz : (c.next k [e0, e1, e2] (codes.getD k 0)).2.2 = false := by simpa using h44
        have hn1 : c.runTo codes (k + 1) = none := by rw [Coding.runTo, hrun]; simp only [hz]; rfl
        have hff : c.proves codes = false := by
          have := runTo_none hn1 (codes.length - (k + 1))
          rw [show k + 1 + (codes.length - (k + 1)) = codes.length by omega] at this
          rw [hf, this]; rfl
        rw [hff]
        refine Tr.reg [4] (by
            simp only [↓sxd, sxu, ↓zE, ↓exq, St.keep, Nat.reduceLT]
            (repeat' (first | rfl | exact trivial | exact fun h => h | exact fun h => (by rw [h]; rfl) | apply And.intro | omega | exact Nat.le_of_ble_eq_true rfl))) ?_
        refine Tr.ret ?_
        (refine ⟨.inr rfl, ?_⟩; first | rfl | exact ⟨rfl, rfl, trivial⟩ | exact ⟨rfl, rfl, rfl, trivial⟩ | (simp only [Res, ResL, ResOK, ↓sxd, sxu, ↓zE, ↓zC, zK, ↓exP, ↓exq, ↓zB, St.keep, ↓zH, ↓zL, ↓zJ, ↓zD, ↓zN, ↓zM, ↓zI, ↓zA, Nat.reduceBEq, Nat.reduceAdd, Nat.reduceLT, Nat.reduceMul, Nat.reduceSub, Nat.reduceLeDiff, Nat.reduceEqDiff, Int.reduceLE, Int.reduceLT, Int.reduceToNat, reduceIte, implies_true, sxe, tysW15_47]; (repeat' (first | rfl | exact trivial | exact fun h => h | exact fun h => (by rw [h]; rfl) | apply And.intro | omega | exact Nat.le_of_ble_eq_true rfl))))
      · have hz : (c.next k [e0, e1, e2] (codes.getD k 0)).2.2 = true := by simpa using h44
        have hn1 : c.runTo codes (k + 1) = some [a0, a1, a2] := by rw [Coding.runTo, hrun]; simp only [hz, if_true, hA]
        have hat := next_at c k [e0, e1, e2] (codes.getD k 0) hz
        rw [hat]
        refine Tr.skip ?_
        refine Tr.reg1 [2, 5, 29, 30, 31] (by
            simp only [↓sxd, sxu, ↓zE, ↓exq, St.keep, ↓zD, Nat.reduceBEq, Nat.reduceAdd, Nat.reduceLT, Nat.reduceEqDiff, tysW15_47]
            (repeat' (first | rfl | exact trivial | exact fun h => h | exact fun h => (by rw [h]; rfl) | apply And.intro | omega | exact Nat.le_of_ble_eq_true rfl))) ?_
        have w1 : IntKind.i64.wrap ((k : Int) + 1) = ((k + 1 : Nat) : Int) := by rw [wr (by omega) (by omega)]; rfl
        refine Tr.reg1 [2, 5, 29, 30, 31] (by
            simp only [↓sxd, sxu, ↓zE, ↓exq, St.keep, Nat.reduceBEq, Nat.reduceLT, w1]
            (repeat' (first | rfl | exact trivial | exact fun h => h | exact fun h => (by rw [h]; rfl) | apply And.intro | omega | exact Nat.le_of_ble_eq_true rfl))) ?_
        exact ⟨_, _, by omega, Imp.go (fun i => if i < 2 then i else i + 1) _ rfl rfl (.cons _ (.refl _)) (fun _ h => absurd h (Nat.not_lt_zero _)) (fun id h => by simp only [show ¬ id < 2 by omega, if_false]; omega) (by repeat' (first | exact TmT.cons rfl (TnS.d _) ?_ | exact trivial | exact F2.nil | refine F2.append ?_ ?_ | refine F2.map fun _ _ => ?_ | refine F2.cons ?_ ?_ | refine TmT.cons rfl ?_ ?_ | exact TnS.d _ | exact TnS.dx _ | exact TnS.dp _ | exact TnS.slc rfl | exact TnS.ptr rfl | refine TnS.frzf rfl (by simp) (by simp) (by simp) ?_ | refine TnS.frz0 rfl (by simp) (by simp) (by simp) ?_ | refine TnS.frzm rfl (by simp) ?_ | exact TnS.mapr rfl | exact TnS.yld rfl | refine ⟨rfl, ?_⟩ | refine TnO.arr ?_ | refine TnO.map ?_ | exact TnO.raw _ | exact TnO.iter _ _ | refine TnS.agg ?_ | refine TnS.tup ?_ | exact TnS.pure (Pure.clo (by assumption) (by assumption)) | refine TnS.clo ?_ ?_ | exact TnS.unk _ | exact TnS.pure (Pure.clo (by assumption) (by assumption)))) (by repeat' (first | exact TmT.cons rfl (TnS.d _) ?_ | exact trivial | exact F2.nil | refine F2.append ?_ ?_ | refine F2.map fun _ _ => ?_ | refine F2.cons ?_ ?_ | refine TmT.cons rfl ?_ ?_ | exact TnS.d _ | exact TnS.dx _ | exact TnS.dp _ | exact TnS.slc rfl | exact TnS.ptr rfl | refine TnS.frzf rfl (by simp) (by simp) (by simp) ?_ | refine TnS.frz0 rfl (by simp) (by simp) (by simp) ?_ | refine TnS.frzm rfl (by simp) ?_ | exact TnS.mapr rfl | exact TnS.yld rfl | refine ⟨rfl, ?_⟩ | refine TnO.arr ?_ | refine TnO.map ?_ | exact TnO.raw _ | exact TnO.iter _ _ | refine TnS.agg ?_ | refine TnS.tup ?_ | exact TnS.pure (Pure.clo (by assumption) (by assumption)) | refine TnS.clo ?_ ?_ | exact TnS.unk _ | exact TnS.pure (Pure.clo (by assumption) (by assumption)))) (fun _ => rfl), ⟨k + 1, a0, a1, a2, ⟨hlt, hn1⟩, rfl, rfl⟩⟩
    · have hge : k = codes.length := by simp at h32; omega
      have hff : c.proves codes = true := by rw [hf, ← hge, hrun]; rfl
      rw [hff]
      refine Tr.exit ?_
      refine Tr.reg [4] (by
          simp only [↓sxd, sxu, ↓zE, ↓exq, St.keep, Nat.reduceLT]
          (repeat' (first | rfl | exact trivial | exact fun h => h | exact fun h => (by rw [h]; rfl) | apply And.intro | omega | exact Nat.le_of_ble_eq_true rfl))) ?_
      refine Tr.ret ?_
      (refine ⟨.inr rfl, ?_⟩; first | rfl | exact ⟨rfl, rfl, trivial⟩ | exact ⟨rfl, rfl, rfl, trivial⟩ | (simp only [Res, ResL, ResOK, ↓sxd, sxu, ↓zE, ↓zC, zK, ↓exP, ↓exq, ↓zB, St.keep, ↓zH, ↓zL, ↓zJ, ↓zD, ↓zN, ↓zM, ↓zI, ↓zA, Nat.reduceBEq, Nat.reduceAdd, Nat.reduceLT, Nat.reduceMul, Nat.reduceSub, Nat.reduceLeDiff, Nat.reduceEqDiff, Int.reduceLE, Int.reduceLT, Int.reduceToNat, reduceIte, implies_true, sxe, tysW15_47]; (repeat' (first | rfl | exact trivial | exact fun h => h | exact fun h => (by rw [h]; rfl) | apply And.intro | omega | exact Nat.le_of_ble_eq_true rfl))))
end Go.Proofs.YtcnkbdfkjhlbiaaDoor
namespace Go.Sy
theorem exPick_and (a b : Bool) (K : SV → Prop) (h : K (.d (.lit (.bool (a && b))))) : zH (.d (.lit (.bool a))) (if a = true then .d (.lit (.bool b)) else .unk) (.d (.lit (.bool false))) K := by
  cases a <;> cases b <;> exact h
section
variable {P : Program} {G : Nat → Option (List D)}
theorem GdO.and {all : List Oper} {o : Oper} {os : List Oper} {st : St} {g : Bool} {K : St → Prop} {a b : Bool} (h : g = true → pickArgs o (fun x => gstrip (ev G st.tm x)) = some (.d (.lit (.bool a)), if a = true then .d (.lit (.bool b)) else .unk, .d (.lit (.bool false))))
    (k : xA P G all os ⟨putT o.dst (.whn g (.d (.lit (.bool (a && b))))) st.tm, st.hp, st.nx, st.nt, st.df, st.nb⟩ K) : GdO P G all o os st g K :=
  GdO.mk _ (fun hg => exq_pick (h hg) (exPick_and a b _ ⟨rfl, rfl, rfl⟩)) k
end
end Go.Sy
namespace Go.Proofs.YtcnkbdfkjhlbiaaDoor
open Go.Sy
set_option maxRecDepth 8000
theorem ib (p q : Nat) : ((p : Int) == (q : Int)) = (p == q) := by
  rw [Bool.eq_iff_iff, beq_iff_eq, beq_iff_eq]; omega
end Go.Proofs.YtcnkbdfkjhlbiaaDoor
namespace Go.Proofs.YtcnkbdfkjhlbiaaDoor
set_option maxRecDepth 8000
structure Says (c x : Census) : Prop where
  len : x.entries.length = c.entries.length
  ent : ∀ i, i < c.entries.length → (x.entry i).sched = (c.entry i).sched ∧ (x.entry i).sex = (c.entry i).sex ∧ (x.entry i).key = (c.entry i).key ∧ (c.entry i).ages.lo ≤ (x.entry i).ages.lo ∧ (x.entry i).ages.hi ≤ (c.entry i).ages.hi
  same : ∀ p ∈ c.same, p ∈ x.same
  apart : ∀ p ∈ c.apart, p ∈ x.apart
  om : c.omitted.lo ≤ x.omitted.lo ∧ x.omitted.hi ≤ c.omitted.hi
  nu : c.number.lo ≤ x.number.lo ∧ x.number.hi ≤ c.number.hi
structure Moves (c x : Census) (s : Nat → Nat) : Prop where
  len : x.entries.length = c.entries.length
  to : ∀ i, i < c.entries.length → s i < c.entries.length
  inj : ∀ i k, i < c.entries.length → k < c.entries.length → s i = s k → i = k
  sur : ∀ j, j < c.entries.length → ∃ i, i < c.entries.length ∧ s i = j
  ent : ∀ i, i < c.entries.length → x.entry i = c.entry (s i)
  same : ∀ p ∈ x.same, ∃ q ∈ c.same, s p.fst.toNat = q.fst.toNat ∧ s p.snd.toNat = q.snd.toNat
  apart : ∀ p ∈ x.apart, ∃ q ∈ c.apart, s p.fst.toNat = q.fst.toNat ∧ s p.snd.toNat = q.snd.toNat
end Go.Proofs.YtcnkbdfkjhlbiaaDoor
namespace Go.Proofs.YtcnkbdfkjhlbiaaDoor
open Go.Sy
set_option maxRecDepth 8000
structure Nar (c : Census) (E : List Entry) (O N : Rng) : Prop where
  len : E.length = c.entries.length
  val : ∀ e ∈ E, Entry.valid e = true
  ent : ∀ i, i < c.entries.length → (E.getD i default).sched = (c.entry i).sched ∧ (E.getD i default).sex = (c.entry i).sex ∧ (E.getD i default).key = (c.entry i).key ∧ (c.entry i).ages.lo ≤ (E.getD i default).ages.lo ∧ (E.getD i default).ages.hi ≤ (c.entry i).ages.hi
  om : c.omitted.lo ≤ O.lo ∧ O.lo ≤ O.hi ∧ O.hi ≤ c.omitted.hi
  nu : c.number.lo ≤ N.lo ∧ N.lo ≤ N.hi ∧ N.hi ≤ c.number.hi
end Go.Proofs.YtcnkbdfkjhlbiaaDoor
namespace Go.Proofs.YtcnkbdfkjhlbiaaDoor
open Go.Sy (aput)
set_option maxRecDepth 8000
def off (c : Coding) (k p : Nat) (x : Int) : Nat := if (c.codes.getD k []).getD p 0 ≠ x then 1 else 0
def errsAt (c : Coding) (k : Nat) : Nat → List Int → Nat
  | _, [] => 0
  | p, x :: w => off c k p x + errsAt c k (p + 1) w
def sumTo (f : Nat → Nat) : Nat → Nat
  | 0 => 0
  | n + 1 => sumTo f n + f n
def totAt (c : Coding) (p : Nat) (w : List Int) : Nat := sumTo (fun k => errsAt c k p w) c.codes.length
structure Comp (c : Coding) (p : Nat) (es : List Int) (w : List Int) : Prop where
  len : p + w.length = c.cols
  cod : ∀ x ∈ w, 0 ≤ x ∧ x ≤ 9
  few : ∀ k, k < c.codes.length → es.getD k 0 + errsAt c k p w ≤ c.wrong.getD k 0
structure Es (c : Coding) (p : Nat) (es : List Int) : Prop where
  len : es.length = 3
  bd : ∀ k, 0 ≤ es.getD k 0 ∧ es.getD k 0 ≤ p
def esNext (c : Coding) (p : Nat) (es : List Int) (x : Int) : List Int := (c.nextTo p es x c.codes.length).1
def OkNext (c : Coding) (p : Nat) (es : List Int) (x : Int) : Prop := ∀ k, k < c.codes.length → es.getD k 0 + off c k p x ≤ c.wrong.getD k 0
instance (c : Coding) (p : Nat) (es : List Int) (x : Int) : Decidable (OkNext c p es x) := by unfold OkNext; infer_instance
def IsBest (c : Coding) (p : Nat) (es : List Int) (n : Int) : Prop :=
  (n = -1 ∧ ∀ w, ¬ Comp c p es w) ∨ (∃ w, Comp c p es w ∧ n = totAt c p w ∧ ∀ w', Comp c p es w' → n ≤ totAt c p w')
structure MemOk (c : Coding) (m : Mem) : Prop where
  ok : ∀ p es n, p < c.cols → Es c p es → m.lookup (keyOf p es) = some n → IsBest c p es n
  shut : ∀ p es, p < c.cols → Es c p es → (m.lookup (keyOf p es)).isSome = true → ∀ x : Int, 0 ≤ x → x ≤ 9 → OkNext c p es x → p + 1 = c.cols ∨ (m.lookup (keyOf (p + 1) (esNext c p es x))).isSome = true
end Go.Proofs.YtcnkbdfkjhlbiaaDoor
namespace Go.Proofs.YtcnkbdfkjhlbiaaDoor
open Go.Sy (aput)
set_option maxRecDepth 8000
inductive Pre (c : Coding) : Nat → List Int → List Int → Prop
  | nil : Pre c 0 [] e000
  | snoc {p : Nat} {v es : List Int} {x : Int} (h : Pre c p v es) (h1 : 0 ≤ x ∧ x ≤ 9) (h2 : OkNext c p es x) : Pre c (p + 1) (v ++ [x]) (esNext c p es x)
structure CodingFine (c : Coding) : Prop where
  ok : CodingOk c
  n0 : 0 < c.codes.length
  c0 : 0 < c.cols
  wr : ∀ k, k < c.codes.length → 0 ≤ c.wrong.getD k 0 ∧ c.wrong.getD k 0 ≤ 10
  cd : ∀ k, k < c.codes.length → (c.codes.getD k []).all isCode = true
end Go.Proofs.YtcnkbdfkjhlbiaaDoor
namespace Go.Proofs.YtcnkbdfkjhlbiaaDoor
open Go.Sy
set_option maxRecDepth 8000
theorem getD_memI {l : List (List Int)} {i : Nat} (h : i < l.length) : l.getD i [] ∈ l := getD_mem h
abbrev uL (l : List (List Int)) : List (List SV) := l.map fun u => [SI u]
theorem uL_fz {r : Nat → Nat} {hp hp' : HpT} (l : List (List Int)) : F2 (F2 fun s x => TnS r hp hp' s (.d x)) (uL l) (dL l) := by
  rw [dL]; exact F2.map fun n _ => .cons (TnS.d _) .nil
end Go.Proofs.YtcnkbdfkjhlbiaaDoor
namespace Go.Proofs.YtcnkbdfkjhlbiaaDoor
open Go.Sy
set_option maxRecDepth 8000
def asgOne (n : Nat) (l : List Int) (seen : Nat) : Nat → Option (Nat × Nat)
  | 0 => some (0, seen)
  | i + 1 => match asgOne n l seen i with
    | none => none
    | some x => if !(within (l.getD i 0) 0 (n - 1)) || x.2.testBit (l.getD i 0).toNat || (decide (0 < i) && decide (l.getD i 0 ≤ l.getD (i - 1) 0)) then none
      else some (x.1 ||| 2 ^ (l.getD i 0).toNat, x.2 ||| 2 ^ (l.getD i 0).toNat)
def Census.keeps (c : Census) (s : Nat) : Bool := c.same.all fun p => s.testBit p.fst.toNat == s.testBit p.snd.toNat
def Census.asgTo (c : Census) (ls : List (List Int)) : Nat → Option Nat
  | 0 => some 0
  | k + 1 => match c.asgTo ls k with
    | none => none
    | some sn => match asgOne c.entries.length (ls.getD k []) sn (ls.getD k []).length with
      | none => none
      | some x => if x.1 = 0 ∨ c.fitsSet x.1 = false ∨ c.keeps x.1 = false then none else some x.2
def Census.asg (c : Census) (ls : List (List Int)) : Bool := if c.check = 0 then (match c.asgTo ls ls.length with
    | none => false
    | some sn => decide ((elems sn).length = c.entries.length) && within ls.length c.limits.lo c.limits.hi) else false
theorem asgOne_none {n : Nat} {l : List Int} {seen i : Nat} (h : asgOne n l seen i = none) : ∀ d, asgOne n l seen (i + d) = none
  | 0 => h
  | d + 1 => by show asgOne n l seen (i + d + 1) = none; rw [asgOne, asgOne_none h d]
theorem asgTo_none {c : Census} {ls : List (List Int)} {k : Nat} (h : c.asgTo ls k = none) : ∀ d, c.asgTo ls (k + d) = none
  | 0 => h
  | d + 1 => by show c.asgTo ls (k + d + 1) = none; rw [Census.asgTo, asgTo_none h d]
theorem asgOne_lt {n : Nat} {l : List Int} {seen : Nat} (hs : seen < 2 ^ n) : ∀ i x, asgOne n l seen i = some x → x.1 < 2 ^ n ∧ x.2 < 2 ^ n
  | 0, x, h => by simp [asgOne] at h; subst h; exact ⟨Nat.two_pow_pos n, hs⟩
  | i + 1, x, h => by
    rw [asgOne] at h
    split at h
    · cases h
    · rename_i y hy
      obtain ⟨h1, h2⟩ := asgOne_lt hs i y hy
      split at h
      · cases h
      · rename_i g
        cases h
        have hw : within (l.getD i 0) 0 (n - 1) = true := by
          simp only [Bool.or_eq_true, not_or, Bool.not_eq_true', Bool.not_eq_false] at g
          exact g.1.1
        simp only [within, Bool.and_eq_true, decide_eq_true_eq] at hw
        have : 2 ^ (l.getD i 0).toNat < 2 ^ n := Nat.pow_lt_pow_right (by omega) (by omega)
        exact ⟨Nat.or_lt_two_pow h1 this, Nat.or_lt_two_pow h2 this⟩
theorem frzW0 {hp hp' : HpT} {iw : Nat} {c : Census} {one : List Bool} {least : List Int} (hw : hp.lookup iw = some (.arr 2056 [wsOf c (.dx []) one least])) (h1 : ∀ p ∈ hp', p.1 ≠ iw) : TnS (fun i => i) hp hp' (.ptr iw 0 0) (.dp (Work.mk c [] one least).d) := by
  refine TnS.frzp hw h1 (by decide) (by simp) ?_
  show F2 _ (wsOf c (.dx []) one least) _
  refine .cons (TnS.d _) (.cons (TnS.d _) (.cons (TnS.d _) (.cons (TnS.d _) (.cons (TnS.d _) (.cons (TnS.d _) (.cons (TnS.d _) (.cons (TnS.dxd _) (F2.append ?_ ?_))))))))
  · exact F2.map fun _ _ => TnS.d _
  · exact F2.map fun _ _ => TnS.d _
theorem asgOne_step {n : Nat} {l : List Int} {seen i : Nat} {x : Nat × Nat} (h : asgOne n l seen i = some x) : asgOne n l seen (i + 1) = if !(within (l.getD i 0) 0 (n - 1)) || x.2.testBit (l.getD i 0).toNat || (decide (0 < i) && decide (l.getD i 0 ≤ l.getD (i - 1) 0)) then none
      else some (x.1 ||| 2 ^ (l.getD i 0).toNat, x.2 ||| 2 ^ (l.getD i 0).toNat) := by rw [asgOne, h]
theorem asg_none {c : Census} {ls : List (List Int)} {k : Nat} (hk : k < ls.length) (h : c.asgTo ls (k + 1) = none) : c.asg ls = false := by
  unfold Census.asg
  have := asgTo_none h (ls.length - (k + 1))
  rw [show k + 1 + (ls.length - (k + 1)) = ls.length by omega] at this
  rw [this]
  split <;> rfl
theorem frzOwn {hp hp' : HpT} {id own : Nat} (h : hp.lookup id = some (.arr 1 [[U own]])) (hn : ∀ p ∈ hp', p.1 ≠ id) : TnS (fun i => i) hp hp' (.ptr id 0 0) (.fp [U own]) := TnS.frzf h hn (by decide) (by simp) (.cons (TnS.d _) .nil)
theorem keeps_c (c : Census) (hpr : ∀ p ∈ c.same, 0 ≤ p.fst ∧ 0 ≤ p.snd) (hl : c.same.length < 4611686018427387904) (s : Nat) (hs : s < 4096) : CallP Tryd.prog G0 85 [SP c.same, .clo (.func 89) [] [.fp [U s]]] (B (c.keeps s)) :=
  allP_c (fun p => s.testBit p.fst.toNat == s.testBit p.snd.toNat) c.same hl 89 [] [.fp [U s]] fa_nil (by repeat' (first | exact Pure.d _ | exact Pure.dx _ | exact Pure.dp _ | exact fa_nil | refine fa_cons ?_ ?_ | refine Pure.agg ?_ | refine Pure.tup ?_ | refine Pure.clo ?_ ?_ | refine Pure.fp ?_ | exact Pure.mapd _ | assumption)) (fun p hp => keeps1_c p s (by omega) (hpr p hp).1 (hpr p hp).2)
abbrev tysW40_49 := And.intro ty.sz0 <| And.intro ty.agg0 <| And.intro ty.elem0 <| And.intro ty.sz3 <| And.intro ty.agg3 <| And.intro ty.elem3 <| And.intro ty.zero3 <| And.intro ty.und3 <| And.intro ty.sz4 <| And.intro ty.agg4 <| And.intro ty.elem4 <| And.intro ty.zero4 <| And.intro ty.und4 <| And.intro ty.sz30 <| And.intro ty.agg30 <| And.intro ty.fld30_0 <| And.intro ty.fld30_1 <| And.intro ty.elem30 <| And.intro ty.zero30 <| And.intro ty.pl30 <| And.intro ty.sz31 <| And.intro ty.agg31 <| And.intro ty.elem31 <| And.intro ty.zero31 <| And.intro ty.und31 <| And.intro ty.sz34 <| And.intro ty.agg34 <| And.intro ty.elem34 <| And.intro ty.by34 <| And.intro ty.ez34 <| And.intro ty.zero34 <| And.intro ty.und34 <| And.intro ty.sz35 <| And.intro ty.agg35 <| And.intro ty.elem35 <| And.intro ty.by35 <| And.intro ty.ez35 <| And.intro ty.zero35 <| And.intro ty.und35 <| And.intro ty.sz37 <| And.intro ty.agg37 <| And.intro ty.fld37_0 <| And.intro ty.fld37_1 <| And.intro ty.fld37_2 <| And.intro ty.fld37_3 <| And.intro ty.fld37_4 <| And.intro ty.elem37 <| And.intro ty.zero37 <| And.intro ty.pl37 <| And.intro ty.sz39 <| And.intro ty.agg39 <| And.intro ty.elem39 <| And.intro ty.by39 <| And.intro ty.ez39 <| And.intro ty.zero39 <| And.intro ty.und39 <| And.intro ty.sz43 <| And.intro ty.agg43 <| And.intro ty.elem43 <| And.intro ty.by43 <| And.intro ty.ez43 <| And.intro ty.zero43 <| And.intro ty.und43 <| And.intro ty.sz108 <| And.intro ty.agg108 <| And.intro ty.elem108 <| And.intro ty.zero108 <| And.intro ty.sz114 <| And.intro ty.agg114 <| And.intro ty.elem114 <| And.intro ty.zero114 <| And.intro ty.und114 <| And.intro ty.sz138 <| And.intro ty.agg138 <| And.intro ty.elem138 <| And.intro ty.zero138 <| And.intro ty.sz146 <| And.intro ty.agg146 <| And.intro ty.fld146_0 <| And.intro ty.fld146_1 <| And.intro ty.fld146_2 <| And.intro ty.fld146_3 <| And.intro ty.elem146 <| And.intro ty.zero146 <| ty.pl146
set_option maxHeartbeats 4000000 in
theorem ProveAssignment_c (c : Census) (hs : c.small) (ls : List (List Int)) (hl : ls.length ≤ 1000) (hls : ∀ l ∈ ls, l.length ≤ 1000) : CallP Tryd.prog G0 49 [c.s, SL ls] (B (c.asg ls)) := by
  obtain ⟨z1, hz1⟩ : ∃ x, x = List.replicate 1024 false := ⟨_, rfl⟩
  obtain ⟨z2, hz2⟩ : ∃ x, x = List.replicate 1024 (0 : Int) := ⟨_, rfl⟩
  have e1 : List.replicate 1024 (SV.d (D.lit (Value.bool false))) = z1.map B := by rw [hz1, List.map_replicate]
  have e2 : List.replicate 1024 (SV.d (D.lit (Value.int .i64 0))) = z2.map I := by rw [hz2, List.map_replicate]
  have l1 : z1.length = 1024 := by rw [hz1, List.length_replicate]
  have l2 : z2.length = 1024 := by rw [hz2, List.length_replicate]
  refine CallP.body 100 [.tmp 4] Tryd.func49 (by kernel_rfl) rfl rfl rfl (by repeat' (first | exact Pure.d _ | exact Pure.dx _ | exact Pure.dp _ | exact fa_nil | refine fa_cons ?_ ?_ | refine Pure.agg ?_ | refine Pure.tup ?_ | refine Pure.clo ?_ ?_ | refine Pure.fp ?_ | exact Pure.mapd _ | assumption)) (by repeat' (first | exact Pure.d _ | exact Pure.dx _ | exact Pure.dp _ | exact fa_nil | refine fa_cons ?_ ?_ | refine Pure.agg ?_ | refine Pure.tup ?_ | refine Pure.clo ?_ ?_ | refine Pure.fp ?_ | exact Pure.mapd _ | assumption)) ?_
  refine Tr.reg [1, 2] (by
      simp only [↓sxd, sxu, ↓zE, ↓exq, St.keep, ↓zI, Nat.reduceBEq, Nat.reduceAdd, Nat.reduceLT, Nat.reduceEqDiff]
      (repeat' (first | rfl | exact trivial | exact fun h => h | exact fun h => (by rw [h]; rfl) | apply And.intro | omega | exact Nat.le_of_ble_eq_true rfl))) ?_
  refine Tr.seq ?_
  refine Tr.reg [1, 2, 15] (by
      simp only [↓sxd, sxu, ↓zE, ↓exq, St.keep, ↓zD, Nat.reduceBEq, Nat.reduceAdd, Nat.reduceLT, tysW40_49]
      (repeat ((with_reducible refine And.intro ?_ ?_); (focus (first | with_reducible rfl | trivial | exact fun h => h | exact fun h => (by rw [h]; rfl) | omega | assumption))))
      refine CallO.use (checkCensus_c c (by have := hs.1; omega) (by have := hs.2.1; omega) (by have := hs.2.2; omega)) ?_
      try simp only [↓sxd, sxu, ↓zE, ↓exq, Nat.reduceBEq, Nat.reduceLT]
      (repeat' (first | rfl | exact trivial | exact fun h => h | exact fun h => (by rw [h]; rfl) | apply And.intro | omega | exact Nat.le_of_ble_eq_true rfl))) ?_
  refine Tr.cond rfl (fun h15 => ?_) (fun h15 => ?_)
  · have hf : c.asg ls = false := if_neg (by simpa using h15)
    rw [hf]
    refine Tr.reg [4] (by
        simp only [↓sxd, sxu, ↓zE, ↓exq, St.keep, Nat.reduceLT]
        (repeat' (first | rfl | exact trivial | exact fun h => h | exact fun h => (by rw [h]; rfl) | apply And.intro | omega | exact Nat.le_of_ble_eq_true rfl))) ?_
    refine Tr.ret ?_
    (refine ⟨.inr rfl, ?_⟩; first | rfl | exact ⟨rfl, rfl, trivial⟩ | exact ⟨rfl, rfl, rfl, trivial⟩ | (simp only [Res, ResL, ResOK, ↓sxd, sxu, ↓zE, ↓zC, zK, ↓exP, ↓exq, ↓zB, St.keep, ↓zH, ↓zL, ↓zJ, ↓zD, ↓zM, ↓zI, ↓zO, ↓zA, Nat.reduceBEq, Nat.reduceAdd, Nat.reduceLT, Nat.reduceMul, Nat.reduceSub, Nat.reduceLeDiff, Nat.reduceEqDiff, Int.reduceLE, Int.reduceLT, Int.reduceToNat, reduceIte, implies_true, sxe, tysW40_49]; (repeat' (first | rfl | exact trivial | exact fun h => h | exact fun h => (by rw [h]; rfl) | apply And.intro | omega | exact Nat.le_of_ble_eq_true rfl))))
  · have hk : c.check = 0 := by simpa using h15
    have hfi := fine_iff.1 hk
    have hn := Census.small_of hk
    have hpn : 2 ^ c.entries.length ≤ 2 ^ 10 := Nat.pow_le_pow_right (by omega) hn.1
    have hprS : ∀ p ∈ c.same, 0 ≤ p.fst ∧ 0 ≤ p.snd := fun p hp => by have := hfi.ps p hp; rw [pair_iff] at this; omega
    have hprA : ∀ p ∈ c.apart, 0 ≤ p.fst ∧ 0 ≤ p.snd := fun p hp => by have := hfi.pa p hp; rw [pair_iff] at this; omega
    have w0 : IntKind.i64.wrap ((c.entries.length : Int) - 1) = (c.entries.length : Int) - 1 := wr (by omega) (by omega)
    refine Tr.skip ?_
    refine Tr.reg [1, 2, 5] (by
        simp only [↓sxd, sxu, ↓zE, ↓exq, St.keep, ↓zD, ↓zI, ↓zO, Nat.reduceBEq, Nat.reduceAdd, Nat.reduceLT, Nat.reduceLeDiff, Nat.reduceEqDiff, tysW40_49, e1, e2, l1, l2]
        (repeat' (first | rfl | exact trivial | exact fun h => h | exact fun h => (by rw [h]; rfl) | apply And.intro | omega | exact Nat.le_of_ble_eq_true rfl))) ?_
    refine Tr.reg [1, 2, 5, 6] (by
        simp only [↓sxd, sxu, ↓zE, ↓exq, St.keep, Nat.reduceBEq, Nat.reduceLT]
        (repeat' (first | rfl | exact trivial | exact fun h => h | exact fun h => (by rw [h]; rfl) | apply And.intro | omega | exact Nat.le_of_ble_eq_true rfl))) ?_
    refine Tr.seq ?_
    refine Tr.reg [1, 2, 5, 6, 19, 20, 21] (by
        simp only [↓sxd, sxu, ↓zE, ↓exq, ↓zB, St.keep, ↓zJ, Nat.reduceBEq, Nat.reduceLT, sxe, tysW40_49]
        (repeat' (first | rfl | exact trivial | exact fun h => h | exact fun h => (by rw [h]; rfl) | apply And.intro | omega | exact Nat.le_of_ble_eq_true rfl))) ?_
    refine Tr.imp (st' := ⟨[(1, SL ls), (2, .ptr 0 0 0), (5, .ptr 1 0 0), (6, U 0), (19, SL ls), (20, I ls.length), (21, I 0)], [(1, .arr 2056 [wsOf c (.dx []) z1 z2]), (0, .arr 7 [cs c (SP c.same) (SP c.apart)])], 2, 100, [], 0⟩) (Imp.keepAll) (Tr.block (Tr.loopI (fun mm ss => ∃ (k sn : Nat), (k ≤ ls.length ∧ c.asgTo ls k = some sn ∧ sn < 2 ^ c.entries.length) ∧ ls.length - k = mm ∧ ss = ⟨[(1, SL ls), (2, .ptr 0 0 0), (5, .ptr 1 0 0), (6, U sn), (19, SL ls), (20, I ls.length), (21, I k)], [(1, .arr 2056 [wsOf c (.dx []) z1 z2]), (0, .arr 7 [cs c (SP c.same) (SP c.apart)])], 2, 100, [], 0⟩) _ ⟨0, 0, ?_, rfl, rfl⟩ ?_))
    · exact ⟨Nat.zero_le _, rfl, Nat.two_pow_pos _⟩
    rintro mm ss ⟨k, sn, hI, rfl, rfl⟩
    obtain ⟨hI, hto, hsn⟩ := hI
    refine Tr.reg [1, 2, 5, 6, 19, 20, 21, 22] (by
        simp only [↓sxd, sxu, ↓zE, ↓exq, St.keep, Nat.reduceBEq, Nat.reduceLT, sxe]
        (repeat' (first | rfl | exact trivial | exact fun h => h | exact fun h => (by rw [h]; rfl) | apply And.intro | omega | exact Nat.le_of_ble_eq_true rfl))) ?_
    refine Tr.seq ?_
    refine Tr.cond rfl (fun h22 => ?_) (fun h22 => ?_)
    · have hlt : k < ls.length := by have := of_decide_eq_true h22; omega
      have hll := hls _ (getD_memI hlt)
      have hnx : c.asgTo ls (k + 1) = match asgOne c.entries.length (ls.getD k []) sn (ls.getD k []).length with | none => none | some x => if x.1 = 0 ∨ c.fitsSet x.1 = false ∨ c.keeps x.1 = false then none else some x.2 := by rw [Census.asgTo, hto]
      generalize hL : ls.getD k [] = L at hll hnx
      refine Tr.skip ?_
      refine Tr.seq ?_
      refine Tr.block ?_
      refine Tr.reg [1, 2, 5, 6, 8, 19, 20, 21] (by
          simp only [↓sxd, sxu, ↓zE, ↓exq, St.keep, ↓zD, Nat.reduceBEq, Nat.reduceLT, sxe, tysW40_49, hlt, hL]
          (repeat' (first | rfl | exact trivial | exact fun h => h | exact fun h => (by rw [h]; rfl) | apply And.intro | omega | exact Nat.le_of_ble_eq_true rfl))) ?_
      refine Tr.reg [1, 2, 5, 6, 8, 9, 19, 20, 21] (by
          simp only [↓sxd, sxu, ↓zE, ↓exq, St.keep, ↓zM, Nat.reduceBEq, Nat.reduceAdd, Nat.reduceLT, Nat.reduceEqDiff, tysW40_49]
          (repeat' (first | rfl | exact trivial | exact fun h => h | exact fun h => (by rw [h]; rfl) | apply And.intro | omega | exact Nat.le_of_ble_eq_true rfl))) ?_
      refine Tr.seq ?_
      refine Tr.reg [1, 2, 5, 6, 8, 9, 19, 20, 21, 25, 26, 27] (by
          simp only [↓sxd, sxu, ↓zE, ↓exq, ↓zB, St.keep, ↓zJ, Nat.reduceBEq, Nat.reduceLT, sxe, tysW40_49]
          (repeat' (first | rfl | exact trivial | exact fun h => h | exact fun h => (by rw [h]; rfl) | apply And.intro | omega | exact Nat.le_of_ble_eq_true rfl))) ?_
      refine Tr.imp (st' := ⟨[(1, SL ls), (2, .ptr 0 0 0), (5, .ptr 1 0 0), (6, U sn), (8, SI L), (9, .ptr 2 0 0), (19, SL ls), (20, I ls.length), (21, I k), (25, SI L), (26, I L.length), (27, I 0)], [(2, .arr 1 [[U 0]]), (1, .arr 2056 [wsOf c (.dx []) z1 z2]), (0, .arr 7 [cs c (SP c.same) (SP c.apart)])], 3, 100, [], 0⟩) (Imp.keepAll) (Tr.block (Tr.loopI (fun mm ss => ∃ (i own s2 : Nat), (i ≤ L.length ∧ asgOne c.entries.length L sn i = some (own, s2) ∧ own < 2 ^ c.entries.length ∧ s2 < 2 ^ c.entries.length) ∧ L.length - i = mm ∧ ss = ⟨[(1, SL ls), (2, .ptr 0 0 0), (5, .ptr 1 0 0), (6, U s2), (8, SI L), (9, .ptr 2 0 0), (19, SL ls), (20, I ls.length), (21, I k), (25, SI L), (26, I L.length), (27, I i)], [(2, .arr 1 [[U own]]), (1, .arr 2056 [wsOf c (.dx []) z1 z2]), (0, .arr 7 [cs c (SP c.same) (SP c.apart)])], 3, 100, [], 0⟩) _ ⟨0, 0, sn, ?_, rfl, rfl⟩ ?_))
      · exact ⟨Nat.zero_le _, rfl, Nat.two_pow_pos _, hsn⟩
      rintro mm ss ⟨i, own, s2, hI, rfl, rfl⟩
      obtain ⟨hI2, hone, hown, hs2⟩ := hI
      refine Tr.reg [1, 2, 5, 6, 8, 9, 19, 20, 21, 25, 26, 27, 28] (by
          simp only [↓sxd, sxu, ↓zE, ↓exq, St.keep, Nat.reduceBEq, Nat.reduceLT, sxe]
          (repeat' (first | rfl | exact trivial | exact fun h => h | exact fun h => (by rw [h]; rfl) | apply And.intro | omega | exact Nat.le_of_ble_eq_true rfl))) ?_
      refine Tr.seq ?_
      refine Tr.cond rfl (fun h28 => ?_) (fun h28 => ?_)
      · have hlt2 : i < L.length := by have := of_decide_eq_true h28; omega
        have hi1 : i - 1 < L.length := by omega
        have hst := asgOne_step hone
        refine Tr.skip ?_
        refine Tr.seq ?_
        refine Tr.block ?_
        refine Tr.reg [1, 2, 5, 6, 8, 9, 10, 11, 19, 20, 21, 25, 26, 27] (by
            simp only [↓sxd, sxu, ↓zE, ↓exq, St.keep, ↓zD, Nat.reduceBEq, Nat.reduceLT, sxe, tysW40_49, hlt2]
            (repeat' (first | rfl | exact trivial | exact fun h => h | exact fun h => (by rw [h]; rfl) | apply And.intro | omega | exact Nat.le_of_ble_eq_true rfl))) ?_
        refine Tr.seq ?_
        refine Tr.reg [1, 2, 5, 6, 8, 9, 11, 19, 20, 21, 25, 26, 27, 56] (by
            simp only [↓sxd, sxu, ↓zE, ↓exq, ↓zB, St.keep, ↓zJ, ↓zD, ↓zA, Nat.reduceBEq, Nat.reduceAdd, Nat.reduceLT, Nat.reduceEqDiff, sxe, tysW40_49, w0]
            (repeat ((with_reducible refine And.intro ?_ ?_); (focus (first | with_reducible rfl | trivial | exact fun h => h | exact fun h => (by rw [h]; rfl) | omega | assumption))))
            refine CallO.use (within_c _ _ _ _) ?_
            try simp only [↓sxd, sxu, ↓zE, ↓exq, ↓zL, Nat.reduceLT]
            iterate 2
              (repeat ((with_reducible refine And.intro ?_ ?_); (focus (first | with_reducible rfl | trivial | exact fun h => h | exact fun h => (by rw [h]; rfl) | omega | assumption))))
              refine GdO.mk _ (fun hg => by simp only [sxu, ↓exq, Nat.reduceBEq, hg]; (repeat' (first | rfl | exact trivial | exact fun h => h | exact fun h => (by rw [h]; rfl) | apply And.intro | omega | exact Nat.le_of_ble_eq_true rfl))) ?_
              simp only [↓sxd, sxu, ↓zE, Nat.reduceBEq, Nat.reduceLT]
            (repeat ((with_reducible refine And.intro ?_ ?_); (focus (first | with_reducible rfl | trivial | exact fun h => h | exact fun h => (by rw [h]; rfl) | omega | assumption))))
            refine GdO.mk (B (s2.testBit (L.getD i 0).toNat)) (fun hg => by
              have hx : 0 ≤ L.getD i 0 := by
                have hg : (decide (0 ≤ L.getD i 0) && decide (L.getD i 0 ≤ (c.entries.length : Int) - 1)) = true := by simpa using hg
                rw [Bool.and_eq_true, decide_eq_true_eq] at hg
                exact hg.1
              obtain ⟨y, hy⟩ := Int.eq_ofNat_of_zero_le hx
              simp only [sxu, ↓exq, ↓zB, Nat.reduceBEq, hg]
              simp only [hy, Int.toNat_natCast]
              (repeat ((with_reducible refine And.intro ?_ ?_); (focus (first | with_reducible rfl | trivial | exact fun h => h | exact fun h => (by rw [h]; rfl) | omega | assumption))))
              exact CallP.use (has_c s2 y (by omega)) ⟨rfl, rfl, rfl⟩) ?_
            try simp only [↓sxd, sxu, ↓zE, ↓exq, ↓zH, Nat.reduceBEq, Nat.reduceLT]
            iterate 6
              (repeat ((with_reducible refine And.intro ?_ ?_); (focus (first | with_reducible rfl | trivial | exact fun h => h | exact fun h => (by rw [h]; rfl) | omega | assumption))))
              refine GdO.mk _ (fun hg => by simp only [↓sxd, sxu, ↓exq, Nat.reduceBEq, hg]; (repeat' (first | rfl | exact trivial | exact fun h => h | exact fun h => (by rw [h]; rfl) | apply And.intro | omega | exact Nat.le_of_ble_eq_true rfl))) ?_
              simp only [↓sxd, sxu, ↓zE, Nat.reduceBEq, Nat.reduceLT]
            (repeat ((with_reducible refine And.intro ?_ ?_); (focus (first | with_reducible rfl | trivial | exact fun h => h | exact fun h => (by rw [h]; rfl) | omega | assumption))))
            refine GdO.mk (I ((i - 1 : Nat) : Int)) (fun hg => by
              have h0 : 0 < i := by
                rw [Bool.and_eq_true, decide_eq_true_eq] at hg; omega
              have hw : IntKind.i64.wrap ((i : Int) - 1) = ((i - 1 : Nat) : Int) := by rw [wr (by omega) (by omega)]; omega
              simp only [↓sxd, sxu, ↓exq, hg, hw]
              (repeat' (first | rfl | exact trivial | exact fun h => h | exact fun h => (by rw [h]; rfl) | apply And.intro | omega | exact Nat.le_of_ble_eq_true rfl))) ?_
            try simp only [↓sxd, sxu, ↓zE, Nat.reduceBEq, Nat.reduceLT]
            iterate 3
              (repeat ((with_reducible refine And.intro ?_ ?_); (focus (first | with_reducible rfl | trivial | exact fun h => h | exact fun h => (by rw [h]; rfl) | omega | assumption))))
              refine GdO.mk _ (fun hg => by simp only [↓sxd, sxu, ↓exq, ↓zD, Nat.reduceBEq, Nat.reduceLT, sxe, tysW40_49, hi1, hg]; (repeat' (first | rfl | exact trivial | exact fun h => h | exact fun h => (by rw [h]; rfl) | apply And.intro | omega | exact Nat.le_of_ble_eq_true rfl))) ?_
              simp only [↓sxd, sxu, ↓zE, Nat.reduceBEq, Nat.reduceLT]
            (repeat ((with_reducible refine And.intro ?_ ?_); (focus (first | with_reducible rfl | trivial | exact fun h => h | exact fun h => (by rw [h]; rfl) | omega | assumption))))
            first | refine GdO.and (fun hg => by simp only [sxu, Nat.reduceBEq, pickArgs, hg]; (repeat' (first | rfl | exact trivial | exact fun h => h | exact fun h => (by rw [h]; rfl) | apply And.intro | omega | exact Nat.le_of_ble_eq_true rfl))) ?_ | refine GdO.mk _ (fun hg => by simp only [↓sxd, sxu, ↓zE, ↓zC, zK, ↓exP, ↓exq, ↓zB, St.keep, ↓zH, ↓zL, ↓zJ, ↓zD, ↓zM, ↓zI, ↓zO, ↓zA, Nat.reduceBEq, Nat.reduceAdd, Nat.reduceLT, Nat.reduceMul, Nat.reduceSub, Nat.reduceLeDiff, Nat.reduceEqDiff, Int.reduceLE, Int.reduceLT, Int.reduceToNat, reduceIte, implies_true, sxe, tysW40_49, w0, hi1, hlt2, hg, if_true]; (repeat' (first | rfl | exact trivial | exact fun h => h | exact fun h => (by rw [h]; rfl) | apply And.intro | omega | exact Nat.le_of_ble_eq_true rfl))) ?_
            simp only [↓sxd, sxu, ↓zE, ↓exq, ↓zH, Nat.reduceBEq, Nat.reduceLT]
            (repeat' (first | rfl | exact trivial | exact fun h => h | exact fun h => (by rw [h]; rfl) | apply And.intro | omega | exact Nat.le_of_ble_eq_true rfl))) ?_
        refine Tr.cond rfl (fun h56 => ?_) (fun h56 => ?_)
        · have hbad : asgOne c.entries.length L sn (i + 1) = none := by
            rw [hst, if_pos]
            have hi0 : decide ((i : Int) > 0) = decide (0 < i) := decide_eq_decide.2 (by omega)
            rw [hi0] at h56
            exact h56
          have hno : c.asgTo ls (k + 1) = none := by
            have := asgOne_none hbad (L.length - (i + 1))
            rw [show i + 1 + (L.length - (i + 1)) = L.length by omega] at this
            rw [hnx, this]
          have hf : c.asg ls = false := asg_none hlt hno
          rw [hf]
          refine Tr.reg [4] (by
              simp only [↓sxd, sxu, ↓zE, ↓exq, St.keep, Nat.reduceLT]
              (repeat' (first | rfl | exact trivial | exact fun h => h | exact fun h => (by rw [h]; rfl) | apply And.intro | omega | exact Nat.le_of_ble_eq_true rfl))) ?_
          refine Tr.ret ?_
          (refine ⟨.inr rfl, ?_⟩; first | rfl | exact ⟨rfl, rfl, trivial⟩ | exact ⟨rfl, rfl, rfl, trivial⟩ | (simp only [Res, ResL, ResOK, ↓sxd, sxu, ↓zE, ↓zC, zK, ↓exP, ↓exq, ↓zB, St.keep, ↓zH, ↓zL, ↓zJ, ↓zD, ↓zM, ↓zI, ↓zO, ↓zA, Nat.reduceBEq, Nat.reduceAdd, Nat.reduceLT, Nat.reduceMul, Nat.reduceSub, Nat.reduceLeDiff, Nat.reduceEqDiff, Int.reduceLE, Int.reduceLT, Int.reduceToNat, reduceIte, implies_true, sxe, tysW40_49]; (repeat' (first | rfl | exact trivial | exact fun h => h | exact fun h => (by rw [h]; rfl) | apply And.intro | omega | exact Nat.le_of_ble_eq_true rfl))))
        · have hgood : asgOne c.entries.length L sn (i + 1) = some (own ||| 2 ^ (L.getD i 0).toNat, s2 ||| 2 ^ (L.getD i 0).toNat) := by
            rw [hst, if_neg]
            have hi0 : decide ((i : Int) > 0) = decide (0 < i) := decide_eq_decide.2 (by omega)
            rw [hi0] at h56
            have h56 : _ = false := h56
            rw [Bool.not_eq_true]
            exact h56
          have hlts := asgOne_lt hsn (i + 1) _ hgood
          have hxr : 0 ≤ L.getD i 0 ∧ L.getD i 0 ≤ (c.entries.length : Int) - 1 := by
            simp only [Bool.or_eq_false_iff, Bool.not_eq_false', Bool.and_eq_true, decide_eq_true_eq] at h56
            exact h56.1.1
          obtain ⟨y, hy⟩ := Int.eq_ofNat_of_zero_le hxr.1
          have hyt : (L.getD i 0).toNat = y := by omega
          rw [hyt] at hgood hlts
          have hy64 : y < 64 := by omega
          have hpy : 2 ^ y ≤ 2 ^ 10 := Nat.pow_le_pow_right (by omega) (by omega)
          refine Tr.skip ?_
          refine Tr.regD [0, 1, 2, 3, 4] [4] [] [1, 2, 5, 6, 8, 9, 11, 19, 20, 21, 25, 26, 27] mix (by kernel_rfl) (by
              simp only [↓sxd, sxu, ↓zC, zK, ↓exq, St.keep, ↓zD, Nat.reduceBEq, Nat.reduceLT, Nat.reduceEqDiff, sxe, tysW40_49, hy, shl_u hy64, or_u (show own < 18446744073709551616 by omega) (show 2 ^ y < 18446744073709551616 by omega)]
              (repeat' (first | rfl | exact trivial | exact fun h => h | exact fun h => (by rw [h]; rfl) | apply And.intro | omega | exact Nat.le_of_ble_eq_true rfl))) ?_
          refine Tr.reg1 [1, 2, 5, 6, 8, 9, 19, 20, 21, 25, 26, 27] (by
              simp only [↓sxd, sxu, ↓zE, ↓exq, St.keep, Nat.reduceBEq, Nat.reduceLT, sxe, shl_u hy64, or_u (show s2 < 18446744073709551616 by omega) (show 2 ^ y < 18446744073709551616 by omega)]
              (repeat' (first | rfl | exact trivial | exact fun h => h | exact fun h => (by rw [h]; rfl) | apply And.intro | omega | exact Nat.le_of_ble_eq_true rfl))) ?_
          have w1 : IntKind.i64.wrap ((i : Int) + 1) = ((i + 1 : Nat) : Int) := by rw [wr (by omega) (by omega)]; rfl
          refine Tr.reg1 [1, 2, 5, 6, 8, 9, 19, 20, 21, 25, 26, 27] (by
              simp only [↓sxd, sxu, ↓zE, ↓exq, St.keep, Nat.reduceBEq, Nat.reduceLT, w1]
              (repeat' (first | rfl | exact trivial | exact fun h => h | exact fun h => (by rw [h]; rfl) | apply And.intro | omega | exact Nat.le_of_ble_eq_true rfl))) ?_
          exact ⟨_, _, by omega, Imp.keepAll, ⟨i + 1, own ||| 2 ^ y, s2 ||| 2 ^ y, ⟨hlt2, hgood, hlts.1, hlts.2⟩, rfl, rfl⟩⟩
      · have hge2 : i = L.length := by have := of_decide_eq_false h28; omega
        subst hge2
        rw [hone] at hnx
        have hnx : c.asgTo ls (k + 1) = if own = 0 ∨ c.fitsSet own = false ∨ c.keeps own = false then none else some s2 := hnx
        have hob : ∀ e ∈ elems own, e < c.entries.length := fun e he => elems_lt he hown
        refine Tr.exit ?_
        refine Tr.reg [1, 2, 5, 6, 19, 20, 21, 80] (by
            simp only [↓sxd, sxu, ↓zE, ↓exq, St.keep, ↓zD, Nat.reduceBEq, Nat.reduceLT, tysW40_49]
            iterate 2
              (repeat ((with_reducible refine And.intro ?_ ?_); (focus (first | with_reducible rfl | trivial | exact fun h => h | exact fun h => (by rw [h]; rfl) | omega | assumption))))
              refine GdO.mk _ (fun hg => by simp only [sxu, ↓exq, ↓zD, Nat.reduceBEq, Nat.reduceLT, tysW40_49, hg]; (repeat' (first | rfl | exact trivial | exact fun h => h | exact fun h => (by rw [h]; rfl) | apply And.intro | omega | exact Nat.le_of_ble_eq_true rfl))) ?_
              simp only [↓sxd, sxu, ↓zE, Nat.reduceBEq, Nat.reduceLT]
            (repeat ((with_reducible refine And.intro ?_ ?_); (focus (first | with_reducible rfl | trivial | exact fun h => h | exact fun h => (by rw [h]; rfl) | omega | assumption))))
            refine GdO.mk (B (c.fitsSet own)) (fun hg => by
              simp only [sxu, ↓exq, ↓zB, Nat.reduceBEq, hg]
              (repeat ((with_reducible refine And.intro ?_ ?_); (focus (first | with_reducible rfl | trivial | exact fun h => h | exact fun h => (by rw [h]; rfl) | omega | assumption))))
              exact CallP.useB [] (fits_c (Work.mk c [] z1 z2) own (by omega) hob hprA (show c.apart.length < 4611686018427387904 by omega)) (List.nil_sublist _) (.cons (frzW0 rfl (by simp)) (.cons (TnS.d _) .nil)) (Rigid.lit _) ⟨rfl, rfl, rfl⟩) ?_
            try simp only [↓sxd, sxu, ↓zE, Nat.reduceBEq, Nat.reduceLT]
            iterate 4
              (repeat ((with_reducible refine And.intro ?_ ?_); (focus (first | with_reducible rfl | trivial | exact fun h => h | exact fun h => (by rw [h]; rfl) | omega | assumption))))
              refine GdO.mk _ (fun hg => by simp only [sxu, ↓exq, ↓zL, ↓zD, ↓zA, Nat.reduceBEq, Nat.reduceAdd, Nat.reduceLT, Nat.reduceEqDiff, tysW40_49, hg]; (repeat' (first | rfl | exact trivial | exact fun h => h | exact fun h => (by rw [h]; rfl) | apply And.intro | omega | exact Nat.le_of_ble_eq_true rfl))) ?_
              simp only [↓sxd, sxu, ↓zE, ↓exq, ↓zH, Nat.reduceBEq, Nat.reduceLT]
            (repeat ((with_reducible refine And.intro ?_ ?_); (focus (first | with_reducible rfl | trivial | exact fun h => h | exact fun h => (by rw [h]; rfl) | omega | assumption))))
            refine GdO.mk (B (c.keeps own)) (fun hg => by
              simp only [sxu, ↓exq, ↓zB, Nat.reduceBEq, hg]
              (repeat ((with_reducible refine And.intro ?_ ?_); (focus (first | with_reducible rfl | trivial | exact fun h => h | exact fun h => (by rw [h]; rfl) | omega | assumption))))
              exact CallP.useB [] (keeps_c c hprS (by omega) own (by omega)) (List.nil_sublist _) (.cons (TnS.d _) (.cons (TnS.clo .nil (.cons (frzOwn rfl (by simp)) .nil)) .nil)) (Rigid.lit _) ⟨rfl, rfl, rfl⟩) ?_
            try simp only [↓sxd, sxu, ↓zE, Nat.reduceBEq, Nat.reduceLT]
            (repeat ((with_reducible refine And.intro ?_ ?_); (focus (first | with_reducible rfl | trivial | exact fun h => h | exact fun h => (by rw [h]; rfl) | omega | assumption))))
            refine GdO.mk _ (fun hg => by simp only [sxu, ↓exq, ↓zL, hg]; (repeat' (first | rfl | exact trivial | exact fun h => h | exact fun h => (by rw [h]; rfl) | apply And.intro | omega | exact Nat.le_of_ble_eq_true rfl))) ?_
            simp only [↓sxd, sxu, ↓zE, ↓exq, ↓zH, Nat.reduceBEq, Nat.reduceLT]
            (repeat' (first | rfl | exact trivial | exact fun h => h | exact fun h => (by rw [h]; rfl) | apply And.intro | omega | exact Nat.le_of_ble_eq_true rfl))) ?_
        refine Tr.cond rfl (fun h80 => ?_) (fun h80 => ?_)
        · have hno : c.asgTo ls (k + 1) = none := by
            rw [hnx, if_pos]
            simp only [Bool.or_eq_true, beq_iff_eq, Bool.not_eq_true'] at h80
            rcases h80 with (h | h) | h
            · exact .inl (by omega)
            · exact .inr (.inl h)
            · exact .inr (.inr h)
          have hf : c.asg ls = false := asg_none hlt hno
          rw [hf]
          refine Tr.reg [4] (by
              simp only [↓sxd, sxu, ↓zE, ↓exq, St.keep, Nat.reduceLT]
              (repeat' (first | rfl | exact trivial | exact fun h => h | exact fun h => (by rw [h]; rfl) | apply And.intro | omega | exact Nat.le_of_ble_eq_true rfl))) ?_
          refine Tr.ret ?_
          (refine ⟨.inr rfl, ?_⟩; first | rfl | exact ⟨rfl, rfl, trivial⟩ | exact ⟨rfl, rfl, rfl, trivial⟩ | (simp only [Res, ResL, ResOK, ↓sxd, sxu, ↓zE, ↓zC, zK, ↓exP, ↓exq, ↓zB, St.keep, ↓zH, ↓zL, ↓zJ, ↓zD, ↓zM, ↓zI, ↓zO, ↓zA, Nat.reduceBEq, Nat.reduceAdd, Nat.reduceLT, Nat.reduceMul, Nat.reduceSub, Nat.reduceLeDiff, Nat.reduceEqDiff, Int.reduceLE, Int.reduceLT, Int.reduceToNat, reduceIte, implies_true, sxe, tysW40_49]; (repeat' (first | rfl | exact trivial | exact fun h => h | exact fun h => (by rw [h]; rfl) | apply And.intro | omega | exact Nat.le_of_ble_eq_true rfl))))
        · have hyes : c.asgTo ls (k + 1) = some s2 := by
            rw [hnx, if_neg]
            simp only [Bool.or_eq_false_iff, beq_eq_false_iff_ne, ne_eq, Bool.not_eq_false'] at h80
            rintro (h | h | h)
            · exact h80.1.1 (by omega)
            · rw [h80.1.2] at h; cases h
            · rw [h80.2] at h; cases h
          refine Tr.skip ?_
          have w2 : IntKind.i64.wrap ((k : Int) + 1) = ((k + 1 : Nat) : Int) := by rw [wr (by omega) (by omega)]; rfl
          refine Tr.reg1 [1, 2, 5, 6, 19, 20, 21] (by
              simp only [↓sxd, sxu, ↓zE, ↓exq, St.keep, Nat.reduceBEq, Nat.reduceLT, w2]
              (repeat' (first | rfl | exact trivial | exact fun h => h | exact fun h => (by rw [h]; rfl) | apply And.intro | omega | exact Nat.le_of_ble_eq_true rfl))) ?_
          exact ⟨_, _, by omega, Imp.go (fun i => if i < 2 then i else i + 1) _ rfl rfl (.cons _ (.refl _)) (fun _ h => absurd h (Nat.not_lt_zero _)) (fun id h => by simp only [show ¬ id < 2 by omega, if_false]; omega) (by repeat' (first | exact TmT.cons rfl (TnS.d _) ?_ | exact trivial | exact F2.nil | refine F2.append ?_ ?_ | refine F2.map fun _ _ => ?_ | refine F2.cons ?_ ?_ | refine TmT.cons rfl ?_ ?_ | exact TnS.d _ | exact TnS.dx _ | exact TnS.dp _ | exact TnS.slc rfl | exact TnS.ptr rfl | refine TnS.frzf rfl (by simp) (by simp) (by simp) ?_ | refine TnS.frz0 rfl (by simp) (by simp) (by simp) ?_ | refine TnS.frzm rfl (by simp) ?_ | exact TnS.mapr rfl | exact TnS.yld rfl | refine ⟨rfl, ?_⟩ | refine TnO.arr ?_ | refine TnO.map ?_ | exact TnO.raw _ | exact TnO.iter _ _ | refine TnS.agg ?_ | refine TnS.tup ?_ | exact TnS.pure (Pure.clo (by assumption) (by assumption)) | refine TnS.clo ?_ ?_ | exact TnS.unk _ | exact TnS.pure (Pure.clo (by assumption) (by assumption)))) (by repeat' (first | exact TmT.cons rfl (TnS.d _) ?_ | exact trivial | exact F2.nil | refine F2.append ?_ ?_ | refine F2.map fun _ _ => ?_ | refine F2.cons ?_ ?_ | refine TmT.cons rfl ?_ ?_ | exact TnS.d _ | exact TnS.dx _ | exact TnS.dp _ | exact TnS.slc rfl | exact TnS.ptr rfl | refine TnS.frzf rfl (by simp) (by simp) (by simp) ?_ | refine TnS.frz0 rfl (by simp) (by simp) (by simp) ?_ | refine TnS.frzm rfl (by simp) ?_ | exact TnS.mapr rfl | exact TnS.yld rfl | refine ⟨rfl, ?_⟩ | refine TnO.arr ?_ | refine TnO.map ?_ | exact TnO.raw _ | exact TnO.iter _ _ | refine TnS.agg ?_ | refine TnS.tup ?_ | exact TnS.pure (Pure.clo (by assumption) (by assumption)) | refine TnS.clo ?_ ?_ | exact TnS.unk _ | exact TnS.pure (Pure.clo (by assumption) (by assumption)))) (fun _ => rfl), ⟨k + 1, s2, ⟨hlt, hyes, hs2⟩, rfl, rfl⟩⟩
    · have hge : k = ls.length := by have := of_decide_eq_false h22; omega
      subst hge
      refine Tr.exit ?_
      refine Tr.reg [1, 2, 6, 12] (by
          simp only [↓sxd, sxu, ↓zE, ↓exq, St.keep, ↓zD, Nat.reduceBEq, Nat.reduceAdd, Nat.reduceLT, tysW40_49]
          (repeat ((with_reducible refine And.intro ?_ ?_); (focus (first | with_reducible rfl | trivial | exact fun h => h | exact fun h => (by rw [h]; rfl) | omega | assumption))))
          refine CallO.use (limits_c _ c) ?_
          try simp only [↓sxd, sxu, ↓zE, ↓exq, ↓zM, Nat.reduceBEq, Nat.reduceAdd, Nat.reduceLT, Nat.reduceEqDiff, tysW40_49]
          (repeat' (first | rfl | exact trivial | exact fun h => h | exact fun h => (by rw [h]; rfl) | apply And.intro | omega | exact Nat.le_of_ble_eq_true rfl))) ?_
      have hfin : c.asg ls = (decide ((elems sn).length = c.entries.length) && within ls.length c.limits.lo c.limits.hi) := by
        unfold Census.asg
        rw [if_pos hk, hto]
      rw [hfin]
      have hed : decide ((elems sn).length = c.entries.length) = (((elems sn).length : Int) == (c.entries.length : Int)) := by rw [ib]; rfl
      rw [hed]
      refine Tr.regD [0, 1, 2, 3, 4, 5, 6, 7, 8, 9, 10, 11, 12, 13, 14, 15, 16] [] [] [4] mix (by kernel_rfl) (by
          simp only [↓sxd, sxu, ↓zC, zK, ↓exq, St.keep, Nat.reduceBEq, Nat.reduceLT]
          (repeat ((with_reducible refine And.intro ?_ ?_); (focus (first | with_reducible rfl | trivial | exact fun h => h | exact fun h => (by rw [h]; rfl) | omega | assumption))))
          refine CallD.use (list_c sn (by omega)) ?_
          try simp only [↓sxd, sxu, ↓zC, zK, ↓exq, ↓zB, ↓zJ, ↓zD, ↓zA, Nat.reduceBEq, Nat.reduceAdd, Nat.reduceLT, Nat.reduceEqDiff, sxe, tysW40_49, nats_len]
          iterate 6
            (repeat ((with_reducible refine And.intro ?_ ?_); (focus (first | with_reducible rfl | trivial | exact fun h => h | exact fun h => (by rw [h]; rfl) | omega | assumption))))
            refine GdD.mk _ (fun hg => by simp only [sxu, ↓exP, ↓exq, ↓zB, ↓zJ, ↓zD, ↓zA, Nat.reduceBEq, Nat.reduceAdd, Nat.reduceLT, Nat.reduceEqDiff, sxe, tysW40_49, hg]; (repeat' (first | rfl | exact trivial | exact fun h => h | exact fun h => (by rw [h]; rfl) | apply And.intro | omega | exact Nat.le_of_ble_eq_true rfl))) ?_
            simp only [↓sxd, sxu, ↓zC, zK, Nat.reduceBEq, Nat.reduceLT]
          (repeat ((with_reducible refine And.intro ?_ ?_); (focus (first | with_reducible rfl | trivial | exact fun h => h | exact fun h => (by rw [h]; rfl) | omega | assumption))))
          refine GdD.mk _ (fun hg => by simp only [sxu, ↓exP, Nat.reduceBEq, hg]; first | exact within_c _ _ _ _ | exact ⟨within_c _ _ _ _, rfl, rfl⟩ | exact ⟨within_c _ _ _ _, trivial⟩ | exact ⟨within_c _ _ _ _, trivial, trivial⟩) ?_
          simp only [↓sxd, sxu, ↓zC, zK, ↓exq, ↓zH, Nat.reduceBEq, Nat.reduceLT]
          (repeat' (first | rfl | exact trivial | exact fun h => h | exact fun h => (by rw [h]; rfl) | apply And.intro | omega | exact Nat.le_of_ble_eq_true rfl))) ?_
      refine Tr.ret ?_
      (refine ⟨.inr rfl, ?_⟩; first | rfl | exact ⟨rfl, rfl, trivial⟩ | exact ⟨rfl, rfl, rfl, trivial⟩ | (simp only [Res, ResL, ResOK, ↓sxd, sxu, ↓zE, ↓zC, zK, ↓exP, ↓exq, ↓zB, St.keep, ↓zH, ↓zL, ↓zJ, ↓zD, ↓zM, ↓zI, ↓zO, ↓zA, Nat.reduceBEq, Nat.reduceAdd, Nat.reduceLT, Nat.reduceMul, Nat.reduceSub, Nat.reduceLeDiff, Nat.reduceEqDiff, Int.reduceLE, Int.reduceLT, Int.reduceToNat, reduceIte, implies_true, sxe, tysW40_49]; (repeat' (first | rfl | exact trivial | exact fun h => h | exact fun h => (by rw [h]; rfl) | apply And.intro | omega | exact Nat.le_of_ble_eq_true rfl))))
end Go.Proofs.YtcnkbdfkjhlbiaaDoor
namespace Go.Proofs.YtcnkbdfkjhlbiaaDoor
open Go.Sy
set_option maxRecDepth 8000
abbrev cells (f : Nat → Nat → Bool) : List SV := (List.range 30).map fun q => B (f (q / 10) (q % 10))
end Go.Proofs.YtcnkbdfkjhlbiaaDoor
namespace Go.Proofs.YtcnkbdfkjhlbiaaDoor
open Go.Sy
set_option maxRecDepth 8000
theorem uL_snoc (l : List (List Int)) (x : List Int) : uL (l ++ [x]) = uL l ++ [[SI x]] := by simp [uL]
end Go.Proofs.YtcnkbdfkjhlbiaaDoor
namespace Go.Proofs.YtcnkbdfkjhlbiaaDoor
set_option maxRecDepth 8000
structure OneRel (n k : Nat) (o0 : List Int) (own s2 : Nat) (o2 : List Int) : Prop where
  len : o2.length = n
  seen : ∀ e, e < n → (s2.testBit e = true ↔ 0 ≤ o2.getD e 0)
  own : ∀ e, e < n → (own.testBit e = true ↔ o2.getD e 0 = (k : Int))
  rest : ∀ e, e < n → o2.getD e 0 ≠ (k : Int) → o2.getD e 0 = o0.getD e 0
  fresh : ∀ e, e < n → o2.getD e 0 = (k : Int) → o0.getD e 0 < 0
end Go.Proofs.YtcnkbdfkjhlbiaaDoor
namespace Go.Proofs.YtcnkbdfkjhlbiaaDoor
set_option maxRecDepth 8000
structure Harder (c x : Coding) (l : List Int) : Prop where
  codes : x.codes = c.codes ++ [l]
  len : c.codes.length = c.wrong.length
  wr : ∀ k, k < c.codes.length → x.wrong.getD k 0 ≤ c.wrong.getD k 0
end Go.Proofs.YtcnkbdfkjhlbiaaDoor
namespace Go.Proofs.YtcnkbdfkjhlbiaaDoor
open Go.Sy
set_option maxRecDepth 8000
abbrev tysW46_95 := And.intro ty.sz0 <| And.intro ty.agg0 <| And.intro ty.elem0 <| And.intro ty.sz108 <| And.intro ty.agg108 <| And.intro ty.elem108 <| And.intro ty.zero108 <| And.intro ty.sz114 <| And.intro ty.agg114 <| And.intro ty.elem114 <| And.intro ty.zero114 <| And.intro ty.und114 <| And.intro ty.sz153 <| And.intro ty.agg153 <| And.intro ty.elem153 <| And.intro ty.zero153 <| And.intro ty.sz154 <| And.intro ty.agg154 <| And.intro ty.elem154 <| ty.zero154
theorem groupsD_h (hp : HpT) (nx : Nat) (d : List D) (s : Nat) : CallH Tryd.prog G0 95 [.dp d, U s] hp nx (fun r hp' nx' => r = .clo (.func 117) [] [.ptr (nx + 1) 0 0, .ptr nx 0 0] ∧ hp' = (nx + 1, .arr 1 [[U s]]) :: (nx, .arr 1 [[.dp d]]) :: hp ∧ nx' = nx + 2) := by
  refine CallH.body 6 [.tmp 4] Tryd.func95 (by kernel_rfl) rfl rfl rfl ?_
  refine Tr.reg [2, 3] (by
      simp only [↓sxd, sxu, ↓zE, ↓exq, St.keep, ↓zI, Nat.reduceBEq, Nat.reduceAdd, Nat.reduceLT, Nat.reduceEqDiff]
      (repeat' (first | rfl | exact trivial | exact fun h => h | exact fun h => (by rw [h]; rfl) | apply And.intro | omega | exact Nat.le_of_ble_eq_true rfl))) ?_
  refine Tr.reg [4] (by
      simp only [↓sxd, sxu, ↓zE, ↓exq, St.keep, Nat.reduceBEq, Nat.reduceLT]
      (repeat' (first | rfl | exact trivial | exact fun h => h | exact fun h => (by rw [h]; rfl) | apply And.intro | omega | exact Nat.le_of_ble_eq_true rfl))) ?_
  refine Tr.ret ?_
  exact ⟨.inr rfl, _, rfl, rfl, rfl, rfl⟩
abbrev tysW46_117 := And.intro ty.sz0 <| And.intro ty.agg0 <| And.intro ty.elem0 <| And.intro ty.sz4 <| And.intro ty.agg4 <| And.intro ty.elem4 <| And.intro ty.zero4 <| And.intro ty.und4 <| And.intro ty.sz108 <| And.intro ty.agg108 <| And.intro ty.elem108 <| And.intro ty.zero108 <| And.intro ty.sz114 <| And.intro ty.agg114 <| And.intro ty.elem114 <| And.intro ty.zero114 <| And.intro ty.und114 <| And.intro ty.sz143 <| And.intro ty.agg143 <| And.intro ty.elem143 <| And.intro ty.arr143 <| And.intro ty.zero143 <| And.intro ty.und143 <| And.intro ty.sz146 <| And.intro ty.agg146 <| And.intro ty.fld146_0 <| And.intro ty.fld146_1 <| And.intro ty.fld146_2 <| And.intro ty.fld146_3 <| And.intro ty.elem146 <| And.intro ty.zero146 <| And.intro ty.pl146 <| And.intro ty.sz147 <| And.intro ty.agg147 <| And.intro ty.elem147 <| ty.zero147
theorem groups1D_h (w : Work) (h1 : w.one.length = 1024) (s : Nat) (hs : s < 1024) (I : List Nat → Prop) (hI0 : I []) (H : List Nat → HpT) (nx ib iwb l : Nat)
    (hS : ∀ gs, (H gs).lookup ib = some (.arr 1 [[U s]])) (hW : ∀ gs, (H gs).lookup iwb = some (.arr 1 [[.dp w.d]]))
    (Stop : HpT → Nat → Prop) (hY : ∀ (gs : List Nat) (g : Nat) (ts : List Nat), gs ++ g :: ts = groupsL w.one s → I gs → RoundH Tryd.prog G0 l [U g] (H gs) nx (fun r hp' nx' => (r = B true ∧ I (gs ++ [g]) ∧ hp' = H (gs ++ [g]) ∧ nx' = nx) ∨ (r = B false ∧ Stop hp' nx'))) :
    CallH Tryd.prog G0 117 [.yld l, .ptr ib 0 0, .ptr iwb 0 0] (H []) nx (fun _ hp' nx' => (I (groupsL w.one s) ∧ hp' = H (groupsL w.one s) ∧ nx' = nx) ∨ Stop hp' nx') := by
  obtain ⟨one, hone⟩ : ∃ one, one = w.one := ⟨_, rfl⟩
  rw [← hone] at h1 hY ⊢
  refine CallH.body 37 [] Tryd.func117 (by kernel_rfl) rfl rfl rfl ?_
  have hS0 := hS []
  obtain ⟨f1, f2⟩ := bits_le hs
  refine Tr.reg [0, 1, 2, 4] (by
    simp only [↓sxd, sxu, ↓zE, ↓exq, St.keep, ↓zL, ↓zD, Nat.reduceBEq, Nat.reduceAdd, Nat.reduceLT, tysW46_117, hS0, lowb_u (show s < 4096 by omega)]
    (repeat' (first | rfl | exact trivial | exact fun h => h | exact fun h => (by rw [h]; rfl) | apply And.intro | omega | exact Nat.le_of_ble_eq_true rfl))) ?_
  refine Tr.reg [0, 1, 2, 4, 5] (by
    simp only [↓sxd, sxu, ↓zE, ↓exq, St.keep, ↓zD, Nat.reduceBEq, Nat.reduceLT, tysW46_117, hS0, andNot_u (show s < 18446744073709551616 by omega) (show lowb s < 18446744073709551616 by omega)]
    (repeat' (first | rfl | exact trivial | exact fun h => h | exact fun h => (by rw [h]; rfl) | apply And.intro | omega | exact Nat.le_of_ble_eq_true rfl))) ?_
  refine Tr.reg [0, 1, 2, 4, 5, 6] (by
    simp only [↓sxd, sxu, ↓zE, ↓exq, St.keep, Nat.reduceBEq, Nat.reduceLT]
    (repeat' (first | rfl | exact trivial | exact fun h => h | exact fun h => (by rw [h]; rfl) | apply And.intro | omega | exact Nat.le_of_ble_eq_true rfl))) ?_
  refine Tr.block (Tr.loopI (fun mm ss => ∃ (gs : List Nat) (sub : Nat), (sub ≤ 1023 ∧ I gs ∧ gs ++ ((subsFrom (sub + 1) sub (restOf s)).map (· ||| lowb s)).filter (fun g => one.getD g false) = groupsL one s) ∧ sub = mm ∧
    ss = ⟨[(0, .yld l), (1, .ptr ib 0 0), (2, .ptr iwb 0 0), (4, U (lowb s)), (5, U (restOf s)), (6, U sub)], H gs, nx, 37, [], nx⟩) _ ⟨[], restOf s, ⟨by omega, hI0, rfl⟩, rfl, rfl⟩ ?_)
  rintro mm ss ⟨gs, sub, ⟨hsub, hIg, hgs⟩, rfl, rfl⟩
  have hS1 := hS gs
  have hW1 := hW gs
  have hg : sub ||| lowb s < 1024 := Nat.or_lt_two_pow (n := 10) (by omega) (by omega)
  have hor := or_u (show sub < 18446744073709551616 by omega) (show lowb s < 18446744073709551616 by omega)
  have hix : (((sub ||| lowb s : Nat) : Int) < ((1024 : Nat) : Int)) = True := by simp; omega
  have hlen : (0 < (List.drop (sub ||| lowb s) (w.one.map cB ++ w.least.map cI)).length) = True := eq_true (tl_one0 (by rw [← hone]; exact h1) hg)
  have hval : (List.drop (sub ||| lowb s) (w.one.map cB ++ w.least.map cI)).getD 0 default = cB (one.getD (sub ||| lowb s) false) := by rw [hone]; exact tl_one (by rw [← hone]; exact h1) hg
  have hx := hgs
  rw [subsFrom, List.map_cons, List.filter_cons] at hx
  cases ho : one.getD (sub ||| lowb s) false with
  | false =>
    rw [ho, if_neg (by decide)] at hx
    have hx' : gs ++ (if sub = 0 then [] else ((subsFrom sub ((sub - 1) &&& restOf s) (restOf s)).map (· ||| lowb s)).filter (fun g => one.getD g false)) = groupsL one s := by
      rw [← hx]; split <;> rfl
    refine Tr.seq (Tr.block (Tr.seq (Tr.reg [0, 1, 2, 4, 5, 6, 34] (by
      simp only [↓sxd, sxu, ↓zE, ↓exq, St.keep, ↓zD, ↓zV, ↓zA, Nat.reduceBEq, Nat.reduceLT, Nat.reduceEqDiff, sxe, tysW46_117, hW1, hor, hix, hlen, hval, ho]
      (repeat ((with_reducible refine And.intro ?_ ?_); (focus (first | with_reducible rfl | trivial | exact fun h => h | exact fun h => (by rw [h]; rfl) | omega | assumption))))
      refine GdO.no rfl ?_
      simp only [↓sxd, sxu, ↓zE, Nat.reduceBEq, Nat.reduceLT]
      refine GdO.no rfl ?_
      simp only [↓sxd, sxu, ↓zE, Nat.reduceBEq, Nat.reduceLT]
      refine GdO.no rfl ?_
      simp only [↓sxd, sxu, ↓zE, Nat.reduceBEq, Nat.reduceLT]
      refine GdO.no rfl ?_
      simp only [↓sxd, sxu, ↓zE, Nat.reduceBEq, Nat.reduceLT]
      refine GdO.no rfl ?_
      simp only [↓sxd, sxu, ↓zE, Nat.reduceBEq, Nat.reduceLT]
      refine GdO.no rfl ?_
      simp only [↓sxd, sxu, ↓zE, ↓exq, ↓zH, Nat.reduceBEq, Nat.reduceLT]
      (repeat' (first | rfl | exact trivial | exact fun h => h | exact fun h => (by rw [h]; rfl) | apply And.intro | omega | exact Nat.le_of_ble_eq_true rfl))) ?_)))
    refine Tr.cond rfl (fun h34 => by cases h34) (fun _ => Tr.skip ?_)
    refine Tr.reg [0, 1, 2, 4, 5, 6, 36] (by
      simp only [↓sxd, sxu, ↓zE, ↓exq, St.keep, Nat.reduceBEq, Nat.reduceLT]
      (repeat' (first | rfl | exact trivial | exact fun h => h | exact fun h => (by rw [h]; rfl) | apply And.intro | omega | exact Nat.le_of_ble_eq_true rfl))) ?_
    refine Tr.cond rfl (fun h36 => ?_) (fun h36 => ?_)
    · have h0 : sub = 0 := by simpa using h36
      subst h0
      refine Tr.ret ⟨.inr rfl, .tup [], trivial, .inl ⟨?_, ?_, rfl⟩⟩ <;> rw [← hx'] <;> first | (simp; done) | (simpa using hIg)
    · have h0 : sub ≠ 0 := by simpa using h36
      have x1 : IntKind.u64.wrap ((sub : Int) - 1) = ((sub - 1 : Nat) : Int) := by rw [wu (by omega) (by omega)]; omega
      refine Tr.skip (Tr.reg1 [0, 1, 2, 4, 5, 6] (by
        simp only [↓sxd, sxu, ↓zE, ↓exq, St.keep, Nat.reduceBEq, Nat.reduceLT, x1, and_u (show sub - 1 < 18446744073709551616 by omega) (show restOf s < 18446744073709551616 by omega)]
        (repeat' (first | rfl | exact trivial | exact fun h => h | exact fun h => (by rw [h]; rfl) | apply And.intro | omega | exact Nat.le_of_ble_eq_true rfl))) ?_)
      have hlt : (sub - 1) &&& restOf s < sub := Nat.lt_of_le_of_lt Nat.and_le_left (by omega)
      refine ⟨_, _, hlt, Imp.keepAll, ⟨gs, (sub - 1) &&& restOf s, ⟨by omega, hIg, ?_⟩, rfl, rfl⟩⟩
      rw [← hx', if_neg h0, subs_fuel _ sub _ _ (by omega) hlt]
  | true =>
    rw [ho, if_pos rfl] at hx
    have hx' : (gs ++ [sub ||| lowb s]) ++ (if sub = 0 then [] else ((subsFrom sub ((sub - 1) &&& restOf s) (restOf s)).map (· ||| lowb s)).filter (fun g => one.getD g false)) = groupsL one s := by
      rw [← hx, List.append_assoc]; split <;> rfl
    refine Tr.seq (Tr.block (Tr.seq (Tr.seq (Tr.region ?_))))
    simp only [↓sxd, sxu, ↓zE, ↓exq, ↓zD, ↓zV, ↓zA, Nat.reduceBEq, Nat.reduceLT, Nat.reduceEqDiff, sxe, tysW46_117, hW1, hor, hix, hlen, hval, ho]
    (repeat ((with_reducible refine And.intro ?_ ?_); (focus (first | with_reducible rfl | trivial | exact fun h => h | exact fun h => (by rw [h]; rfl) | omega | assumption))))
    refine GdO.now rfl ?_
    simp only [↓sxd, sxu, ↓zE, ↓exq, Nat.reduceBEq, Nat.reduceLT]
    refine GdO.now rfl ?_
    simp only [↓sxd, sxu, ↓zE, ↓exq, Nat.reduceBEq, Nat.reduceLT]
    refine GdO.now rfl ?_
    simp only [↓sxd, sxu, ↓zE, ↓exq, Nat.reduceBEq, Nat.reduceLT]
    refine GdO.now rfl ?_
    simp only [↓sxd, sxu, ↓zE, ↓exq, Nat.reduceBEq, Nat.reduceLT, hor]
    refine GdO.now rfl ?_
    simp only [↓sxd, sxu, ↓zE, ↓exq, ↓zB, Nat.reduceBEq, Nat.reduceLT]
    refine (hY gs (sub ||| lowb s) _ hx hIg).mono ?_
    rintro r hp' nx' (⟨rfl, hIg2, rfl, rfl⟩ | ⟨rfl, hstop⟩)
    · try simp only [↓sxd, sxu, ↓zE, ↓zC, zK, ↓exP, ↓exq, ↓zB, St.keep, ↓zH, ↓zL, ↓zD, ↓zV, ↓zA, Nat.reduceBEq, Nat.reduceAdd, Nat.reduceLT, Nat.reduceMul, Nat.reduceSub, Nat.reduceLeDiff, Nat.reduceEqDiff, Int.reduceLE, Int.reduceLT, Int.reduceToNat, reduceIte, implies_true, sxe, tysW46_117]
      refine GdO.now rfl ?_
      simp only [↓sxd, sxu, ↓zE, ↓exq, ↓zH, ↓zL, Nat.reduceBEq, Nat.reduceLT, Bool.not_true]
      (repeat ((with_reducible refine And.intro ?_ ?_); (focus (first | with_reducible rfl | trivial | exact fun h => h | exact fun h => (by rw [h]; rfl) | omega | assumption))))
      refine Tr.cond rfl (fun h34 => by cases h34) (fun _ => Tr.skip ?_)
      refine Tr.reg [0, 1, 2, 4, 5, 6, 36] (by
        simp only [↓sxd, sxu, ↓zE, ↓exq, St.keep, Nat.reduceBEq, Nat.reduceLT]
        (repeat' (first | rfl | exact trivial | exact fun h => h | exact fun h => (by rw [h]; rfl) | apply And.intro | omega | exact Nat.le_of_ble_eq_true rfl))) ?_
      refine Tr.cond rfl (fun h36 => ?_) (fun h36 => ?_)
      · have h0 : sub = 0 := by simpa using h36
        subst h0
        refine Tr.ret ⟨.inr rfl, .tup [], trivial, .inl ⟨?_, ?_, rfl⟩⟩ <;> rw [← hx'] <;> first | (simp; done) | (simpa using hIg2)
      · have h0 : sub ≠ 0 := by simpa using h36
        have x1 : IntKind.u64.wrap ((sub : Int) - 1) = ((sub - 1 : Nat) : Int) := by rw [wu (by omega) (by omega)]; omega
        refine Tr.skip (Tr.reg1 [0, 1, 2, 4, 5, 6] (by
          simp only [↓sxd, sxu, ↓zE, ↓exq, St.keep, Nat.reduceBEq, Nat.reduceLT, x1, and_u (show sub - 1 < 18446744073709551616 by omega) (show restOf s < 18446744073709551616 by omega)]
          (repeat' (first | rfl | exact trivial | exact fun h => h | exact fun h => (by rw [h]; rfl) | apply And.intro | omega | exact Nat.le_of_ble_eq_true rfl))) ?_)
        have hlt : (sub - 1) &&& restOf s < sub := Nat.lt_of_le_of_lt Nat.and_le_left (by omega)
        refine ⟨_, _, hlt, Imp.keepAll, ⟨gs ++ [sub ||| lowb s], (sub - 1) &&& restOf s, ⟨by omega, hIg2, ?_⟩, rfl, rfl⟩⟩
        rw [← hx', if_neg h0, subs_fuel _ sub _ _ (by omega) hlt]
    · try simp only [↓sxd, sxu, ↓zE, ↓zC, zK, ↓exP, ↓exq, ↓zB, St.keep, ↓zH, ↓zL, ↓zD, ↓zV, ↓zA, Nat.reduceBEq, Nat.reduceAdd, Nat.reduceLT, Nat.reduceMul, Nat.reduceSub, Nat.reduceLeDiff, Nat.reduceEqDiff, Int.reduceLE, Int.reduceLT, Int.reduceToNat, reduceIte, implies_true, sxe, tysW46_117]
      refine GdO.now rfl ?_
      simp only [↓sxd, sxu, ↓zE, ↓exq, ↓zH, ↓zL, Nat.reduceBEq, Nat.reduceLT, Bool.not_false]
      (repeat ((with_reducible refine And.intro ?_ ?_); (focus (first | with_reducible rfl | trivial | exact fun h => h | exact fun h => (by rw [h]; rfl) | omega | assumption))))
      refine Tr.cond rfl (fun _ => Tr.ret ⟨.inr rfl, .tup [], trivial, .inr hstop⟩) (fun h34 => by cases h34)
end Go.Proofs.YtcnkbdfkjhlbiaaDoor
namespace Go.Proofs.YtcnkbdfkjhlbiaaDoor
open Go.Sy
set_option maxRecDepth 8000
def pickG (one : List Bool) (L : List Int) (s : Nat) : Option Nat := (groupsL one s).find? fun g => L.getD s 0 == 1 + L.getD (s ^^^ (s &&& g)) 0
def showG (one : List Bool) (L : List Int) : Nat → Nat → List Nat
  | 0, _ => []
  | f + 1, s => if s = 0 then [] else match pickG one L s with
    | some g => g :: showG one L f (s ^^^ (s &&& g))
    | none => []
theorem pickG_first {one : List Bool} {L : List Int} {s g : Nat} {gs ts : List Nat} (hg : gs ++ g :: ts = groupsL one s) (hn : ∀ x ∈ gs, (L.getD s 0 == 1 + L.getD (s ^^^ (s &&& x)) 0) = false) (hm : (L.getD s 0 == 1 + L.getD (s ^^^ (s &&& g)) 0) = true) : pickG one L s = some g := by
  unfold pickG
  rw [← hg, List.find?_append, List.find?_eq_none.2 (fun x hx => by rw [hn x hx]; decide), Option.none_or, List.find?_cons]
  simp only [hm]
theorem pickG_spec {one : List Bool} {L : List Int} {s g : Nat} (h : pickG one L s = some g) : g ∈ groupsL one s ∧ L.getD s 0 = 1 + L.getD (s ^^^ (s &&& g)) 0 :=
  ⟨List.mem_of_find?_eq_some h, by have := List.find?_some h; simpa using this⟩
structure TabC (c : Census) (one : List Bool) (L : List Int) : Prop where
  nb : (blocksOf c).length ≤ 10
  o : ∀ s, s < 2 ^ (blocksOf c).length → one.getD s false = oneP c s
  b : ∀ s, 0 ≤ L.getD s 0 ∧ L.getD s 0 ≤ 1024
  ex : LeastOk (oneP c) (blocksOf c).length (fun s => L.getD s 0)
theorem tabC {c : Census} (hc : PairsOk c) (hn : c.entries.length ≤ 10) : TabC c (readW c).one (readW c).least := by
  have hl := (blocksOf_sem hc).ok.len
  have hle : 2 ^ (blocksOf c).length ≤ 1024 := Nat.pow_le_pow_right (n := 2) (by omega) (show (blocksOf c).length ≤ 10 by omega)
  have h := tables_ok c (2 ^ (blocksOf c).length) hle
  exact ⟨by omega, h.o, h.b, leastOk hc hn⟩
theorem TabC.lt {c : Census} {one : List Bool} {L : List Int} (h : TabC c one L) {s : Nat} (hs : s < 2 ^ (blocksOf c).length) : s < 1024 :=
  Nat.lt_of_lt_of_le hs (Nat.pow_le_pow_right (n := 2) (by omega) h.nb)
theorem TabC.group {c : Census} {one : List Bool} {L : List Int} (h : TabC c one L) {s g : Nat} (hs : s < 2 ^ (blocksOf c).length) (h0 : s ≠ 0) (hg : g ∈ groupsL one s) : s &&& g = g ∧ g.testBit (low s) = true ∧ oneP c g = true ∧ s ^^^ (s &&& g) < s := by
  obtain ⟨⟨a, b⟩, d⟩ := (mem_groups (h.lt hs) h0).1 hg
  exact ⟨a, b, by rw [← h.o g (sub_lt a hs)]; exact d, diff_lt (sub_test a b) b⟩
theorem TabC.pick {c : Census} {one : List Bool} {L : List Int} (h : TabC c one L) {s : Nat} (hs : s < 2 ^ (blocksOf c).length) (h0 : s ≠ 0) (h1 : L.getD s 0 < 1024) : ∃ g, pickG one L s = some g := by
  obtain ⟨g, a, b, d, e⟩ := h.ex.ex s hs h0 h1
  have e : L.getD s 0 = 1 + L.getD (s ^^^ (s &&& g)) 0 := e
  have hm : g ∈ groupsL one s := (mem_groups (h.lt hs) h0).2 ⟨⟨a, b⟩, by rw [h.o g (sub_lt a hs)]; exact d⟩
  cases hp : pickG one L s with
  | some g => exact ⟨g, rfl⟩
  | none => exact absurd (show (L.getD s 0 == 1 + L.getD (s ^^^ (s &&& g)) 0) = true from beq_iff_eq.2 e) (List.find?_eq_none.1 hp g hm)
theorem TabC.none {c : Census} {one : List Bool} {L : List Int} (h : TabC c one L) {s : Nat} (hs : s < 2 ^ (blocksOf c).length) (h0 : s ≠ 0) (h1 : L.getD s 0 < 1024) (hn : ∀ x ∈ groupsL one s, (L.getD s 0 == 1 + L.getD (s ^^^ (s &&& x)) 0) = false) : False := by
  obtain ⟨g, hg⟩ := h.pick hs h0 h1
  obtain ⟨a, b⟩ := pickG_spec hg
  have := hn g a
  rw [b] at this
  simp at this
theorem TabC.show {c : Census} {one : List Bool} {L : List Int} (h : TabC c one L) : ∀ f s, s < f → s < 2 ^ (blocksOf c).length → L.getD s 0 < 1024 → Parts (oneP c) s (showG one L f s) ∧ ((showG one L f s).length : Int) = L.getD s 0
  | 0, s, hf, _, _ => by omega
  | f + 1, s, hf, hs, hl => by
    unfold showG
    by_cases h0 : s = 0
    · subst h0
      rw [if_pos rfl]
      exact ⟨⟨fun g hg => (by cases hg), .nil, fun j => (by simp)⟩, by rw [show L.getD 0 0 = 0 from h.ex.zero]; rfl⟩
    · rw [if_neg h0]
      obtain ⟨g, hg⟩ := h.pick hs h0 hl
      obtain ⟨a, b⟩ := pickG_spec hg
      obtain ⟨g1, g2, g3, g4⟩ := h.group hs h0 a
      have hb := h.b (s ^^^ (s &&& g))
      obtain ⟨p1, p2⟩ := h.show f (s ^^^ (s &&& g)) (by omega) (by omega) (by omega)
      rw [hg]
      refine ⟨p1.put g1 (fun hc => by subst hc; simp at g2) g3, ?_⟩
      rw [List.length_cons, b, ← p2]; omega
theorem Parts.perm {one : Nat → Bool} {s : Nat} {gs hs : List Nat} (h : Parts one s gs) (hp : gs.Perm hs) : Parts one s hs :=
  ⟨fun g hg => h.ok g (hp.mem_iff.2 hg), (List.Perm.pairwise_iff (fun {a b} hab j hb => by
    cases ha : a.testBit j
    · rfl
    · rw [hab j ha] at hb; cases hb) hp).1 h.dis, fun j => ⟨fun hj => by
    obtain ⟨g, a, b⟩ := (h.un j).1 hj
    exact ⟨g, hp.mem_iff.1 a, b⟩, fun ⟨g, a, b⟩ => (h.un j).2 ⟨g, hp.mem_iff.2 a, b⟩⟩⟩
theorem Parts.cut {one : Nat → Bool} (hd : Down one) {g s j : Nat} {gs : List Nat} (h : Parts one s (g :: gs)) (hj : g.testBit j = true) (hr : g ^^^ (g &&& 2 ^ j) ≠ 0) : Parts one s ((g ^^^ (g &&& 2 ^ j)) :: 2 ^ j :: gs) := by
  have hsub := h.mem_sub List.mem_cons_self
  have hg := h.ok g List.mem_cons_self
  have h2 : Parts one (s ^^^ (s &&& g)) gs := Parts.take (pre := []) h
  have hjs := sub_test hsub hj
  have e1 := two_pow_sub hj
  have hsr : s &&& (g ^^^ (g &&& 2 ^ j)) = g ^^^ (g &&& 2 ^ j) := by
    apply Nat.eq_of_testBit_eq; intro i
    rw [Nat.testBit_and]
    cases hi : (g ^^^ (g &&& 2 ^ j)).testBit i
    · simp
    · rw [sub_test hsub (by rw [diff_test, Bool.and_eq_true] at hi; exact hi.1)]; rfl
  have hrj : (s ^^^ (s &&& (g ^^^ (g &&& 2 ^ j)))).testBit j = true := by
    rw [diff_test, diff_test, hjs, hj, Nat.testBit_two_pow]; simp
  have e2 := two_pow_sub hrj
  have e3 : (s ^^^ (s &&& (g ^^^ (g &&& 2 ^ j)))) ^^^ ((s ^^^ (s &&& (g ^^^ (g &&& 2 ^ j)))) &&& 2 ^ j) = s ^^^ (s &&& g) := by
    apply Nat.eq_of_testBit_eq; intro i
    rw [diff_test, diff_test, diff_test, diff_test, Nat.testBit_two_pow]
    by_cases hij : j = i
    · subst hij; simp [hj]
    · simp only [hij, decide_false, Bool.not_false, Bool.and_true]
  have h5 : Parts one (s ^^^ (s &&& (g ^^^ (g &&& 2 ^ j)))) (2 ^ j :: gs) := by
    refine Parts.put ?_ e2 (Nat.ne_of_gt (Nat.two_pow_pos j)) (hd _ _ e1 hg.2)
    rw [e3]; exact h2
  exact h5.put hsr hr (hd _ _ (diff_sub _ _) hg.2)
theorem set_split {l : List Nat} : ∀ {i : Nat}, i < l.length → ∃ pre post, l = pre ++ l.getD i 0 :: post ∧ ∀ y, l.set i y = pre ++ y :: post := by
  induction l with
  | nil => intro i h; cases h
  | cons x l ih =>
    intro i h
    cases i with
    | zero => exact ⟨[], l, rfl, fun _ => rfl⟩
    | succ i =>
      obtain ⟨pre, post, h1, h2⟩ := ih (i := i) (by simpa using h)
      refine ⟨x :: pre, post, ?_, fun y => ?_⟩
      · show x :: l = x :: (pre ++ l.getD i 0 :: post)
        rw [← h1]
      · show x :: l.set i y = x :: (pre ++ y :: post)
        rw [h2]
def cutG (gs : List Nat) (i : Nat) : List Nat := gs.set i (gs.getD i 0 ^^^ (gs.getD i 0 &&& lowb (gs.getD i 0))) ++ [lowb (gs.getD i 0)]
def splitG (most : Nat) : Nat → List Nat → Nat → List Nat
  | 0, gs, _ => gs
  | f + 1, gs, i => if gs.length < most then (if lowb (gs.getD i 0) = gs.getD i 0 then splitG most f gs (i + 1) else splitG most f (cutG gs i) i) else gs
structure SplitOk (one : Nat → Bool) (n : Nat) (gs : List Nat) (i : Nat) : Prop where
  p : Parts one (2 ^ n - 1) gs
  le : i ≤ gs.length
  s : ∀ k, k < i → lowb (gs.getD k 0) = gs.getD k 0
theorem lowb_eq {x : Nat} (h : x ≠ 0) : lowb x = 2 ^ low x := by unfold lowb; rw [if_neg h]
theorem pc_sum {one : Nat → Bool} : ∀ (gs : List Nat) (s : Nat), s < 2 ^ 10 → Parts one s gs → (∀ g ∈ gs, pc g = 1) → pc s = gs.length
  | [], s, _, h, _ => by
    have : s = 0 := by
      by_cases h0 : s = 0
      · exact h0
      · obtain ⟨j, hj⟩ := nz_bit h0
        obtain ⟨g, hg, _⟩ := (h.un j).1 hj
        cases hg
    rw [this, pc_zero]; rfl
  | g :: gs, s, hs, h, h1 => by
    have hsub := h.mem_sub List.mem_cons_self
    have h2 : Parts one (s ^^^ (s &&& g)) gs := Parts.take (pre := []) h
    have h3 : s ^^^ (s &&& g) < 2 ^ 10 := Nat.xor_lt_two_pow hs (Nat.lt_of_le_of_lt Nat.and_le_left hs)
    rw [pc_split hsub, pc_sum gs _ h3 h2 (fun x hx => h1 x (List.mem_cons_of_mem _ hx)), h1 g List.mem_cons_self, List.length_cons]; omega
theorem SplitOk.get {one : Nat → Bool} {n : Nat} (hn : n ≤ 10) {gs : List Nat} {i : Nat} (h : SplitOk one n gs i) {k : Nat} (hk : k < gs.length) : gs.getD k 0 ≠ 0 ∧ gs.getD k 0 < 1024 ∧ one (gs.getD k 0) = true ∧ gs.getD k 0 < 2 ^ n := by
  have hm := getD_mem (d := 0) hk
  have hp : 2 ^ n ≤ 2 ^ 10 := Nat.pow_le_pow_right (by omega) hn
  have := sub_lt (h.p.mem_sub hm) (show 2 ^ n - 1 < 2 ^ n from Nat.sub_lt (Nat.two_pow_pos _) (by omega))
  exact ⟨(h.p.ok _ hm).1, by omega, (h.p.ok _ hm).2, this⟩
theorem SplitOk.lt {one : Nat → Bool} {n : Nat} (hn : n ≤ 10) {gs : List Nat} {i : Nat} (h : SplitOk one n gs i) (hl : gs.length < n) : i < gs.length := by
  rcases Nat.lt_or_ge i gs.length with hi | hi
  · exact hi
  · have hp : 2 ^ n ≤ 2 ^ 10 := Nat.pow_le_pow_right (by omega) hn
    have h1 := Nat.two_pow_pos n
    have := pc_sum gs _ (show 2 ^ n - 1 < 2 ^ 10 by omega) h.p fun g hg => by
      obtain ⟨k, hk, rfl⟩ := mem_getD.1 hg
      obtain ⟨a, b, _⟩ := h.get hn hk
      rw [← h.s k (by omega), lowb_eq a]
      exact pc_one _ (testBit_lt (low_test b a) b)
    rw [pc_full _ hn] at this
    omega
theorem SplitOk.next {one : Nat → Bool} {n : Nat} {gs : List Nat} {i : Nat} (h : SplitOk one n gs i) (hi : i < gs.length) (hs : lowb (gs.getD i 0) = gs.getD i 0) : SplitOk one n gs (i + 1) :=
  ⟨h.p, hi, fun k hk => by
    rcases Nat.lt_or_ge k i with h1 | h1
    · exact h.s k h1
    · obtain rfl : k = i := by omega
      exact hs⟩
theorem cutG_len (gs : List Nat) (i : Nat) : (cutG gs i).length = gs.length + 1 := by simp [cutG]
theorem SplitOk.cut {one : Nat → Bool} (hd : Down one) {n : Nat} (hn : n ≤ 10) {gs : List Nat} {i : Nat} (h : SplitOk one n gs i) (hi : i < gs.length) (hs : lowb (gs.getD i 0) ≠ gs.getD i 0) : SplitOk one n (cutG gs i) i := by
  obtain ⟨a, b, _⟩ := h.get hn hi
  obtain ⟨pre, post, h1, h2⟩ := set_split hi
  have hlo := low_test b a
  have hr : gs.getD i 0 ^^^ (gs.getD i 0 &&& 2 ^ low (gs.getD i 0)) ≠ 0 := fun hc => by
    apply hs
    rw [lowb_eq a]
    have e := two_pow_sub hlo
    rw [e] at hc
    exact (Nat.eq_of_testBit_eq fun j => by
      have := congrArg (·.testBit j) hc
      rw [Nat.testBit_xor, Nat.zero_testBit] at this
      generalize (gs.getD i 0).testBit j = u at this ⊢
      generalize (2 ^ low (gs.getD i 0)).testBit j = v at this ⊢
      cases u <;> cases v <;> first | rfl | cases this)
  refine ⟨?_, by rw [cutG_len]; omega, fun k hk => ?_⟩
  · have hp : Parts one (2 ^ n - 1) (gs.getD i 0 :: (pre ++ post)) := h.p.perm (by
      have := @List.perm_middle _ (gs.getD i 0) pre post
      rw [← h1] at this
      exact this)
    have := hp.cut hd hlo hr
    refine this.perm ?_
    unfold cutG
    rw [h2, lowb_eq a]
    generalize gs.getD i 0 ^^^ (gs.getD i 0 &&& 2 ^ low (gs.getD i 0)) = y
    generalize 2 ^ low (gs.getD i 0) = z
    refine (List.Perm.cons y ?_).trans (List.perm_middle.symm.trans (List.Perm.of_eq (List.append_assoc pre (y :: post) [z]).symm))
    refine (List.perm_append_comm (l₁ := [z]) (l₂ := pre ++ post)).trans (List.Perm.of_eq (List.append_assoc _ _ _))
  · unfold cutG
    rw [getD_app_l (by rw [List.length_set]; omega), set_get hi, if_neg (by omega)]
    exact h.s k hk
end Go.Proofs.YtcnkbdfkjhlbiaaDoor
namespace Go.Proofs.YtcnkbdfkjhlbiaaDoor
open Go.Sy
set_option maxRecDepth 8000
def Census.manyS (c : Census) (most : Bool) : Int := if most then (readW c).persons.hi else (readW c).persons.lo
def Census.groupsS (c : Census) (most : Bool) : List Nat := splitG (c.manyS most).toNat 20 (showG (readW c).one (readW c).least 1024 (2 ^ (blocksOf c).length - 1)) 0
def Census.showS (c : Census) (most : Bool) : List (List Int) × Int := if c.tried true = 0 then ((c.groupsS most).map fun g => nats (elems (unionB (blocksOf c) (elems g))), 0) else ([], c.tried true)
structure ShowOk (c : Census) : Prop where
  f : Fine c
  r : Readable c
  t : TabC c (readW c).one (readW c).least
  l : lst c < 1024
  m : ∀ most, 0 ≤ c.manyS most ∧ lst c ≤ c.manyS most ∧ c.manyS most ≤ (blocksOf c).length
theorem show_ok {c : Census} (h0 : c.tried true = 0) : ShowOk c := by
  have hk : c.check = 0 := by
    unfold Census.tried at h0
    split at h0
    · rename_i h; exact absurd h0 h
    · rename_i h; simpa using h
  have hf := fine_iff.1 hk
  have hle : (pers c).lo ≤ (pers c).hi := by
    unfold Census.tried at h0
    rw [if_neg (fun hc => hc hk)] at h0
    simp only [Bool.not_true, Bool.false_eq_true, if_false] at h0
    split at h0
    · cases h0
    · rename_i h
      have h : ¬ (pers c).lo > (pers c).hi := h
      omega
  have hlo := pers_lo hf.pairs hf.n10
  have key : ∀ m : Nat, (pers c).lo ≤ m → (m : Int) ≤ (pers c).hi → lst c < 1024 ∧ lst c ≤ m ∧ m ≤ (blocksOf c).length := fun m h1 h2 => (sem_iff hf.pairs hf.n10).1 ((pers_iff hf.pairs hf.n10 hf.lims).2 ⟨h1, h2⟩).1
  have kl := key (pers c).lo.toNat (by omega) (by omega)
  have kh := key (pers c).hi.toNat (by omega) (by omega)
  refine ⟨hf, Census.readable hk, tabC hf.pairs hf.n10, kl.1, fun most => ?_⟩
  unfold Census.manyS
  show 0 ≤ (if most = true then (pers c).hi else (pers c).lo) ∧ lst c ≤ (if most = true then (pers c).hi else (pers c).lo) ∧ (if most = true then (pers c).hi else (pers c).lo) ≤ _
  cases most
  · simp only [Bool.false_eq_true, if_false]; omega
  · simp only [if_true]; omega
theorem rU_snoc (l : List Nat) (x : Nat) : rU (l ++ [x]) = rU l ++ [[U x]] := by simp [rU]
theorem rU_cut (l : List Nat) (i : Nat) : rU (cutG l i) = (rU l).set i [U (l.getD i 0 ^^^ (l.getD i 0 &&& lowb (l.getD i 0)) : Nat)] ++ [[U (lowb (l.getD i 0))]] := by
  unfold cutG
  rw [rU_snoc, rU, rU, List.map_set]
theorem rU_fz {r : Nat → Nat} {hp hp' : HpT} (l : List Nat) : F2 (F2 fun s x => TnS r hp hp' s (.d x)) (rU l) (dU l) := by
  induction l with
  | nil => exact .nil
  | cons x l ih => exact .cons (.cons (TnS.d _) .nil) ih
theorem rU_tn {r : Nat → Nat} {hp hp' : HpT} (l : List Nat) : F2 (F2 (TnS r hp hp')) (rU l) (rU l) := by
  induction l with
  | nil => exact .nil
  | cons x l ih => exact .cons (.cons (TnS.d _) .nil) ih
theorem rU_cut_tn {r : Nat → Nat} {hp hp' : HpT} {l : List Nat} {i : Nat} : F2 (F2 (TnS r hp hp')) ((rU l).set i [U (l.getD i 0 ^^^ (l.getD i 0 &&& lowb (l.getD i 0)) : Nat)] ++ [[U (lowb (l.getD i 0))]]) ((rU l).set i [U (l.getD i 0 ^^^ (l.getD i 0 &&& lowb (l.getD i 0)) : Nat)] ++ [[U (lowb (l.getD i 0))]]) := by
  rw [← rU_cut]; exact rU_tn _
abbrev tysW47_57 := And.intro ty.sz0 <| And.intro ty.agg0 <| And.intro ty.elem0 <| And.intro ty.sz3 <| And.intro ty.agg3 <| And.intro ty.elem3 <| And.intro ty.zero3 <| And.intro ty.und3 <| And.intro ty.sz4 <| And.intro ty.agg4 <| And.intro ty.elem4 <| And.intro ty.zero4 <| And.intro ty.und4 <| And.intro ty.sz30 <| And.intro ty.agg30 <| And.intro ty.fld30_0 <| And.intro ty.fld30_1 <| And.intro ty.elem30 <| And.intro ty.zero30 <| And.intro ty.pl30 <| And.intro ty.sz31 <| And.intro ty.agg31 <| And.intro ty.elem31 <| And.intro ty.zero31 <| And.intro ty.und31 <| And.intro ty.sz37 <| And.intro ty.agg37 <| And.intro ty.fld37_0 <| And.intro ty.fld37_1 <| And.intro ty.fld37_2 <| And.intro ty.fld37_3 <| And.intro ty.fld37_4 <| And.intro ty.elem37 <| And.intro ty.zero37 <| And.intro ty.pl37 <| And.intro ty.sz39 <| And.intro ty.agg39 <| And.intro ty.elem39 <| And.intro ty.by39 <| And.intro ty.ez39 <| And.intro ty.zero39 <| And.intro ty.und39 <| And.intro ty.sz43 <| And.intro ty.agg43 <| And.intro ty.elem43 <| And.intro ty.by43 <| And.intro ty.ez43 <| And.intro ty.zero43 <| And.intro ty.und43 <| And.intro ty.sz108 <| And.intro ty.agg108 <| And.intro ty.elem108 <| And.intro ty.zero108 <| And.intro ty.sz109 <| And.intro ty.agg109 <| And.intro ty.elem109 <| And.intro ty.sz114 <| And.intro ty.agg114 <| And.intro ty.elem114 <| And.intro ty.zero114 <| And.intro ty.und114 <| And.intro ty.sz142 <| And.intro ty.agg142 <| And.intro ty.elem142 <| And.intro ty.by142 <| And.intro ty.ez142 <| And.intro ty.zero142 <| And.intro ty.und142 <| And.intro ty.sz144 <| And.intro ty.agg144 <| And.intro ty.elem144 <| And.intro ty.arr144 <| And.intro ty.zero144 <| And.intro ty.und144 <| And.intro ty.sz146 <| And.intro ty.agg146 <| And.intro ty.fld146_0 <| And.intro ty.fld146_1 <| And.intro ty.fld146_2 <| And.intro ty.fld146_3 <| And.intro ty.elem146 <| And.intro ty.zero146 <| And.intro ty.pl146 <| And.intro ty.sz154 <| And.intro ty.agg154 <| And.intro ty.elem154 <| ty.zero154
set_option maxHeartbeats 4000000 in
theorem Show_c (c : Census) (hs : c.small) (most : Bool) : CallP Tryd.prog G0 57 [c.s, B most] (.tup [SL (c.showS most).1, I (c.showS most).2]) := by
  refine CallP.body 130 [.tmp 4, .tmp 5] Tryd.func57 (by kernel_rfl) rfl rfl rfl (by repeat' (first | exact Pure.d _ | exact Pure.dx _ | exact Pure.dp _ | exact fa_nil | refine fa_cons ?_ ?_ | refine Pure.agg ?_ | refine Pure.tup ?_ | refine Pure.clo ?_ ?_ | refine Pure.fp ?_ | exact Pure.mapd _ | assumption)) (by repeat' (first | exact Pure.d _ | exact Pure.dx _ | exact Pure.dp _ | exact fa_nil | refine fa_cons ?_ ?_ | refine Pure.agg ?_ | refine Pure.tup ?_ | refine Pure.clo ?_ ?_ | refine Pure.fp ?_ | exact Pure.mapd _ | assumption)) ?_
  refine Tr.reg [1, 2, 4, 5] (by
      simp only [↓sxd, sxu, ↓zE, ↓exq, St.keep, ↓zI, Nat.reduceBEq, Nat.reduceAdd, Nat.reduceLT, Nat.reduceEqDiff]
      (repeat' (first | rfl | exact trivial | exact fun h => h | exact fun h => (by rw [h]; rfl) | apply And.intro | omega | exact Nat.le_of_ble_eq_true rfl))) ?_
  have hv1 : svCells (c.triedW true) = [c.triedW true] := by unfold Census.triedW; split <;> rfl
  have hv2 : (c.triedW true).one = true := by unfold Census.triedW; split <;> rfl
  have hv3 : svOk (c.triedW true) = true := by unfold Census.triedW; split <;> rfl
  refine Tr.reg [1, 4, 5, 6, 7] (by
      simp only [↓sxd, sxu, ↓zE, ↓exq, St.keep, ↓zD, Nat.reduceBEq, Nat.reduceAdd, Nat.reduceLT, tysW47_57]
      (repeat ((with_reducible refine And.intro ?_ ?_); (focus (first | with_reducible rfl | trivial | exact fun h => h | exact fun h => (by rw [h]; rfl) | omega | assumption))))
      refine CallO.use (tried'_c c hs true) ?_
      try simp only [↓sxd, sxu, ↓zE, ↓exq, ↓zN, ↓zM, Nat.reduceBEq, Nat.reduceAdd, Nat.reduceLT, Nat.reduceEqDiff, tysW47_57, hv1, hv2, hv3]
      (repeat' (first | rfl | exact trivial | exact fun h => h | exact fun h => (by rw [h]; rfl) | apply And.intro | omega | exact Nat.le_of_ble_eq_true rfl))) ?_
  refine Tr.seq ?_
  refine Tr.reg [1, 4, 5, 6, 7, 26] (by
      simp only [↓sxd, sxu, ↓zE, ↓exq, St.keep, Nat.reduceBEq, Nat.reduceLT]
      (repeat' (first | rfl | exact trivial | exact fun h => h | exact fun h => (by rw [h]; rfl) | apply And.intro | omega | exact Nat.le_of_ble_eq_true rfl))) ?_
  refine Tr.cond rfl (fun h26 => ?_) (fun h26 => ?_)
  · have hne : c.tried true ≠ 0 := by simpa using h26
    have hS : c.showS most = ([], c.tried true) := if_neg hne
    rw [hS]
    refine Tr.reg [4, 5] (by
        simp only [↓sxd, sxu, ↓zE, ↓exq, St.keep, Nat.reduceBEq, Nat.reduceLT]
        (repeat' (first | rfl | exact trivial | exact fun h => h | exact fun h => (by rw [h]; rfl) | apply And.intro | omega | exact Nat.le_of_ble_eq_true rfl))) ?_
    refine Tr.imp (Imp.fin (tm' := [(4, SL []), (5, I (c.tried true))]) (.cons rfl (TnS.dxd _) (.cons rfl (TnS.d _) trivial))) ?_
    refine Tr.ret ?_
    (refine ⟨.inr rfl, ?_⟩; first | rfl | exact ⟨rfl, rfl, trivial⟩ | exact ⟨rfl, rfl, rfl, trivial⟩ | (simp only [Res, ResL, ResOK, ↓sxd, sxu, ↓zE, ↓zC, zK, ↓exP, ↓exq, ↓zB, St.keep, ↓zL, ↓zJ, ↓zD, ↓zN, ↓zV, ↓zM, ↓zI, ↓zG, ↓zQ, ↓z7, ↓zA, Nat.reduceBEq, Nat.reduceAdd, Nat.reduceLT, Nat.reduceMul, Nat.reduceSub, Nat.reduceLeDiff, Nat.reduceEqDiff, Int.reduceLE, Int.reduceLT, Int.reduceToNat, reduceIte, implies_true, sxe, tysW47_57]; (repeat' (first | rfl | exact trivial | exact fun h => h | exact fun h => (by rw [h]; rfl) | apply And.intro | omega | exact Nat.le_of_ble_eq_true rfl))))
  · have h0 : c.tried true = 0 := by simpa using h26
    have ho := show_ok h0
    have hW : c.triedW true = .dp (readW c).d := if_pos h0
    have hS : c.showS most = ((c.groupsS most).map fun g => nats (elems (unionB (blocksOf c) (elems g))), 0) := if_pos h0
    rw [hS, h0, hW]
    have hwk := readW_ok ho.r
    obtain ⟨hm1, hm2, hm3⟩ := ho.m most
    have hnb := ho.t.nb
    have hw20 := whole_c (readW c) (show (blocksOf c).length ≤ 20 by omega)
    refine Tr.skip ?_
    refine Tr.reg [1, 4, 5, 6, 8] (by
        simp only [↓sxd, sxu, ↓zE, ↓exq, St.keep, ↓zD, Nat.reduceBEq, Nat.reduceLT, tysW47_57]
        (repeat ((with_reducible refine And.intro ?_ ?_); (focus (first | with_reducible rfl | trivial | exact fun h => h | exact fun h => (by rw [h]; rfl) | omega | assumption))))
        refine CallO.use (persons_c _ hwk) ?_
        try simp only [↓sxd, sxu, ↓zE, ↓exq, ↓z7, Nat.reduceBEq, Nat.reduceLT]
        (repeat' (first | rfl | exact trivial | exact fun h => h | exact fun h => (by rw [h]; rfl) | apply And.intro | omega | exact Nat.le_of_ble_eq_true rfl))) ?_
    refine Tr.seq ?_
    refine Tr.reg [4, 5, 6, 8, 31] (by
        simp only [↓sxd, sxu, ↓zE, ↓exq, St.keep, Nat.reduceBEq, Nat.reduceLT]
        (repeat' (first | rfl | exact trivial | exact fun h => h | exact fun h => (by rw [h]; rfl) | apply And.intro | omega | exact Nat.le_of_ble_eq_true rfl))) ?_
    refine Tr.join2 (st' := ⟨[(4, .dx []), (5, I 0), (6, .ptr 1 0 0), (8, I (c.manyS most))], [(1, .arr 1 [[.dp (readW c).d]])], 2, 130, [], 0⟩) ?_ ?_
    ·
      refine Tr.cond rfl (fun h31 => ?_) (fun h31 => ?_)
      · have hmo : most = true := h31
        refine Tr.reg1 [4, 5, 6, 8] (by
            simp only [↓sxd, sxu, ↓zE, ↓exq, St.keep, ↓zD, Nat.reduceBEq, Nat.reduceLT, tysW47_57]
            (repeat ((with_reducible refine And.intro ?_ ?_); (focus (first | with_reducible rfl | trivial | exact fun h => h | exact fun h => (by rw [h]; rfl) | omega | assumption))))
            refine CallO.use (persons_c _ hwk) ?_
            try simp only [↓sxd, sxu, ↓zE, ↓exq, ↓z7, Nat.reduceBEq, Nat.reduceLT]
            (repeat' (first | rfl | exact trivial | exact fun h => h | exact fun h => (by rw [h]; rfl) | apply And.intro | omega | exact Nat.le_of_ble_eq_true rfl))) ?_
        subst hmo
        refine ⟨_, ?_, rfl⟩
        exact Imp.go (fun i => i) [(1, _)] rfl rfl (.cons_cons _ (.cons _ .slnil)) (fun _ _ => rfl) (fun _ h => h) (.cons rfl (TnS.dx _) (.cons rfl (TnS.d _) (.cons rfl (TnS.ptr rfl) (.cons rfl (TnS.d _) trivial)))) (.cons ⟨rfl, TnO.arr (by repeat' (first | exact TmT.cons rfl (TnS.d _) ?_ | exact trivial | exact F2.nil | refine F2.append ?_ ?_ | refine F2.map fun _ _ => ?_ | refine F2.cons ?_ ?_ | refine TmT.cons rfl ?_ ?_ | exact TnS.d _ | exact TnS.dx _ | exact TnS.dp _ | exact TnS.slc rfl | exact TnS.ptr rfl | refine TnS.frzf rfl (by simp) (by simp) (by simp) ?_ | refine TnS.frz0 rfl (by simp) (by simp) (by simp) ?_ | refine TnS.frzm rfl (by simp) ?_ | exact TnS.mapr rfl | exact TnS.yld rfl | refine ⟨rfl, ?_⟩ | refine TnO.arr ?_ | refine TnO.map ?_ | exact TnO.raw _ | exact TnO.iter _ _ | refine TnS.agg ?_ | refine TnS.tup ?_ | exact TnS.pure (Pure.clo (by assumption) (by assumption)) | refine TnS.clo ?_ ?_ | exact TnS.unk _ | exact TnS.pure (Pure.clo (by assumption) (by assumption))))⟩ .nil) (fun _ => rfl)
      · have hmo : most = false := h31
        refine Tr.skip ?_
        subst hmo
        refine ⟨_, ?_, rfl⟩
        exact Imp.go (fun i => i) [(1, _)] rfl rfl (.cons_cons _ (.cons _ .slnil)) (fun _ _ => rfl) (fun _ h => h) (.cons rfl (TnS.dx _) (.cons rfl (TnS.d _) (.cons rfl (TnS.ptr rfl) (.cons rfl (TnS.d _) trivial)))) (.cons ⟨rfl, TnO.arr (by repeat' (first | exact TmT.cons rfl (TnS.d _) ?_ | exact trivial | exact F2.nil | refine F2.append ?_ ?_ | refine F2.map fun _ _ => ?_ | refine F2.cons ?_ ?_ | refine TmT.cons rfl ?_ ?_ | exact TnS.d _ | exact TnS.dx _ | exact TnS.dp _ | exact TnS.slc rfl | exact TnS.ptr rfl | refine TnS.frzf rfl (by simp) (by simp) (by simp) ?_ | refine TnS.frz0 rfl (by simp) (by simp) (by simp) ?_ | refine TnS.frzm rfl (by simp) ?_ | exact TnS.mapr rfl | exact TnS.yld rfl | refine ⟨rfl, ?_⟩ | refine TnO.arr ?_ | refine TnO.map ?_ | exact TnO.raw _ | exact TnO.iter _ _ | refine TnS.agg ?_ | refine TnS.tup ?_ | exact TnS.pure (Pure.clo (by assumption) (by assumption)) | refine TnS.clo ?_ ?_ | exact TnS.unk _ | exact TnS.pure (Pure.clo (by assumption) (by assumption))))⟩ .nil) (fun _ => rfl)
    refine Tr.reg [4, 5, 6, 8, 9] (by
        simp only [↓sxd, sxu, ↓zE, ↓exq, St.keep, ↓zM, Nat.reduceBEq, Nat.reduceAdd, Nat.reduceLT, Nat.reduceEqDiff, tysW47_57]
        (repeat' (first | rfl | exact trivial | exact fun h => h | exact fun h => (by rw [h]; rfl) | apply And.intro | omega | exact Nat.le_of_ble_eq_true rfl))) ?_
    refine Tr.imp (st' := ⟨[(4, .dx []), (5, I 0), (6, .ptr 1 0 0), (8, I (c.manyS most)), (9, .ptr 2 0 0)], [(3, .arr 1 []), (2, .arr 1 [[.slc 3 1 0 0 0]]), (1, .arr 1 [[.dp (readW c).d]])], 4, 130, [], 0⟩) (Imp.goV 1 rfl rfl rfl rfl (by repeat' (first | exact trivial | exact F2.nil | refine F2.cons ?_ ?_ | refine TmV.cons rfl VnS.nil ?_ | refine TmV.cons rfl VnS.same ?_ | refine ⟨rfl, ?_⟩ | exact VnO.same _ | refine VnO.arr ?_ | exact VnS.nil | exact VnS.same | exact F2.refl fun _ _ => VnS.same)) (by repeat' (first | exact trivial | exact F2.nil | refine F2.cons ?_ ?_ | refine TmV.cons rfl VnS.nil ?_ | refine TmV.cons rfl VnS.same ?_ | refine ⟨rfl, ?_⟩ | exact VnO.same _ | refine VnO.arr ?_ | exact VnS.nil | exact VnS.same | exact F2.refl fun _ _ => VnS.same))) ?_
    refine Tr.seq ?_
    refine Tr.reg [4, 5, 6, 8, 9, 10] (by
        simp only [↓sxd, sxu, ↓zE, ↓exq, St.keep, ↓zD, Nat.reduceBEq, Nat.reduceLT, tysW47_57]
        (repeat ((with_reducible refine And.intro ?_ ?_); (focus (first | with_reducible rfl | trivial | exact fun h => h | exact fun h => (by rw [h]; rfl) | omega | assumption))))
        refine CallO.use (hw20) ?_
        try simp only [↓sxd, sxu, ↓zE, ↓exq, ↓zM, Nat.reduceBEq, Nat.reduceAdd, Nat.reduceLT, Nat.reduceEqDiff, tysW47_57]
        (repeat' (first | rfl | exact trivial | exact fun h => h | exact fun h => (by rw [h]; rfl) | apply And.intro | omega | exact Nat.le_of_ble_eq_true rfl))) ?_
    obtain ⟨one, h1e⟩ : ∃ x, x = (readW c).one := ⟨_, rfl⟩
    obtain ⟨L, hLe⟩ : ∃ x, x = (readW c).least := ⟨_, rfl⟩
    obtain ⟨G0, hG0⟩ : ∃ x, x = showG (readW c).one (readW c).least 1024 (2 ^ (blocksOf c).length - 1) := ⟨_, rfl⟩
    have hp0 := Nat.two_pow_pos (blocksOf c).length
    have hp10 : 2 ^ (blocksOf c).length ≤ 2 ^ 10 := Nat.pow_le_pow_right (by omega) hnb
    have hlst : (readW c).least.getD (2 ^ (blocksOf c).length - 1) 0 < 1024 := ho.l
    obtain ⟨hGp, hGl⟩ := ho.t.show 1024 (2 ^ (blocksOf c).length - 1) (by omega) (by omega) hlst
    rw [← hG0] at hGp hGl
    have hl1 := hwk.h1
    have hl2 := hwk.h2
    refine Tr.imp (st' := ⟨[(4, .dx []), (5, I 0), (6, .ptr 1 0 0), (8, I (c.manyS most)), (9, .ptr 2 0 0), (10, .ptr 4 0 0)], [(4, .arr 1 [[U (((2 ^ (blocksOf c).length - 1)) : Nat)]]), (3, .arr 1 (rU [])), (2, .arr 1 [[.slc 3 1 0 [].length [].length]]), (1, .arr 1 [[.dp (readW c).d]])], 5, 130, [0], 0⟩) (Imp.flag) (Tr.block (Tr.loopI (fun mm ss => ∃ (s : Nat) (gs : List Nat), (s < 2 ^ (blocksOf c).length ∧ (readW c).least.getD s 0 < 1024 ∧ ∃ f, s < f ∧ gs ++ showG (readW c).one (readW c).least f s = G0) ∧ s = mm ∧ ss = ⟨[(4, .dx []), (5, I 0), (6, .ptr 1 0 0), (8, I (c.manyS most)), (9, .ptr 2 0 0), (10, .ptr 4 0 0)], [(4, .arr 1 [[U (s : Nat)]]), (3, .arr 1 (rU gs)), (2, .arr 1 [[.slc 3 1 0 gs.length gs.length]]), (1, .arr 1 [[.dp (readW c).d]])], 5, 130, [0], 0⟩) _ ⟨(2 ^ (blocksOf c).length - 1), [], ?_, rfl, rfl⟩ ?_))
    · exact ⟨by omega, hlst, 1024, by omega, hG0.symm⟩
    rintro mm ss ⟨s, gs, hI, rfl, rfl⟩
    obtain ⟨hs2, hsl, f, hsf, hsg⟩ := hI
    have hs10 : s < 1024 := by omega
    have hgl : gs.length ≤ G0.length := by rw [← hsg, List.length_append]; omega
    have hG1024 : G0.length < 1024 := by omega
    refine Tr.seq ?_
    refine Tr.reg [4, 5, 6, 8, 9, 10, 38] (by
        simp only [↓sxd, sxu, ↓zE, ↓exq, St.keep, ↓zD, Nat.reduceBEq, Nat.reduceLT, tysW47_57]
        (repeat' (first | rfl | exact trivial | exact fun h => h | exact fun h => (by rw [h]; rfl) | apply And.intro | omega | exact Nat.le_of_ble_eq_true rfl))) ?_
    refine Tr.cond rfl (fun h38 => ?_) (fun h38 => ?_)
    · have hs0 : s ≠ 0 := by have := bne_iff_ne.1 h38; omega
      refine Tr.skip ?_
      refine Tr.seq ?_
      refine Tr.block ?_
      refine Tr.reg [4, 5, 6, 8, 9, 10, 41] (by
          simp only [↓sxd, sxu, ↓zE, ↓exq, St.keep, ↓zD, Nat.reduceBEq, Nat.reduceLT, tysW47_57]
          (repeat ((with_reducible refine And.intro ?_ ?_); (focus (first | with_reducible rfl | trivial | exact fun h => h | exact fun h => (by rw [h]; rfl) | omega | assumption))))
          refine (groupsD_h _ _ _ s).mono ?_
          rintro r hp' nx' ⟨rfl, rfl, rfl⟩
          try simp only [↓sxd, sxu, Nat.reduceBEq, Nat.reduceAdd]
          (repeat' (first | rfl | exact trivial | exact fun h => h | exact fun h => (by rw [h]; rfl) | apply And.intro | omega | exact Nat.le_of_ble_eq_true rfl))) ?_
      refine Tr.block ?_
      refine Tr.rangeF2 rfl (fun fn ca cb has hbd => ?_)
      try dsimp only
      refine CallH.mono (groups1D_h (readW c) hl1 s hs10 (fun gs => ∀ x ∈ gs, ((readW c).least.getD s 0 == 1 + (readW c).least.getD (s ^^^ (s &&& x)) 0) = false) (fun x hx => by cases hx) (fun _ => (7, .loop fn _ _ _ ca cb .ready none 0) :: (6, .arr 1 [[U s]]) :: (5, .arr 1 [[.dp (readW c).d]]) :: (4, .arr 1 [[U s]]) :: (3, .arr 1 (rU gs)) :: (2, .arr 1 [[.slc 3 1 0 gs.length gs.length]]) :: (1, .arr 1 [[.dp (readW c).d]]) :: []) 8 6 5 7 (fun _ => rfl) (fun _ => rfl) (fun hp' nx' => ∃ g, pickG (readW c).one (readW c).least s = some g ∧ hp' = [(8, .arr 1 (rU gs ++ [[U g]])), (7, .loop fn [(4, .dx []), (5, I 0), (6, .ptr 1 0 0), (8, I (c.manyS most)), (9, .ptr 2 0 0), (10, .ptr 4 0 0), (41, .clo (.func 117) [] [.ptr 6 0 0, .ptr 5 0 0])] 130 #[42] ca cb .done (some (.exit 2)) 0), (6, .arr 1 [[U s]]), (5, .arr 1 [[.dp (readW c).d]]), (4, .arr 1 [[U (s ^^^ (s &&& g) : Nat)]]), (2, .arr 1 [[.slc 8 1 0 (gs.length + 1) (gs.length + 1)]]), (1, .arr 1 [[.dp (readW c).d]])] ∧ nx' = 9) ?_) ?_
      · intro qs g ts hqs hno
        have hgm : g ∈ groupsL (readW c).one s := by rw [← hqs]; simp
        obtain ⟨g1, g2, g3, g4⟩ := ho.t.group hs2 hs0 hgm
        have hg : g < 1024 := Nat.lt_of_lt_of_le (sub_lt g1 hs2) hp10
        have hx := andNot_le s g
        have hb1 := ho.t.b s
        have hb2 := ho.t.b (s ^^^ (s &&& g))
        refine RoundH.of_body2 has hbd rfl rfl (fun t ht => by simp at ht; subst ht; decide) (fun ro => ?_)
        refine Tr.reg1 [4, 5, 6, 8, 9, 10, 11] (by
            simp only [↓sxd, sxu, ↓zE, ↓exq, St.keep, Nat.reduceBEq, Nat.reduceLT, bindT]
            (repeat' (first | rfl | exact trivial | exact fun h => h | exact fun h => (by rw [h]; rfl) | apply And.intro | omega | exact Nat.le_of_ble_eq_true rfl))) ?_
        refine ⟨rfl, none, _, rfl, ?_⟩
        try dsimp only
        refine Tr.block ?_
        have wL : IntKind.i64.wrap (1 + (readW c).least.getD (s ^^^ (s &&& g)) 0) = 1 + (readW c).least.getD (s ^^^ (s &&& g)) 0 := wr (by omega) (by omega)
        refine Tr.regD [0, 1, 2, 3, 4, 5, 6, 7, 8, 9, 10, 11, 12, 13, 14, 15] [] [] [4, 5, 6, 8, 9, 10, 11, 58] mix (by kernel_rfl) (by
            simp only [↓sxd, sxu, ↓zC, zK, ↓exq, St.keep, ↓zD, ↓zV, ↓zA, Nat.reduceBEq, Nat.reduceLT, Nat.reduceEqDiff, sxe, tysW47_57, Work.tl, tl_least hl1, le_get (show s < (readW c).least.length by omega), le_get0 (show s < (readW c).least.length by omega), le_get (show s ^^^ (s &&& g) < (readW c).least.length by omega), le_get0 (show s ^^^ (s &&& g) < (readW c).least.length by omega), andNot_u (show s < 18446744073709551616 by omega) (show g < 18446744073709551616 by omega), wL]
            (repeat' (first | rfl | exact trivial | exact fun h => h | exact fun h => (by rw [h]; rfl) | apply And.intro | omega | exact Nat.le_of_ble_eq_true rfl))) ?_
        refine Tr.cond rfl (fun h58 => ?_) (fun h58 => ?_)
        · skip
          have hk1 : (gs.length + 1 ≤ 1073741824) = True := eq_true (by omega)
          refine Tr.reg [4, 5, 6, 8, 9, 10, 11] (by
              simp only [↓sxd, sxu, ↓zE, ↓exq, ↓zB, St.keep, ↓zD, ↓zG, ↓zQ, Nat.reduceBEq, Nat.reduceAdd, Nat.reduceLT, Nat.reduceLeDiff, Nat.reduceEqDiff, tysW47_57, hk1]
              (repeat' (first | rfl | exact trivial | exact fun h => h | exact fun h => (by rw [h]; rfl) | apply And.intro | omega | exact Nat.le_of_ble_eq_true rfl))) ?_
          refine Tr.reg [4, 5, 6, 8, 9, 10] (by
              simp only [↓sxd, sxu, ↓zE, ↓exq, St.keep, ↓zD, Nat.reduceBEq, Nat.reduceLT, Nat.reduceEqDiff, tysW47_57, andNot_u (show s < 18446744073709551616 by omega) (show g < 18446744073709551616 by omega)]
              (repeat' (first | rfl | exact trivial | exact fun h => h | exact fun h => (by rw [h]; rfl) | apply And.intro | omega | exact Nat.le_of_ble_eq_true rfl))) ?_
          refine Tr.exit ?_
          refine ⟨_, _, _, _, _, _, _, _, _, rfl, ?_⟩
          exact .inr ⟨rfl, g, pickG_first hqs hno h58, rfl, rfl⟩
        · refine Tr.skip ?_
          refine ⟨_, _, _, _, _, _, _, _, _, rfl, ?_⟩
          refine .inl ⟨rfl, fun x hx => ?_, rfl, rfl⟩
          rcases List.mem_append.1 hx with hx | hx
          · exact hno x hx
          · rw [List.mem_singleton] at hx
            rw [hx]; exact h58
      rintro r hp' nx' (⟨hno, _, _⟩ | ⟨g, hpk, rfl, rfl⟩)
      · exact (ho.t.none hs2 hs0 hsl hno).elim
      obtain ⟨hgm, hgL⟩ := pickG_spec hpk
      obtain ⟨g1, g2, g3, g4⟩ := ho.t.group hs2 hs0 hgm
      obtain ⟨f, rfl⟩ : ∃ f', f = f' + 1 := ⟨f - 1, by omega⟩
      rw [showG, if_neg hs0, hpk] at hsg
      refine ⟨_, .done, some (.exit 2), rfl, by decide, ?_⟩
      try dsimp only
      refine Tr.exit ?_
      refine Tr.reg [4, 5, 6, 8, 9, 66] (by
          simp only [↓sxd, sxu, ↓zE, ↓exq, St.keep, ↓zD, Nat.reduceBEq, Nat.reduceLT, Nat.reduceEqDiff, tysW47_57]
          (repeat' (first | rfl | exact trivial | exact fun h => h | exact fun h => (by rw [h]; rfl) | apply And.intro | omega | exact Nat.le_of_ble_eq_true rfl))) ?_
      refine Tr.reg1 [4, 5, 6, 8, 9, 10] (by
          simp only [↓sxd, sxu, ↓zE, ↓exq, St.keep, ↓zM, Nat.reduceBEq, Nat.reduceAdd, Nat.reduceLT, Nat.reduceEqDiff, tysW47_57]
          (repeat' (first | rfl | exact trivial | exact fun h => h | exact fun h => (by rw [h]; rfl) | apply And.intro | omega | exact Nat.le_of_ble_eq_true rfl))) ?_
      refine ⟨_, _, ?_, ?_, ⟨s ^^^ (s &&& g), gs ++ [g], ⟨by omega, by omega, f, by omega, ?_⟩, rfl, rfl⟩⟩
      · exact g4
      · rw [List.length_append, List.length_singleton, rU_snoc]
        exact Imp.go (fun i => if i = 3 then 8 else if i = 4 then 9 else if i < 3 then i else i + 5) [(9, _), (8, _), (2, _), (1, _)] rfl rfl (.cons_cons _ (.cons_cons _ (.cons _ (.cons _ (.cons _ (.cons _ (.refl _))))))) (fun _ h => absurd h (Nat.not_lt_zero _)) (fun id h => by simp only [show ¬ id = 3 by omega, show ¬ id = 4 by omega, show ¬ id < 3 by omega, if_false]; omega) (by repeat' (first | exact TmT.cons rfl (TnS.d _) ?_ | exact trivial | exact F2.nil | refine F2.append ?_ ?_ | refine F2.map fun _ _ => ?_ | refine F2.cons ?_ ?_ | refine TmT.cons rfl ?_ ?_ | exact TnS.d _ | exact TnS.dx _ | exact TnS.dp _ | exact TnS.slc rfl | exact TnS.ptr rfl | refine TnS.frzf rfl (by simp) (by simp) (by simp) ?_ | refine TnS.frz0 rfl (by simp) (by simp) (by simp) ?_ | refine TnS.frzm rfl (by simp) ?_ | exact TnS.mapr rfl | exact TnS.yld rfl | refine ⟨rfl, ?_⟩ | refine TnO.arr ?_ | refine TnO.map ?_ | exact TnO.raw _ | exact TnO.iter _ _ | refine TnS.agg ?_ | refine TnS.tup ?_ | exact TnS.pure (Pure.clo (by assumption) (by assumption)) | refine TnS.clo ?_ ?_ | exact TnS.unk _ | exact TnS.pure (Pure.clo (by assumption) (by assumption)))) (by repeat' (first | exact TmT.cons rfl (TnS.d _) ?_ | exact trivial | exact F2.nil | refine F2.append ?_ ?_ | refine F2.map fun _ _ => ?_ | refine F2.cons ?_ ?_ | refine TmT.cons rfl ?_ ?_ | exact TnS.d _ | exact TnS.dx _ | exact TnS.dp _ | exact TnS.slc rfl | exact TnS.ptr rfl | refine TnS.frzf rfl (by simp) (by simp) (by simp) ?_ | refine TnS.frz0 rfl (by simp) (by simp) (by simp) ?_ | refine TnS.frzm rfl (by simp) ?_ | exact TnS.mapr rfl | exact TnS.yld rfl | refine ⟨rfl, ?_⟩ | refine TnO.arr ?_ | refine TnO.map ?_ | exact TnO.raw _ | exact TnO.iter _ _ | refine TnS.agg ?_ | refine TnS.tup ?_ | exact TnS.pure (Pure.clo (by assumption) (by assumption)) | refine TnS.clo ?_ ?_ | exact TnS.unk _ | exact TnS.pure (Pure.clo (by assumption) (by assumption)))) (fun h => by cases h)
      · rw [← hsg, List.append_assoc]; rfl
    · have hs0 : s = 0 := by simpa using h38
      refine Tr.exit ?_
      refine Tr.seq ?_
      subst hs0
      obtain ⟨f, rfl⟩ : ∃ f', f = f' + 1 := ⟨f - 1, by omega⟩
      rw [showG, if_pos rfl, List.append_nil] at hsg
      subst hsg
      obtain ⟨mn, hmm⟩ := Int.eq_ofNat_of_zero_le hm1
      have hml : gs.length ≤ mn := by
        have : lst c ≤ mn := by rw [← hmm]; exact hm2
        have hl : (readW c).least.getD (2 ^ (blocksOf c).length - 1) 0 = lst c := rfl
        omega
      have hmb : mn ≤ (blocksOf c).length := by omega
      refine Tr.reg [6, 8, 9, 12] (by
          simp only [↓sxd, sxu, ↓zE, ↓exq, St.keep, Nat.reduceBEq, Nat.reduceLT]
          (repeat' (first | rfl | exact trivial | exact fun h => h | exact fun h => (by rw [h]; rfl) | apply And.intro | omega | exact Nat.le_of_ble_eq_true rfl))) ?_
      refine Tr.imp (st' := ⟨[(6, .ptr 1 0 0), (8, I (c.manyS most)), (9, .ptr 2 0 0), (12, I 0)], [(3, .arr 1 (rU gs)), (2, .arr 1 [[.slc 3 1 0 gs.length gs.length]]), (1, .arr 1 [[.dp (readW c).d]])], 5, 130, [0], 0⟩) (Imp.go (fun i => i) [(3, _), (2, _), (1, _)] rfl rfl (.cons _ (.refl _)) (fun _ _ => rfl) (fun _ h => h) (by repeat' (first | exact TmT.cons rfl (TnS.d _) ?_ | exact trivial | exact F2.nil | refine F2.append ?_ ?_ | refine F2.map fun _ _ => ?_ | refine F2.cons ?_ ?_ | refine TmT.cons rfl ?_ ?_ | exact TnS.d _ | exact TnS.dx _ | exact TnS.dp _ | exact TnS.slc rfl | exact TnS.ptr rfl | refine TnS.frzf rfl (by simp) (by simp) (by simp) ?_ | refine TnS.frz0 rfl (by simp) (by simp) (by simp) ?_ | refine TnS.frzm rfl (by simp) ?_ | exact TnS.mapr rfl | exact TnS.yld rfl | refine ⟨rfl, ?_⟩ | refine TnO.arr ?_ | refine TnO.map ?_ | exact TnO.raw _ | exact TnO.iter _ _ | refine TnS.agg ?_ | refine TnS.tup ?_ | exact TnS.pure (Pure.clo (by assumption) (by assumption)) | refine TnS.clo ?_ ?_ | exact TnS.unk _ | exact TnS.pure (Pure.clo (by assumption) (by assumption)))) (by repeat' (first | exact TmT.cons rfl (TnS.d _) ?_ | exact trivial | exact F2.nil | refine F2.append ?_ ?_ | refine F2.map fun _ _ => ?_ | refine F2.cons ?_ ?_ | refine TmT.cons rfl ?_ ?_ | exact TnS.d _ | exact TnS.dx _ | exact TnS.dp _ | exact TnS.slc rfl | exact TnS.ptr rfl | refine TnS.frzf rfl (by simp) (by simp) (by simp) ?_ | refine TnS.frz0 rfl (by simp) (by simp) (by simp) ?_ | refine TnS.frzm rfl (by simp) ?_ | exact TnS.mapr rfl | exact TnS.yld rfl | refine ⟨rfl, ?_⟩ | refine TnO.arr ?_ | refine TnO.map ?_ | exact TnO.raw _ | exact TnO.iter _ _ | refine TnS.agg ?_ | refine TnS.tup ?_ | exact TnS.pure (Pure.clo (by assumption) (by assumption)) | refine TnS.clo ?_ ?_ | exact TnS.unk _ | exact TnS.pure (Pure.clo (by assumption) (by assumption)))) (fun h => by cases h)) (Tr.block (Tr.loopI (fun mm ss => ∃ (i : Nat) (qs : List Nat), (SplitOk (oneP c) (blocksOf c).length qs i ∧ qs.length ≤ mn ∧ ∃ f, splitG mn f qs i = c.groupsS most ∧ 2 * mn ≤ f + qs.length + i) ∧ 2 * mn - qs.length - i = mm ∧ ss = ⟨[(6, .ptr 1 0 0), (8, I (c.manyS most)), (9, .ptr 2 0 0), (12, I i)], [(3, .arr 1 (rU qs)), (2, .arr 1 [[.slc 3 1 0 qs.length qs.length]]), (1, .arr 1 [[.dp (readW c).d]])], 5, 130, [0], 0⟩) _ ⟨0, gs, ?_, rfl, rfl⟩ ?_))
      · exact ⟨⟨hGp, Nat.zero_le _, fun k hk => by omega⟩, hml, 20, by unfold Census.groupsS; rw [hmm, ← hG0]; rfl, by omega⟩
      rintro mm ss ⟨i, qs, hI, rfl, rfl⟩
      obtain ⟨hsp, hql, f2, hf2, hfl⟩ := hI
      refine Tr.seq ?_
      refine Tr.reg [6, 8, 9, 12, 70] (by
          simp only [↓sxd, sxu, ↓zE, ↓exq, ↓zB, St.keep, ↓zJ, ↓zD, Nat.reduceBEq, Nat.reduceLT, tysW47_57]
          (repeat' (first | rfl | exact trivial | exact fun h => h | exact fun h => (by rw [h]; rfl) | apply And.intro | omega | exact Nat.le_of_ble_eq_true rfl))) ?_
      refine Tr.cond rfl (fun h70 => ?_) (fun h70 => ?_)
      · have hlt : qs.length < mn := by have := of_decide_eq_true h70; omega
        have hi := hsp.lt hnb (by omega)
        obtain ⟨x0, x1, x2, x3⟩ := hsp.get hnb hi
        have hge := rU_get hi
        obtain ⟨f2, rfl⟩ : ∃ f', f2 = f' + 1 := ⟨f2 - 1, by omega⟩
        have hlb := (bits_le x1).1
        refine Tr.skip ?_
        refine Tr.block ?_
        refine Tr.regD [0, 1, 2, 3, 4, 5, 6, 7, 8, 9, 10] [] [] [6, 8, 9, 12, 13] mix (by kernel_rfl) (by
            simp only [↓sxd, sxu, ↓zC, zK, ↓exq, St.keep, ↓zL, ↓zD, Nat.reduceBEq, Nat.reduceLT, sxe, tysW47_57, hi, hge, lowb_u (show qs.getD i 0 < 4096 by omega)]
            (repeat' (first | rfl | exact trivial | exact fun h => h | exact fun h => (by rw [h]; rfl) | apply And.intro | omega | exact Nat.le_of_ble_eq_true rfl))) ?_
        refine Tr.seq ?_
        refine Tr.reg [6, 8, 9, 12, 13, 86] (by
            simp only [↓sxd, sxu, ↓zE, ↓exq, St.keep, ↓zD, Nat.reduceBEq, Nat.reduceLT, sxe, tysW47_57, hi, hge]
            (repeat' (first | rfl | exact trivial | exact fun h => h | exact fun h => (by rw [h]; rfl) | apply And.intro | omega | exact Nat.le_of_ble_eq_true rfl))) ?_
        refine Tr.cond rfl (fun h86 => ?_) (fun h86 => ?_)
        · have hs1 : lowb (qs.getD i 0) = qs.getD i 0 := by have := beq_iff_eq.1 h86; omega
          rw [splitG, if_pos hlt, if_pos hs1] at hf2
          have w1 : IntKind.i64.wrap ((i : Int) + 1) = ((i + 1 : Nat) : Int) := by rw [wr (by omega) (by omega)]; rfl
          refine Tr.reg [6, 8, 9, 12] (by
              simp only [↓sxd, sxu, ↓zE, ↓exq, St.keep, Nat.reduceBEq, Nat.reduceLT, w1]
              (repeat' (first | rfl | exact trivial | exact fun h => h | exact fun h => (by rw [h]; rfl) | apply And.intro | omega | exact Nat.le_of_ble_eq_true rfl))) ?_
          refine Tr.exit ?_
          first |(have hz := hs1.symm; exact ⟨_, _, by omega, Imp.keepAll, ⟨i + 1, qs, ⟨hsp.next hi hs1, hql, f2, hf2, by omega⟩, rfl, rfl⟩⟩) |(exact ⟨_, _, (by rw [cutG_len]; omega), (by rw [cutG_len, rU_cut]; exact Imp.go (fun i => if i = 3 then 5 else if i < 5 then i else i + 1) [(5, _), (2, _), (1, _)] rfl rfl (.refl _) (fun _ h => absurd h (Nat.not_lt_zero _)) (fun id h => by simp only [show ¬ id = 3 by omega, show ¬ id < 5 by omega, if_false]; omega) (by repeat' (first | exact TmT.cons rfl (TnS.d _) ?_ | exact trivial | exact F2.nil | refine F2.append ?_ ?_ | refine F2.map fun _ _ => ?_ | refine F2.cons ?_ ?_ | refine TmT.cons rfl ?_ ?_ | exact TnS.d _ | exact TnS.dx _ | exact TnS.dp _ | exact TnS.slc rfl | exact TnS.ptr rfl | refine TnS.frzf rfl (by simp) (by simp) (by simp) ?_ | refine TnS.frz0 rfl (by simp) (by simp) (by simp) ?_ | refine TnS.frzm rfl (by simp) ?_ | exact TnS.mapr rfl | exact TnS.yld rfl | refine ⟨rfl, ?_⟩ | refine TnO.arr ?_ | refine TnO.map ?_ | exact TnO.raw _ | exact TnO.iter _ _ | refine TnS.agg ?_ | refine TnS.tup ?_ | exact TnS.pure (Pure.clo (by assumption) (by assumption)) | refine TnS.clo ?_ ?_ | exact TnS.unk _ | exact TnS.pure (Pure.clo (by assumption) (by assumption)))) (.cons ⟨rfl, TnO.arr rU_cut_tn⟩ (.cons ⟨rfl, TnO.arr (by repeat' (first | exact TmT.cons rfl (TnS.d _) ?_ | exact trivial | exact F2.nil | refine F2.append ?_ ?_ | refine F2.map fun _ _ => ?_ | refine F2.cons ?_ ?_ | refine TmT.cons rfl ?_ ?_ | exact TnS.d _ | exact TnS.dx _ | exact TnS.dp _ | exact TnS.slc rfl | exact TnS.ptr rfl | refine TnS.frzf rfl (by simp) (by simp) (by simp) ?_ | refine TnS.frz0 rfl (by simp) (by simp) (by simp) ?_ | refine TnS.frzm rfl (by simp) ?_ | exact TnS.mapr rfl | exact TnS.yld rfl | refine ⟨rfl, ?_⟩ | refine TnO.arr ?_ | refine TnO.map ?_ | exact TnO.raw _ | exact TnO.iter _ _ | refine TnS.agg ?_ | refine TnS.tup ?_ | exact TnS.pure (Pure.clo (by assumption) (by assumption)) | refine TnS.clo ?_ ?_ | exact TnS.unk _ | exact TnS.pure (Pure.clo (by assumption) (by assumption))))⟩ (.cons ⟨rfl, TnO.arr (by repeat' (first | exact TmT.cons rfl (TnS.d _) ?_ | exact trivial | exact F2.nil | refine F2.append ?_ ?_ | refine F2.map fun _ _ => ?_ | refine F2.cons ?_ ?_ | refine TmT.cons rfl ?_ ?_ | exact TnS.d _ | exact TnS.dx _ | exact TnS.dp _ | exact TnS.slc rfl | exact TnS.ptr rfl | refine TnS.frzf rfl (by simp) (by simp) (by simp) ?_ | refine TnS.frz0 rfl (by simp) (by simp) (by simp) ?_ | refine TnS.frzm rfl (by simp) ?_ | exact TnS.mapr rfl | exact TnS.yld rfl | refine ⟨rfl, ?_⟩ | refine TnO.arr ?_ | refine TnO.map ?_ | exact TnO.raw _ | exact TnO.iter _ _ | refine TnS.agg ?_ | refine TnS.tup ?_ | exact TnS.pure (Pure.clo (by assumption) (by assumption)) | refine TnS.clo ?_ ?_ | exact TnS.unk _ | exact TnS.pure (Pure.clo (by assumption) (by assumption))))⟩ .nil))) (fun h => by cases h)), ⟨i, cutG qs i, ⟨hsp.cut (oneP_down ho.f.pairs ho.f.n10) hnb hi hs1, by rw [cutG_len]; omega, f2, hf2, by rw [cutG_len]; omega⟩, rfl, rfl⟩⟩)
        · have hs1 : lowb (qs.getD i 0) ≠ qs.getD i 0 := fun hc => by rw [hc] at h86; simp at h86
          rw [splitG, if_pos hlt, if_neg hs1] at hf2
          refine Tr.skip ?_
          refine Tr.reg [6, 8, 9, 12, 13] (by
              simp only [↓sxd, sxu, ↓zE, ↓exq, St.keep, ↓zD, Nat.reduceBEq, Nat.reduceLT, Nat.reduceEqDiff, sxe, tysW47_57, hi, hge, andNot_u (show qs.getD i 0 < 18446744073709551616 by omega) (show lowb (qs.getD i 0) < 18446744073709551616 by omega)]
              (repeat' (first | rfl | exact trivial | exact fun h => h | exact fun h => (by rw [h]; rfl) | apply And.intro | omega | exact Nat.le_of_ble_eq_true rfl))) ?_
          have hrl : (rU qs).length = qs.length := by simp
          have hk3 : (qs.length ≤ 1073741823) = True := eq_true (by omega)
          have hk2 : (qs.length + 1 ≤ 1073741824) = True := eq_true (by omega)
          refine Tr.reg1 [6, 8, 9, 12] (by
              simp only [↓sxd, sxu, ↓zE, ↓exq, ↓zB, St.keep, ↓zD, ↓zG, ↓zQ, Nat.reduceBEq, Nat.reduceAdd, Nat.reduceLT, Nat.reduceLeDiff, Nat.reduceEqDiff, tysW47_57, hk2, List.length_set, hrl]
              (repeat' (first | rfl | exact trivial | exact fun h => h | exact fun h => (by rw [h]; rfl) | apply And.intro | omega | exact Nat.le_of_ble_eq_true rfl))) ?_
          first |(have hz := hs1.symm; exact ⟨_, _, by omega, Imp.keepAll, ⟨i + 1, qs, ⟨hsp.next hi hs1, hql, f2, hf2, by omega⟩, rfl, rfl⟩⟩) |(exact ⟨_, _, (by rw [cutG_len]; omega), (by rw [cutG_len, rU_cut]; exact Imp.go (fun i => if i = 3 then 5 else if i < 5 then i else i + 1) [(5, _), (2, _), (1, _)] rfl rfl (.refl _) (fun _ h => absurd h (Nat.not_lt_zero _)) (fun id h => by simp only [show ¬ id = 3 by omega, show ¬ id < 5 by omega, if_false]; omega) (by repeat' (first | exact TmT.cons rfl (TnS.d _) ?_ | exact trivial | exact F2.nil | refine F2.append ?_ ?_ | refine F2.map fun _ _ => ?_ | refine F2.cons ?_ ?_ | refine TmT.cons rfl ?_ ?_ | exact TnS.d _ | exact TnS.dx _ | exact TnS.dp _ | exact TnS.slc rfl | exact TnS.ptr rfl | refine TnS.frzf rfl (by simp) (by simp) (by simp) ?_ | refine TnS.frz0 rfl (by simp) (by simp) (by simp) ?_ | refine TnS.frzm rfl (by simp) ?_ | exact TnS.mapr rfl | exact TnS.yld rfl | refine ⟨rfl, ?_⟩ | refine TnO.arr ?_ | refine TnO.map ?_ | exact TnO.raw _ | exact TnO.iter _ _ | refine TnS.agg ?_ | refine TnS.tup ?_ | exact TnS.pure (Pure.clo (by assumption) (by assumption)) | refine TnS.clo ?_ ?_ | exact TnS.unk _ | exact TnS.pure (Pure.clo (by assumption) (by assumption)))) (.cons ⟨rfl, TnO.arr rU_cut_tn⟩ (.cons ⟨rfl, TnO.arr (by repeat' (first | exact TmT.cons rfl (TnS.d _) ?_ | exact trivial | exact F2.nil | refine F2.append ?_ ?_ | refine F2.map fun _ _ => ?_ | refine F2.cons ?_ ?_ | refine TmT.cons rfl ?_ ?_ | exact TnS.d _ | exact TnS.dx _ | exact TnS.dp _ | exact TnS.slc rfl | exact TnS.ptr rfl | refine TnS.frzf rfl (by simp) (by simp) (by simp) ?_ | refine TnS.frz0 rfl (by simp) (by simp) (by simp) ?_ | refine TnS.frzm rfl (by simp) ?_ | exact TnS.mapr rfl | exact TnS.yld rfl | refine ⟨rfl, ?_⟩ | refine TnO.arr ?_ | refine TnO.map ?_ | exact TnO.raw _ | exact TnO.iter _ _ | refine TnS.agg ?_ | refine TnS.tup ?_ | exact TnS.pure (Pure.clo (by assumption) (by assumption)) | refine TnS.clo ?_ ?_ | exact TnS.unk _ | exact TnS.pure (Pure.clo (by assumption) (by assumption))))⟩ (.cons ⟨rfl, TnO.arr (by repeat' (first | exact TmT.cons rfl (TnS.d _) ?_ | exact trivial | exact F2.nil | refine F2.append ?_ ?_ | refine F2.map fun _ _ => ?_ | refine F2.cons ?_ ?_ | refine TmT.cons rfl ?_ ?_ | exact TnS.d _ | exact TnS.dx _ | exact TnS.dp _ | exact TnS.slc rfl | exact TnS.ptr rfl | refine TnS.frzf rfl (by simp) (by simp) (by simp) ?_ | refine TnS.frz0 rfl (by simp) (by simp) (by simp) ?_ | refine TnS.frzm rfl (by simp) ?_ | exact TnS.mapr rfl | exact TnS.yld rfl | refine ⟨rfl, ?_⟩ | refine TnO.arr ?_ | refine TnO.map ?_ | exact TnO.raw _ | exact TnO.iter _ _ | refine TnS.agg ?_ | refine TnS.tup ?_ | exact TnS.pure (Pure.clo (by assumption) (by assumption)) | refine TnS.clo ?_ ?_ | exact TnS.unk _ | exact TnS.pure (Pure.clo (by assumption) (by assumption))))⟩ .nil))) (fun h => by cases h)), ⟨i, cutG qs i, ⟨hsp.cut (oneP_down ho.f.pairs ho.f.n10) hnb hi hs1, by rw [cutG_len]; omega, f2, hf2, by rw [cutG_len]; omega⟩, rfl, rfl⟩⟩)
      · have hqe : qs.length = mn := by have := of_decide_eq_false h70; omega
        have hqs : qs = c.groupsS most := by
          rw [← hf2]
          cases f2 with
          | zero => rfl
          | succ f2 => rw [splitG, if_neg (by omega)]
        rw [← hqs]
        refine Tr.exit ?_
        refine Tr.reg [6, 9, 14] (by
            simp only [↓sxd, sxu, ↓zE, ↓exq, St.keep, Nat.reduceBEq, Nat.reduceLT]
            (repeat' (first | rfl | exact trivial | exact fun h => h | exact fun h => (by rw [h]; rfl) | apply And.intro | omega | exact Nat.le_of_ble_eq_true rfl))) ?_
        refine Tr.seq ?_
        refine Tr.reg [6, 14, 100, 101, 102] (by
            simp only [↓sxd, sxu, ↓zE, ↓exq, ↓zB, St.keep, ↓zJ, ↓zD, Nat.reduceBEq, Nat.reduceLT, tysW47_57]
            (repeat' (first | rfl | exact trivial | exact fun h => h | exact fun h => (by rw [h]; rfl) | apply And.intro | omega | exact Nat.le_of_ble_eq_true rfl))) ?_
        refine Tr.imp (st' := ⟨[(6, .ptr 1 0 0), (14, .slc 5 1 0 0 0), (100, .d (.sl (dU qs))), (101, I qs.length), (102, I 0)], [(5, .arr 1 []), (1, .arr 1 [[.dp (readW c).d]])], 6, 130, [0], 0⟩) (Imp.trans (b := ⟨[(6, .ptr 1 0 0), (14, .dx []), (100, .d (.sl (dU qs))), (101, I qs.length), (102, I 0)], [(1, .arr 1 [[.dp (readW c).d]])], 5, 130, [0], 0⟩) (Imp.go (fun i => i) [(1, _)] rfl rfl (.cons _ (.cons _ (.refl _))) (fun _ _ => rfl) (fun _ h => h) (.cons rfl (TnS.ptr rfl) (.cons rfl (TnS.dx _) (.cons rfl (TnS.frz0 (id := 3) (sz := 1) (len := qs.length) (es := rU qs) rfl (by simp) (by simp) (by simp) (rU_fz _)) (.cons rfl (TnS.d _) (.cons rfl (TnS.d _) trivial))))) (by repeat' (first | exact TmT.cons rfl (TnS.d _) ?_ | exact trivial | exact F2.nil | refine F2.append ?_ ?_ | refine F2.map fun _ _ => ?_ | refine F2.cons ?_ ?_ | refine TmT.cons rfl ?_ ?_ | exact TnS.d _ | exact TnS.dx _ | exact TnS.dp _ | exact TnS.slc rfl | exact TnS.ptr rfl | refine TnS.frzf rfl (by simp) (by simp) (by simp) ?_ | refine TnS.frz0 rfl (by simp) (by simp) (by simp) ?_ | refine TnS.frzm rfl (by simp) ?_ | exact TnS.mapr rfl | exact TnS.yld rfl | refine ⟨rfl, ?_⟩ | refine TnO.arr ?_ | refine TnO.map ?_ | exact TnO.raw _ | exact TnO.iter _ _ | refine TnS.agg ?_ | refine TnS.tup ?_ | exact TnS.pure (Pure.clo (by assumption) (by assumption)) | refine TnS.clo ?_ ?_ | exact TnS.unk _ | exact TnS.pure (Pure.clo (by assumption) (by assumption)))) (fun h => by cases h)) (Imp.goV 1 rfl rfl rfl rfl (by repeat' (first | exact trivial | exact F2.nil | refine F2.cons ?_ ?_ | refine TmV.cons rfl VnS.nil ?_ | refine TmV.cons rfl VnS.same ?_ | refine ⟨rfl, ?_⟩ | exact VnO.same _ | refine VnO.arr ?_ | exact VnS.nil | exact VnS.same | exact F2.refl fun _ _ => VnS.same)) (by repeat' (first | exact trivial | exact F2.nil | refine F2.cons ?_ ?_ | refine TmV.cons rfl VnS.nil ?_ | refine TmV.cons rfl VnS.same ?_ | refine ⟨rfl, ?_⟩ | exact VnO.same _ | refine VnO.arr ?_ | exact VnS.nil | exact VnS.same | exact F2.refl fun _ _ => VnS.same)))) ?_
        have hbl := (blocksOf_sem ho.f.pairs).ok
        have hn10 := ho.f.n10
        have hn2 : 2 ^ c.entries.length ≤ 2 ^ 10 := Nat.pow_le_pow_right (by omega) hn10
        have hbe : (readW c).blocks = blocksOf c := rfl
        refine Tr.imp (st' := ⟨[(6, .ptr 1 0 0), (14, .slc 5 1 0 0 0), (100, .d (.sl (dU qs))), (101, I qs.length), (102, I 0)], [(5, .arr 1 (uL ((qs.take 0).map fun g => nats (elems (unionB (blocksOf c) (elems g)))))), (1, .arr 1 [[.dp (readW c).d]])], 6, 130, [0], 0⟩) (Imp.keepAll) (Tr.block (Tr.loopI (fun mm ss => ∃ (k : Nat), (k ≤ qs.length) ∧ qs.length - k = mm ∧ ss = ⟨[(6, .ptr 1 0 0), (14, .slc 5 1 0 k k), (100, .d (.sl (dU qs))), (101, I qs.length), (102, I k)], [(5, .arr 1 (uL ((qs.take k).map fun g => nats (elems (unionB (blocksOf c) (elems g)))))), (1, .arr 1 [[.dp (readW c).d]])], 6, 130, [0], 0⟩) _ ⟨0, ?_, rfl, rfl⟩ ?_))
        · exact Nat.zero_le _
        rintro mm ss ⟨k, hI, rfl, rfl⟩
        refine Tr.reg [6, 14, 100, 101, 102, 103] (by
            simp only [↓sxd, sxu, ↓zE, ↓exq, St.keep, Nat.reduceBEq, Nat.reduceLT, sxe]
            (repeat' (first | rfl | exact trivial | exact fun h => h | exact fun h => (by rw [h]; rfl) | apply And.intro | omega | exact Nat.le_of_ble_eq_true rfl))) ?_
        refine Tr.seq ?_
        refine Tr.cond rfl (fun h103 => ?_) (fun h103 => ?_)
        · have hk : k < qs.length := by have := of_decide_eq_true h103; omega
          obtain ⟨x0, x1, x2, x3⟩ := hsp.get hnb hk
          generalize hgd : qs.getD k 0 = g at x0 x1 x2 x3
          refine Tr.skip ?_
          refine Tr.seq ?_
          refine Tr.block ?_
          refine Tr.reg [6, 14, 16, 100, 101, 102] (by
              simp only [↓sxd, sxu, ↓zE, ↓exq, St.keep, ↓zD, Nat.reduceBEq, Nat.reduceLT, sxe, tysW47_57, hk, hgd]
              (repeat' (first | rfl | exact trivial | exact fun h => h | exact fun h => (by rw [h]; rfl) | apply And.intro | omega | exact Nat.le_of_ble_eq_true rfl))) ?_
          refine Tr.reg [6, 14, 16, 17, 100, 101, 102] (by
              simp only [↓sxd, sxu, ↓zE, ↓exq, St.keep, Nat.reduceBEq, Nat.reduceLT]
              (repeat' (first | rfl | exact trivial | exact fun h => h | exact fun h => (by rw [h]; rfl) | apply And.intro | omega | exact Nat.le_of_ble_eq_true rfl))) ?_
          refine Tr.seq ?_
          refine Tr.reg [6, 14, 17, 100, 101, 102, 107, 108, 109] (by
              simp only [↓sxd, sxu, ↓zE, ↓exq, St.keep, Nat.reduceBEq, Nat.reduceLT]
              (repeat ((with_reducible refine And.intro ?_ ?_); (focus (first | with_reducible rfl | trivial | exact fun h => h | exact fun h => (by rw [h]; rfl) | omega | assumption))))
              refine CallO.use (list_c g (by omega)) ?_
              try simp only [↓sxd, sxu, ↓zE, ↓exq, ↓zB, ↓zJ, Nat.reduceBEq, Nat.reduceLT, sxe, tysW47_57]
              (repeat' (first | rfl | exact trivial | exact fun h => h | exact fun h => (by rw [h]; rfl) | apply And.intro | omega | exact Nat.le_of_ble_eq_true rfl))) ?_
          refine Tr.imp (st' := ⟨[(6, .ptr 1 0 0), (14, .slc 5 1 0 k k), (17, U (unionB (blocksOf c) ((elems g).take 0) : Nat)), (100, .d (.sl (dU qs))), (101, I qs.length), (102, I k), (107, SI (nats (elems g))), (108, I (elems g).length), (109, I 0)], [(5, .arr 1 (uL ((qs.take k).map fun g => nats (elems (unionB (blocksOf c) (elems g)))))), (1, .arr 1 [[.dp (readW c).d]])], 6, 130, [0], 0⟩) (by simp only [List.take_zero, nats_len]; exact Imp.keepAll) (Tr.block (Tr.loopI (fun mm ss => ∃ (j : Nat), (j ≤ (elems g).length) ∧ (elems g).length - j = mm ∧ ss = ⟨[(6, .ptr 1 0 0), (14, .slc 5 1 0 k k), (17, U (unionB (blocksOf c) ((elems g).take j) : Nat)), (100, .d (.sl (dU qs))), (101, I qs.length), (102, I k), (107, SI (nats (elems g))), (108, I (elems g).length), (109, I j)], [(5, .arr 1 (uL ((qs.take k).map fun g => nats (elems (unionB (blocksOf c) (elems g)))))), (1, .arr 1 [[.dp (readW c).d]])], 6, 130, [0], 0⟩) _ ⟨0, ?_, rfl, rfl⟩ ?_))
          · exact Nat.zero_le _
          rintro mm ss ⟨j, hI, rfl, rfl⟩
          refine Tr.reg [6, 14, 17, 100, 101, 102, 107, 108, 109, 110] (by
              simp only [↓sxd, sxu, ↓zE, ↓exq, St.keep, Nat.reduceBEq, Nat.reduceLT, sxe]
              (repeat' (first | rfl | exact trivial | exact fun h => h | exact fun h => (by rw [h]; rfl) | apply And.intro | omega | exact Nat.le_of_ble_eq_true rfl))) ?_
          refine Tr.seq ?_
          refine Tr.cond rfl (fun h110 => ?_) (fun h110 => ?_)
          · have hj : j < (elems g).length := by have := of_decide_eq_true h110; omega
            have hin : (elems g).getD j 0 < (blocksOf c).length := elems_lt (getD_mem hj) x3
            have u1 := unionB_lt hbl.lt ((elems g).take j)
            have u2 := hbl.lt _ (getD_mem (d := 0) hin)
            refine Tr.skip ?_
            refine Tr.seq ?_
            refine Tr.block ?_
            refine Tr.reg [6, 14, 17, 19, 100, 101, 102, 107, 108, 109] (by
                simp only [↓sxd, sxu, ↓zE, ↓exq, St.keep, ↓zD, Nat.reduceBEq, Nat.reduceLT, sxe, tysW47_57, nats_len, nats_get, hj]
                (repeat' (first | rfl | exact trivial | exact fun h => h | exact fun h => (by rw [h]; rfl) | apply And.intro | omega | exact Nat.le_of_ble_eq_true rfl))) ?_
            refine Tr.reg1 [6, 14, 17, 100, 101, 102, 107, 108, 109] (by
                simp only [↓sxd, sxu, ↓zE, ↓exq, St.keep, ↓zD, ↓zV, ↓zA, Nat.reduceBEq, Nat.reduceLT, Nat.reduceEqDiff, sxe, tysW47_57, hbe, hin, or_u (show unionB (blocksOf c) ((elems g).take j) < 18446744073709551616 by omega) (show (blocksOf c).getD ((elems g).getD j 0) 0 < 18446744073709551616 by omega)]
                (repeat' (first | rfl | exact trivial | exact fun h => h | exact fun h => (by rw [h]; rfl) | apply And.intro | omega | exact Nat.le_of_ble_eq_true rfl))) ?_
            have hel := elems_len g
            have w3 : IntKind.i64.wrap ((j : Int) + 1) = ((j + 1 : Nat) : Int) := by rw [wr (by omega) (by omega)]; rfl
            refine Tr.reg1 [6, 14, 17, 100, 101, 102, 107, 108, 109] (by
                simp only [↓sxd, sxu, ↓zE, ↓exq, St.keep, Nat.reduceBEq, Nat.reduceLT, w3]
                (repeat' (first | rfl | exact trivial | exact fun h => h | exact fun h => (by rw [h]; rfl) | apply And.intro | omega | exact Nat.le_of_ble_eq_true rfl))) ?_
            refine ⟨_, _, ?_, ?_, ⟨j + 1, hj, rfl, rfl⟩⟩
            · omega
            · have : unionB (blocksOf c) ((elems g).take (j + 1)) = unionB (blocksOf c) ((elems g).take j) ||| (blocksOf c).getD ((elems g).getD j 0) 0 := by
                rw [List.take_succ_eq_append_getElem hj, unionB_snoc, List.getD_eq_getElem?_getD (l := elems g), List.getElem?_eq_getElem hj]; rfl
              rw [this]; exact Imp.keepAll
          · have hje : j = (elems g).length := by have := of_decide_eq_false h110; omega
            subst hje
            have u3 := unionB_lt hbl.lt (elems g)
            refine Tr.exit ?_
            have htl : (qs.take k).length = k := by rw [List.length_take]; omega
            have hkk3 : (k ≤ 1073741823) = True := eq_true (by omega)
            have hkk : (k + 1 ≤ 1073741824) = True := eq_true (by omega)
            refine Tr.reg1 [6, 14, 100, 101, 102] (by
                simp only [↓sxd, sxu, ↓zE, ↓exq, St.keep, Nat.reduceBEq, Nat.reduceLT, List.take_length]
                (repeat ((with_reducible refine And.intro ?_ ?_); (focus (first | with_reducible rfl | trivial | exact fun h => h | exact fun h => (by rw [h]; rfl) | omega | assumption))))
                refine CallO.use (list_c (unionB (blocksOf c) (elems g)) (by omega)) ?_
                try simp only [↓sxd, sxu, ↓zE, ↓exq, ↓zB, ↓zG, ↓zQ, Nat.reduceBEq, Nat.reduceAdd, Nat.reduceLT, Nat.reduceLeDiff, Nat.reduceEqDiff, tysW47_57, hkk, htl]
                (repeat' (first | rfl | exact trivial | exact fun h => h | exact fun h => (by rw [h]; rfl) | apply And.intro | omega | exact Nat.le_of_ble_eq_true rfl))) ?_
            have w4 : IntKind.i64.wrap ((k : Int) + 1) = ((k + 1 : Nat) : Int) := by rw [wr (by omega) (by omega)]; rfl
            refine Tr.reg1 [6, 14, 100, 101, 102] (by
                simp only [↓sxd, sxu, ↓zE, ↓exq, St.keep, Nat.reduceBEq, Nat.reduceLT, w4]
                (repeat' (first | rfl | exact trivial | exact fun h => h | exact fun h => (by rw [h]; rfl) | apply And.intro | omega | exact Nat.le_of_ble_eq_true rfl))) ?_
            refine ⟨_, _, ?_, ?_, ⟨k + 1, hk, rfl, rfl⟩⟩
            · omega
            · have e : ((qs.take (k + 1)).map fun g => nats (elems (unionB (blocksOf c) (elems g)))) = ((qs.take k).map fun g => nats (elems (unionB (blocksOf c) (elems g)))) ++ [nats (elems (unionB (blocksOf c) (elems g)))] := by
                rw [List.take_succ_eq_append_getElem hk, List.map_append, ← hgd, List.getD_eq_getElem?_getD (l := qs), List.getElem?_eq_getElem hk]; rfl
              rw [e, uL_snoc]
              exact Imp.go (fun i => if i = 5 then 6 else if i < 5 then i else i + 1) [(6, _), (1, _)] rfl rfl (.refl _) (fun _ h => absurd h (Nat.not_lt_zero _)) (fun id h => by simp only [show ¬ id = 5 by omega, show ¬ id < 5 by omega, if_false]; omega) (by repeat' (first | exact TmT.cons rfl (TnS.d _) ?_ | exact trivial | exact F2.nil | refine F2.append ?_ ?_ | refine F2.map fun _ _ => ?_ | refine F2.cons ?_ ?_ | refine TmT.cons rfl ?_ ?_ | exact TnS.d _ | exact TnS.dx _ | exact TnS.dp _ | exact TnS.slc rfl | exact TnS.ptr rfl | refine TnS.frzf rfl (by simp) (by simp) (by simp) ?_ | refine TnS.frz0 rfl (by simp) (by simp) (by simp) ?_ | refine TnS.frzm rfl (by simp) ?_ | exact TnS.mapr rfl | exact TnS.yld rfl | refine ⟨rfl, ?_⟩ | refine TnO.arr ?_ | refine TnO.map ?_ | exact TnO.raw _ | exact TnO.iter _ _ | refine TnS.agg ?_ | refine TnS.tup ?_ | exact TnS.pure (Pure.clo (by assumption) (by assumption)) | refine TnS.clo ?_ ?_ | exact TnS.unk _ | exact TnS.pure (Pure.clo (by assumption) (by assumption)))) (by repeat' (first | exact TmT.cons rfl (TnS.d _) ?_ | exact trivial | exact F2.nil | refine F2.append ?_ ?_ | refine F2.map fun _ _ => ?_ | refine F2.cons ?_ ?_ | refine TmT.cons rfl ?_ ?_ | exact TnS.d _ | exact TnS.dx _ | exact TnS.dp _ | exact TnS.slc rfl | exact TnS.ptr rfl | refine TnS.frzf rfl (by simp) (by simp) (by simp) ?_ | refine TnS.frz0 rfl (by simp) (by simp) (by simp) ?_ | refine TnS.frzm rfl (by simp) ?_ | exact TnS.mapr rfl | exact TnS.yld rfl | refine ⟨rfl, ?_⟩ | refine TnO.arr ?_ | refine TnO.map ?_ | exact TnO.raw _ | exact TnO.iter _ _ | refine TnS.agg ?_ | refine TnS.tup ?_ | exact TnS.pure (Pure.clo (by assumption) (by assumption)) | refine TnS.clo ?_ ?_ | exact TnS.unk _ | exact TnS.pure (Pure.clo (by assumption) (by assumption)))) (fun h => by cases h)
        · have hke : k = qs.length := by have := of_decide_eq_false h103; omega
          subst hke
          rw [List.take_length]
          refine Tr.exit ?_
          refine Tr.reg [4, 5] (by
              simp only [↓sxd, sxu, ↓zE, ↓exq, St.keep, Nat.reduceBEq, Nat.reduceLT]
              (repeat' (first | rfl | exact trivial | exact fun h => h | exact fun h => (by rw [h]; rfl) | apply And.intro | omega | exact Nat.le_of_ble_eq_true rfl))) ?_
          refine Tr.imp (Imp.fin (tm' := [(4, SL (qs.map fun g => nats (elems (unionB (blocksOf c) (elems g))))), (5, I 0)]) ?_) ?_
          · exact .cons rfl (TnS.frz0 (es := uL _) rfl (by simp) (by simp) (by simp) (uL_fz _)) (.cons rfl (TnS.d _) trivial)
          refine Tr.ret ?_
          (refine ⟨.inr rfl, ?_⟩; first | rfl | exact ⟨rfl, rfl, trivial⟩ | exact ⟨rfl, rfl, rfl, trivial⟩ | (simp only [Res, ResL, ResOK, ↓sxd, sxu, ↓zE, ↓zC, zK, ↓exP, ↓exq, ↓zB, St.keep, ↓zL, ↓zJ, ↓zD, ↓zN, ↓zV, ↓zM, ↓zI, ↓zG, ↓zQ, ↓z7, ↓zA, Nat.reduceBEq, Nat.reduceAdd, Nat.reduceLT, Nat.reduceMul, Nat.reduceSub, Nat.reduceLeDiff, Nat.reduceEqDiff, Int.reduceLE, Int.reduceLT, Int.reduceToNat, reduceIte, implies_true, sxe, tysW47_57]; (repeat' (first | rfl | exact trivial | exact fun h => h | exact fun h => (by rw [h]; rfl) | apply And.intro | omega | exact Nat.le_of_ble_eq_true rfl))))
end Go.Proofs.YtcnkbdfkjhlbiaaDoor
namespace Go.Sy
section
variable {P : Program} {G : Nat → Option (List D)} {O : Nat → Prop} {pb pl pl' : Nat → Option Pl} {w w' : World} {hp hp' : HpT} {nx nx' : Nat} {ok ok' : Nat → Prop}
theorem run_buildOwn {t : TypeId} {n sz : Nat} {parts : List (Nat × SV)} {vparts : Array (Nat × Value)} {K : KT} (hs : HS G O pb pl w hp nx)
    (htl : telem P t = some sz) (hsz : sz ≠ 0) (hby : (tby P t).isSome = true) (hidx : parts.map (·.1) = List.range (n + 1)) (hall : (parts.all fun p => svOk p.2 && ((svCells p.2).length == sz)) = true) (hsmall : (n + 1) * sz ≤ 16777216)
    (hl : vparts.size = parts.length) (hf : vparts.toList.map (·.1) = parts.map (·.1))
    (hr : ∀ i (h : i < parts.length), SR pl (okOf O pl hp) w (parts[i]).2 ((vparts.getD i (0, undef)).2)) (h : K (.slc nx sz 0 (n + 1) (n + 1)) ((nx, .arr sz (parts.map fun p => svCells p.2)) :: hp) (nx + 1)) :
    ∃ u w', (Instr.buildSlice t (n + 1) vparts).run P w = .ok u w' ∧ Fin G O pb pl w hp K u w' := by
  obtain ⟨b, hb⟩ := Option.isSome_iff_exists.1 hby
  obtain ⟨e, ie, z, hu, hi, hz, hbb⟩ := tby_some hb
  obtain ⟨e', hu', htsz⟩ := telem_some htl
  rw [hu] at hu'
  cases hu'
  have hisz : ie.size = sz := by simpa [tsz, hi] using htsz
  have hlen : parts.length = n + 1 := by simpa using congrArg List.length hidx
  have hpt : ∀ i (h : i < parts.length), svOk (parts[i]).2 = true ∧ (svCells (parts[i]).2).length = sz := by
    intro i hi
    have := List.all_eq_true.1 hall _ (List.getElem_mem hi)
    simpa using this
  have hvs : ∀ v ∈ vparts.toList.map (·.2), v.cells.size = sz := by
    intro v hv
    obtain ⟨k, hk, rfl⟩ := List.getElem_of_mem hv
    have hk' : k < parts.length := by simp at hk; omega
    have hk'' : k < vparts.size := by omega
    have h1 := (hr k hk').cells (hpt k hk').1
    have h2 := (hpt k hk').2
    simp only [Array.getD_eq_getD_getElem?, Array.getElem?_eq_getElem hk'', Option.getD_some] at h1
    simp only [List.getElem_map, Array.getElem_toList]
    omega
  have hzip := parts_zip vparts.toList (n + 1) (by rw [hf, hidx])
  have hmade : ((Array.range ((n + 1) * ie.size)).map (z.cells[· % z.cells.size]!)).size = (n + 1) * sz := by simp [hisz]
  have hfill := Great.fill_whole (s := sz) (by omega) (vparts.toList.map (·.2)) ((Array.range ((n + 1) * ie.size)).map (z.cells[· % z.cells.size]!)) hvs (by rw [hmade]; simp; rw [hl, hlen])
  rw [← hzip] at hfill
  have hrun := run_buildSlice (P := P) w t e (n + 1) vparts _ ie z hu hi hz (by rw [hisz]; omega) (by rw [hisz]; exact Nat.mul_ne_zero (by omega) hsz) (by rw [hisz] at hfill ⊢; exact hfill)
  generalize hcs : ((vparts.toList.map (·.2)).flatMap fun v => v.cells.toList).toArray = c at hrun
  have hget : ∀ i (h : i < parts.length) j, j < sz → c.getD (i * sz + j) undef = ((vparts.getD i (0, undef)).2).cells.getD j undef ∧ i * sz + j < c.size := by
    intro i hi j hj
    have e1 : c[i * sz + j]? = some (((vparts.getD i (0, undef)).2).cells.getD j undef) := by
      rw [← hcs, List.getElem?_toArray, Great.flat_get (s := sz) (by omega) _ hvs]
      have hd : (i * sz + j) / sz = i := by rw [Nat.mul_comm, Nat.mul_add_div (by omega), Nat.div_eq_of_lt hj]; omega
      have hm : (i * sz + j) % sz = j := by rw [Nat.mul_comm, Nat.mul_add_mod, Nat.mod_eq_of_lt hj]
      rw [hd, hm]
      have hiv : i < vparts.size := by omega
      have hsz' := hvs (vparts[i]).2 (List.mem_map.2 ⟨vparts[i], by simp, rfl⟩)
      simp only [List.getElem?_map, Array.getElem?_toList, Array.getElem?_eq_getElem hiv, Option.map_some, Option.bind_some, Array.getD_eq_getD_getElem?, Option.getD_some]
      rw [Array.getElem?_eq_getElem (by omega)]
      rfl
    refine ⟨by rw [Array.getD_eq_getD_getElem?, e1]; rfl, (Array.getElem?_eq_some_iff.1 e1).1⟩
  have hcsz : c.size = (n + 1) * sz := by
    have hfl : ∀ (l : List Value), (∀ v ∈ l, v.cells.size = sz) → (l.flatMap fun v => v.cells.toList).length = l.length * sz := by
      intro l
      induction l with
      | nil => intro _; simp
      | cons v l ih =>
        intro hv
        simp only [List.flatMap_cons, List.length_append, Array.length_toList, List.length_cons, Nat.add_mul, Nat.one_mul]
        rw [ih fun u hu => hv u (List.mem_cons_of_mem _ hu), hv v List.mem_cons_self]
        omega
    rw [← hcs]
    simp only [List.size_toArray]
    rw [hfl _ hvs]
    simp [hl, hlen]
  have hcell : ∀ i (h : i < parts.length) j (hj : j < (svCells (parts[i]).2).length), SR pl (okOf O pl hp) w ((svCells (parts[i]).2)[j]) (c.getD (i * sz + j) undef) := by
    intro i hi j hj
    have := (hpt i hi).2
    rw [(hget i hi j (by omega)).1]
    exact ((hr i hi).cells (hpt i hi).1).2 j hj
  obtain ⟨g1, g2, g3⟩ := hs.newArr rfl rfl rfl c e sz (parts.map fun p => svCells p.2) (by rw [hcsz]; exact Nat.mul_ne_zero (by omega) hsz) (by simp [hcsz, hlen])
    (by intro i hi; simp only [List.getElem_map]; exact (hpt i (by simpa using hi)).2)
    (by intro i hi j hj
        simp only [List.getElem_map] at hj ⊢
        exact hcell i (by simpa using hi) j hj)
  refine ⟨_, _, hrun, _, _, _, _, h, g1, ?_, g2, g3⟩
  have := SR.slc (ok := okOf O (plUp pl nx ⟨w.heap.size, sz, c.size⟩) ((nx, Obj.arr sz (parts.map fun p => svCells p.2)) :: hp)) (w := w.alloc (.cells c e)) nx sz 0 (n + 1) (n + 1) (n + 1) _ (plUp_self pl nx ⟨w.heap.size, sz, c.size⟩) rfl (Nat.le_refl _) (Nat.le_refl _) (by simp [hcsz])
  simpa using this
end
section
variable {P : Program} {G : Nat → Option (List D)} {ro : Option Nat} {Q : Exit → St → Prop} {st : St}
end
end Go.Sy
namespace Go.Sy
section
variable {P : Program} {G : Nat → Option (List D)} {ro : Option Nat} {M : Nat} {O : Nat → Prop} {pb pl pl' : Nat → Option Pl} {w w' : World} {hp hp' : HpT} {nx nx' : Nat} {ok ok' : Nat → Prop}
def RegT (P : Program) (G : Nat → Option (List D)) (ro : Option Nat) (ops : Array Oper) (k m : Nat) (st : St) (Q : St → Prop) : Prop :=
  ∀ O M pb pl a w (X : Exit → Act → World → Prop), R G O M pb pl st a w →
    (∀ pl' st' a' w', Q st' → R G O M pb pl' st' a' w' → Step (ownOf pl st.hp) (ownOf pl' st'.hp) w w' → X .normal a' w') →
    wpOpsIn (Fw ro) 0 P ops X (List.range' k m) a w
theorem RegT.nil {ops : Array Oper} {k : Nat} {st : St} {Q : St → Prop} (h : Q st) : RegT P G ro ops k 0 st Q :=
  fun _ _ _ pl a w _ hR hX => hX pl st a w h hR (.refl _ _)
theorem RegT.ex {ops : Array Oper} {Q K : St → Prop} {m : Nat} : ∀ (os rest : List Oper) (k : Nat) (st : St),
    ops.toList.drop k = os ++ rest → xA P G ops.toList os st K → (∀ st', K st' → RegT P G ro ops (k + os.length) m st' Q) → RegT P G ro ops k (os.length + m) st Q
  | [], rest, k, st, _, h, hK => by
    have : RegT P G ro ops k m st Q := hK _ h
    simpa using this
  | o :: os, rest, k, st, hk, h, hKK => by
    intro O M pb pl a w X hR hX
    have hget : ops[k]? = some o := by
      have : (ops.toList.drop k)[0]? = some o := by rw [hk]; rfl
      simpa using this
    have hk' : ops.toList.drop (k + 1) = os ++ rest := by
      rw [← List.drop_drop, hk]; rfl
    have hlen : (o :: os).length + m = (os.length + m) + 1 := by simp; omega
    rw [hlen]
    simp only [List.range'_succ, wpOpsIn, hget]
    have hkk : k + (o :: os).length = (k + 1) + os.length := by simp; omega
    obtain ⟨hd, h⟩ := h
    simp only [hkk] at hKK
    have hev := ev_sound hR.hs hR.tm
    have ih := fun st' h' => RegT.ex (m := m) (Q := Q) os rest (k + 1) st' hk' h' hKK
    split at h
    · rename_i hg
      have hw : Region.wanted o (yielded ops a.tmps) = true := by simp [Region.wanted, hg]
      rw [if_pos hw]
      refine (exq_sound hR.hs hev h).wpIn (exq_defer h) ?_
      rintro v w' ⟨pl', r, hp', nx', hK, hs', hv, hst, hpl⟩
      exact ih _ hK O M pb pl' _ w' X (hR.put hd hs' hst hpl hv) fun pl₂ st₂ a₂ w₂ h1 h2 h3 => hX pl₂ st₂ a₂ w₂ h1 h2 (hst.trans h3)
    · rename_i j want hg
      split at h
      · rename_i g hgd
        split at h
        · rename_i b hb
          have hgv : SR pl (okOf (Ox O a) pl st.hp) w ((st.tm.lookup g).getD .unk) (a.tmps.getD g undef) := by
            have := hev (.tmp g)
            simpa [ev, Act.eval] using this
          have hgs := gcond_sound hgv hb
          have hwanted : Region.wanted o (yielded ops a.tmps) = b := by
            have hy : yielded ops a.tmps j = bval (a.tmps.getD g undef) := by
              unfold yielded
              have : (ops[j]?).bind (·.dst) = some g := by simpa using hgd
              rw [this]
              simp only [Option.bind_some, Array.getD_eq_getD_getElem?]
              cases a.tmps[g]? with
              | none => simp [undef, bval]
              | some v => cases v <;> rfl
            simp only [Region.wanted, hg, hy]
            cases hbb : b
            · cases hv : (bval (a.tmps.getD g undef) == some want)
              · rfl
              · rw [hgs.1 hv] at hbb; cases hbb
            · exact hgs.2 hbb
          rw [hwanted]
          rcases h with ⟨r, hex, hK⟩ | ⟨rfl, hex⟩
          · cases b
            · simp only [Bool.false_eq_true, if_false]
              refine ⟨fun _ _ => trivial, ?_⟩
              exact ih _ hK O M pb pl _ w X (hR.put hd hR.hs (.refl _ _) (fun _ _ h => h) (.whn false r undef (fun h => by cases h) (fun _ => rfl))) hX
            · simp only [if_true]
              have hex' := hex rfl
              refine (exq_sound hR.hs (fun x => gstrip_sound (hev x)) hex').wpIn (exq_defer hex') ?_
              rintro v w' ⟨pl', r', hp', nx', ⟨rfl, rfl, rfl⟩, hs', hv, hst, hpl⟩
              exact ih _ hK O M pb pl' _ w' X (hR.put hd hs' hst hpl (.whn true _ v (fun _ => hv) (fun h => by cases h))) fun pl₂ st₂ a₂ w₂ h1 h2 h3 => hX pl₂ st₂ a₂ w₂ h1 h2 (hst.trans h3)
          · simp only [if_true]
            refine (exq_sound hR.hs (fun x => gstrip_sound (hev x)) hex).wpIn (exq_defer hex) ?_
            rintro v w' ⟨pl', r', hp', nx', hK, hs', hv, hst, hpl⟩
            exact ih _ hK O M pb pl' _ w' X (hR.put hd hs' hst hpl (.whn true _ v (fun _ => hv) (fun h => by cases h))) fun pl₂ st₂ a₂ w₂ h1 h2 h3 => hX pl₂ st₂ a₂ w₂ h1 h2 (hst.trans h3)
        · exact h.elim
      · exact h.elim
theorem RegT.imp {ops : Array Oper} {k m : Nat} {st st' : St} {Q : St → Prop} (hi : Imp st st') (h : RegT P G ro ops k m st' Q) : RegT P G ro ops k m st Q := by
  intro O M pb pl a w X hR hX
  obtain ⟨pl₁, hR₁, hown⟩ := hi G O M pb pl a w hR
  exact h O M pb pl₁ a w X hR₁ fun pl' s' a' w' q r s => hX pl' s' a' w' q r ((Step.less w hown).trans s)
theorem RegT.cut {ops : Array Oper} {k : Nat} {st st1 : St} {Q : St → Prop} (n m : Nat) (ks : List Nat) (hn : k + n ≤ ops.size) (h : xA P G ops.toList ((ops.toList.drop k).take n) st fun s => s.keep ks = st1) (h2 : RegT P G ro ops (k + n) m st1 Q) : RegT P G ro ops k (n + m) st Q := by
  have hl : ((ops.toList.drop k).take n).length = n := by simp; omega
  have := RegT.ex (P := P) (G := G) (ro := ro) (ops := ops) (Q := Q) (m := m) ((ops.toList.drop k).take n) ((ops.toList.drop k).drop n) k st (List.take_append_drop _ _).symm h
    (fun s hs => RegT.imp (hs ▸ Imp.keep ks) (by rw [hl]; exact h2))
  rwa [hl] at this
def rowsOf (ρ : Operand → SV) (parts : List (Nat × Operand)) : List (List SV) := parts.map fun p => svCells (ρ p.2)
theorem RegT.own {ops : Array Oper} {k m n sz : Nat} {st : St} {Q : St → Prop} {o : Oper} {T : TypeId} {parts : List (Nat × Operand)} {d : Nat} {es : List (List SV)} (ho : ops[k]? = some o) (hop : o.op = .buildSlice T (n + 1) parts.toArray) (hd : o.dst = some d) (hg : o.guard = none)
    (hdn : d < st.nt) (htl : telem P T = some sz) (hsz : sz ≠ 0) (hby : (tby P T).isSome = true) (hidx : parts.map (·.1) = List.range (n + 1)) (hes : rowsOf (ev G st.tm) parts = es)
    (hall : (parts.all fun p => svOk (ev G st.tm p.2)) = true) (hw : (es.all fun e => e.length == sz) = true) (hsmall : (n + 1) * sz ≤ 16777216)
    (h : RegT P G ro ops (k + 1) m ⟨(d, .slc st.nx sz 0 (n + 1) (n + 1)) :: st.tm, (st.nx, .arr sz es) :: st.hp, st.nx + 1, st.nt, st.df, st.nb⟩ Q) : RegT P G ro ops k (m + 1) st Q := by
  intro O M pb pl a w X hR hX
  simp only [List.range'_succ, wpOpsIn, ho]
  have hwt : Region.wanted o (yielded ops a.tmps) = true := by simp [Region.wanted, hg]
  rw [if_pos hwt]
  have hev := ev_sound hR.hs hR.tm
  subst hes
  obtain ⟨v2, w2, hrun, pl2, r2, hp2, nx2, ⟨rfl, rfl, rfl⟩, f1, f2, f3, f4⟩ := run_buildOwn (P := P) (t := T) (n := n) (sz := sz) (parts := parts.map fun p => (p.1, ev G st.tm p.2)) (vparts := (parts.map fun p => (p.1, a.eval p.2)).toArray)
    (K := fun r hp' nx' => r = .slc st.nx sz 0 (n + 1) (n + 1) ∧ hp' = (st.nx, .arr sz (rowsOf (ev G st.tm) parts)) :: st.hp ∧ nx' = st.nx + 1) hR.hs htl hsz hby (by rw [List.map_map]; exact hidx)
    (by
      rw [List.all_eq_true] at hall hw ⊢
      intro p hp
      obtain ⟨q, hq, rfl⟩ := List.mem_map.1 hp
      have h1 := hall q hq
      have h2 := hw (svCells (ev G st.tm q.2)) (List.mem_map.2 ⟨q, hq, rfl⟩)
      simp only [h1, h2, Bool.and_self])
    hsmall (by simp) (by simp) (by
      intro i hi
      have hi' : i < parts.length := by simpa using hi
      simp only [List.getElem_map, Array.getD_eq_getD_getElem?, List.getElem?_toArray, List.getElem?_map, List.getElem?_eq_getElem hi', Option.map_some, Option.getD_some]
      exact hev _) ⟨rfl, by simp [rowsOf, Function.comp_def], rfl⟩
  refine RunOp.wpIn (K := fun u' w' => u' = v2 ∧ w' = w2) (fun c hc => by rw [hop] at hc; cases hc) (RunOp.value (v := v2) (by
    have e : (parts.toArray.map fun (i, x) => (i, a.eval x)) = (parts.map fun p => (p.1, a.eval p.2)).toArray := by simp
    simp only [execOp, hop]
    rw [Sem.run_bind]
    rw [e, show Sem.run P (Instr.buildSlice T (n + 1) (parts.map fun p => (p.1, a.eval p.2)).toArray) w = Result.ok v2 w2 from hrun]
    rfl) ⟨rfl, rfl⟩) ?_
  rintro u2 w3 ⟨rfl, rfl⟩
  have hR2 := hR.put (dst := o.dst) (r := .slc st.nx sz 0 (n + 1) (n + 1)) (v := u2) (by rw [hd]; exact hdn) f1 f3 f4 f2
  rw [hd] at hR2
  rw [hd]
  exact h O M pb pl2 _ w3 X hR2 fun pl₂ st₂ a₂ w₂ h1 h2 h3 => hX pl₂ st₂ a₂ w₂ h1 h2 (f3.trans h3)
theorem Tr.regT {id : Nat} {ops : Array Oper} {st : St} {Q : Exit → St → Prop} (m : Nat) (hm : ops.size = m) (h : RegT P G ro ops 0 m st (Q .normal)) : Tr P G ro (.region id ops false) st Q := by
  intro O M pb pl a w hR
  refine wpIn_region ?_
  rw [List.range_eq_range', hm]
  exact h O M pb pl a w _ hR fun pl' st' a' w' h1 h2 h3 => ⟨pl', st', h1, h2, h3⟩
theorem Tr.regTs {id : Nat} {ops : Array Oper} {st st' : St} {y : Code} {Q : Exit → St → Prop} (m : Nat) (ks : List Nat) (hm : ops.size = m) (h : RegT P G ro ops 0 m st (fun s => s.keep ks = st')) (hy : Tr P G ro y st' Q) : Tr P G ro (.seq (.region id ops false) y) st Q := by
  refine Tr.seq (Tr.mono (Tr.regT (Q := fun e s => match e with | .normal => s.keep ks = st' | _ => False) m hm h) ?_)
  intro x s hx
  cases x with
  | normal => exact Tr.imp (hx ▸ Imp.keep ks) hy
  | _ => exact hx.elim
end
end Go.Sy
namespace Go.Proofs.YtcnkbdfkjhlbiaaDoor
open Go.Sy
set_option maxRecDepth 8000
def vE (l : List Entry) : List (List SV) := (dE l).map fun e => e.map SV.d
abbrev tysW50_59 := And.intro ty.sz0 <| And.intro ty.agg0 <| And.intro ty.elem0 <| And.intro ty.sz3 <| And.intro ty.agg3 <| And.intro ty.elem3 <| And.intro ty.zero3 <| And.intro ty.und3 <| And.intro ty.sz30 <| And.intro ty.agg30 <| And.intro ty.fld30_0 <| And.intro ty.fld30_1 <| And.intro ty.elem30 <| And.intro ty.zero30 <| And.intro ty.pl30 <| And.intro ty.sz34 <| And.intro ty.agg34 <| And.intro ty.elem34 <| And.intro ty.by34 <| And.intro ty.ez34 <| And.intro ty.zero34 <| And.intro ty.und34 <| And.intro ty.sz35 <| And.intro ty.agg35 <| And.intro ty.elem35 <| And.intro ty.by35 <| And.intro ty.ez35 <| And.intro ty.zero35 <| And.intro ty.und35 <| And.intro ty.sz37 <| And.intro ty.agg37 <| And.intro ty.fld37_0 <| And.intro ty.fld37_1 <| And.intro ty.fld37_2 <| And.intro ty.fld37_3 <| And.intro ty.fld37_4 <| And.intro ty.elem37 <| And.intro ty.zero37 <| And.intro ty.pl37 <| And.intro ty.sz106 <| And.intro ty.agg106 <| And.intro ty.fld106_0 <| And.intro ty.fld106_1 <| And.intro ty.fld106_2 <| And.intro ty.fld106_3 <| And.intro ty.elem106 <| And.intro ty.zero106 <| ty.pl106
theorem four_h (lo hi : Int) (hp : HpT) (nx : Nat) : CallH Tryd.prog G0 59 [I lo, I hi, .dx []] hp nx (Det (.agg [.slc (nx + 1) 5 0 4 4, .dx [], .dx [], I 0, I 1, I lo, I hi]) ((nx + 1, .arr 5 (vE (four lo hi []).entries)) :: (nx, .arr 7 [[.slc (nx + 1) 5 0 4 4, .dx [], .dx [], I 0, I 1, I lo, I hi]]) :: hp) (nx + 2)) := by
  refine CallH.body 22 [.cell 6 37] Tryd.func59 (by kernel_rfl) rfl rfl rfl ?_
  refine Tr.reg [0, 1, 2, 6] (by
      simp only [↓sxd, sxu, ↓zE, ↓exq, St.keep, ↓zM, Nat.reduceBEq, Nat.reduceAdd, Nat.reduceLT, Nat.reduceEqDiff, tysW50_59]
      (repeat' (first | rfl | exact trivial | exact fun h => h | exact fun h => (by rw [h]; rfl) | apply And.intro | omega | exact Nat.le_of_ble_eq_true rfl))) ?_
  have e1 : (nx == nx + 1) = false := by simp
  have e2 : (nx + 1 = nx) = False := by simp
  refine Tr.regTs 16 [6] rfl (RegT.cut 8 8 [0, 1, 2, 6, 8, 10, 12, 14] (by decide) (by
    simp only [List.drop_zero, List.take_succ_cons, List.take_zero]
    simp only [↓sxd, sxu, ↓zE, St.keep, Nat.reduceLT]
    (repeat ((with_reducible refine And.intro ?_ ?_); (focus (first | with_reducible rfl | trivial | exact fun h => h | exact fun h => (by rw [h]; rfl) | omega | assumption))))
    refine CallO.use (between_c _ _ _) ?_
    try simp only [↓sxd, sxu, ↓zE, ↓exq, ↓zO, Nat.reduceAdd, Nat.reduceLT, Nat.reduceLeDiff, tysW50_59]
    (repeat ((with_reducible refine And.intro ?_ ?_); (focus (first | with_reducible rfl | trivial | exact fun h => h | exact fun h => (by rw [h]; rfl) | omega | assumption))))
    refine CallO.use (between_c _ _ _) ?_
    try simp only [↓sxd, sxu, ↓zE, ↓exq, ↓zO, Nat.reduceAdd, Nat.reduceLT, Nat.reduceLeDiff, tysW50_59]
    (repeat ((with_reducible refine And.intro ?_ ?_); (focus (first | with_reducible rfl | trivial | exact fun h => h | exact fun h => (by rw [h]; rfl) | omega | assumption))))
    refine CallO.use (between_c _ _ _) ?_
    try simp only [↓sxd, sxu, ↓zE, ↓exq, ↓zO, Nat.reduceAdd, Nat.reduceLT, Nat.reduceLeDiff, tysW50_59]
    (repeat ((with_reducible refine And.intro ?_ ?_); (focus (first | with_reducible rfl | trivial | exact fun h => h | exact fun h => (by rw [h]; rfl) | omega | assumption))))
    refine CallO.use (between_c _ _ _) ?_
    try simp only [↓sxd, sxu, ↓zE, ↓exq, ↓zO, Nat.reduceBEq, Nat.reduceAdd, Nat.reduceLT, Nat.reduceLeDiff, tysW50_59]
    (repeat' (first | rfl | exact trivial | exact fun h => h | exact fun h => (by rw [h]; rfl) | apply And.intro | omega | exact Nat.le_of_ble_eq_true rfl))) (RegT.own (k := 8) (n := 3) (sz := 5) (es := vE (four lo hi []).entries) rfl rfl rfl rfl (show 15 < 22 by decide) (by kernel_rfl) (by decide) (by kernel_rfl) rfl rfl rfl rfl (by decide) (RegT.cut (k := 9) 7 0 [6] (by decide) (by
    simp only [List.drop_succ_cons, List.drop_zero, List.take_succ_cons, List.take_zero]
    simp only [↓sxd, sxu, ↓zE, ↓exq, St.keep, Nat.reduceBEq, Nat.reduceAdd, Nat.reduceLT]
    (repeat ((with_reducible refine And.intro ?_ ?_); (focus (first | with_reducible rfl | trivial | exact fun h => h | exact fun h => (by rw [h]; rfl) | omega | assumption))))
    refine CallO.use (between_c _ _ _) ?_
    try simp only [↓sxd, sxu, ↓zE, ↓exq, Nat.reduceBEq, Nat.reduceLT]
    (repeat ((with_reducible refine And.intro ?_ ?_); (focus (first | with_reducible rfl | trivial | exact fun h => h | exact fun h => (by rw [h]; rfl) | omega | assumption))))
    refine CallO.use (between_c _ _ _) ?_
    try simp only [↓sxd, sxu, ↓zE, ↓exq, ↓zO, Nat.reduceBEq, Nat.reduceAdd, Nat.reduceLT, Nat.reduceLeDiff, tysW50_59, e1, e2]
    (repeat' (first | rfl | exact trivial | exact fun h => h | exact fun h => (by rw [h]; rfl) | apply And.intro | omega | exact Nat.le_of_ble_eq_true rfl))) (RegT.nil rfl)))) ?_
  refine Tr.ret ?_
  exact ⟨.inr rfl, _, by simp only [Res, ResOK]; unfold zD; simp [sxu, St.keep, Nat.reduceAdd, tysW50_59, e1], rfl, rfl, rfl⟩
end Go.Proofs.YtcnkbdfkjhlbiaaDoor
namespace Go.Proofs.YtcnkbdfkjhlbiaaDoor
open Go.Sy
set_option maxRecDepth 8000
theorem dxSp (l : List Pair) {pl : Nat → Option Pl} {ok : Nat → Prop} {w : World} {v : Value} (h : SR pl ok w (.dx (dP l)) v) : SR pl ok w (SP l) v := dxd _ pl ok w v h
theorem dxSI (l : List Int) {pl : Nat → Option Pl} {ok : Nat → Prop} {w : World} {v : Value} (h : SR pl ok w (.dx (dI l)) v) : SR pl ok w (SI l) v := dxd _ pl ok w v h
theorem dxSL (l : List (List Int)) {pl : Nat → Option Pl} {ok : Nat → Prop} {w : World} {v : Value} (h : SR pl ok w (.dx (dL l)) v) : SR pl ok w (SL l) v := dxd _ pl ok w v h
theorem four_x (lo hi : Int) (same : List Pair) : CallP Tryd.prog G0 59 [I lo, I hi, .dx (dP same)] (four lo hi same).s :=
  CallP.arg (four_c lo hi same) (.cons (fun _ _ _ _ h => h) (.cons (fun _ _ _ _ h => h) (.cons (fun _ _ _ _ h => dxSp _ h) .nil)))
theorem asg_x (c : Census) (ls : List (List Int)) (b : Bool) (hs : c.small) (hl : ls.length ≤ 1000) (hls : ∀ l ∈ ls, l.length ≤ 1000) (hb : c.asg ls = b) : CallP Tryd.prog G0 49 [c.s, .dx (dL ls)] (B b) := by
  subst hb
  exact CallP.arg (ProveAssignment_c c hs ls hl hls) (.cons (fun _ _ _ _ h => h) (.cons (fun _ _ _ _ h => dxSL _ h) .nil))
theorem prv_x (c : Coding) (ls : List Int) (b : Bool) (hs : c.codes.length < 4611686018427387904) (hw : c.wrong.length < 4611686018427387904) (hl : ls.length < 4611686018427387904) (hb : c.proves ls = b) : CallP Tryd.prog G0 47 [c.s, .dx (dI ls)] (B b) := by
  subst hb
  exact CallP.arg (ProveSolution_c c hs hw ls hl) (.cons (fun _ _ _ _ h => h) (.cons (fun _ _ _ _ h => dxSI _ h) .nil))
theorem pers_v (lo hi : Int) (r o : Rng) (e : Int) (h : (four lo hi []).personsS = (r, o, e)) : CallP Tryd.prog G0 21 [(four lo hi []).s] (.tup [r.s, o.s, I e]) := by
  have := Persons_c (four lo hi []) (four_small _ _ _ (by decide)) Census.readable
  rwa [h] at this
theorem tog_v (lo hi a b : Int) (x y : Bool) (e : Int) (h : (four lo hi []).together a b = (x, y, e)) : CallP Tryd.prog G0 52 [(four lo hi []).s, I a, I b] (.tup [B x, B y, I e]) := by
  have := Together_c (four lo hi []) a b (four_small _ _ _ (by decide))
  rwa [h] at this
theorem dbl_v (lo hi : Int) (l : List Nat) (e : Int) (h : (four lo hi []).doubled = (l, e)) : CallP Tryd.prog G0 53 [(four lo hi []).s] (.tup [SI (nats l), I e]) := by
  have := Doubled_c (four lo hi []) (four_small _ _ _ (by decide))
  rwa [h] at this
theorem drop_v (lo hi : Int) (l : List Nat) (e : Int) (h : (four lo hi []).dropS = (l, e)) : CallP Tryd.prog G0 29 [(four lo hi []).s] (.tup [SI (nats l), I e]) := by
  have := Drop_c (four lo hi []) (four_small _ _ _ (by decide))
  rwa [h] at this
theorem codes_v (c : Coding) (l : List (List Int)) (e : Int) (hs : c.codes.length < 4611686018427387904) (hw : c.wrong.length < 4611686018427387904) (h : c.codesS = (l, e)) : CallP Tryd.prog G0 37 [c.s] (.tup [SL l, I e]) := by
  have := Codes_c c hs hw
  rwa [h] at this
theorem errs_v (c : Coding) (n e : Int) (hs : c.codes.length < 4611686018427387904) (hw : c.wrong.length < 4611686018427387904) (h : c.errorsS = (n, e)) : CallP Tryd.prog G0 39 [c.s] (.tup [I n, I e]) := by
  have := Errors_c c hs hw
  rwa [h] at this
theorem show_v (c : Census) (hs : c.small) (b : Bool) (l : List (List Int)) (e : Int) (h : c.showS b = (l, e)) : CallP Tryd.prog G0 57 [c.s, B b] (.tup [SL l, I e]) := by
  have := Show_c c hs b
  rwa [h] at this
theorem n1 : (four 3 3 []).personsS = (⟨3, 3⟩, ⟨0, 0⟩, 0) := by kernel_rfl
theorem n2 : (four 3 3 []).together 0 1 = (true, false, 0) := by kernel_rfl
theorem n3 : (four 3 5 []).together 0 2 = (false, false, 0) := by kernel_rfl
theorem n4 : (four 3 5 []).doubled = ([], 0) := by kernel_rfl
theorem n5 : (threeC 2).codesS = ([[1], [0, 1, 2, 3, 4, 5, 6, 7, 8, 9], [3]], 0) := by kernel_rfl
theorem n6 : (four 3 5 []).dropS = ([], 0) := by kernel_rfl
theorem n7 : (four 6 9 []).personsS = (⟨0, 0⟩, ⟨0, 0⟩, 9) := by kernel_rfl
theorem n8 : (four 6 9 []).together 0 4 = (false, false, 2) := by kernel_rfl
theorem n9 : (four 6 9 []).dropS = ([], 9) := by kernel_rfl
theorem n10 : (four 3 5 [⟨0, 2⟩]).showS true = ([], 9) := by kernel_rfl
theorem n11 : (Coding.mk [[1], [2]] [0, 0]).codesS = ([], 9) := by kernel_rfl
theorem n12 : (Coding.mk [[1], [2, 3]] [0, 0]).errorsS = (0, 1) := by kernel_rfl
theorem n13 : (Coding.mk [[], [], [], []] []).codesS = ([], 3) := by kernel_rfl
theorem n14 : (Coding.mk [] []).check = 1 := by kernel_rfl
theorem n15 : (Census.mk [] [] [] ⟨0, 0⟩ ⟨0, 0⟩).check = 0 := by kernel_rfl
theorem n16 : (Census.mk (List.replicate 11 ⟨0, 0, 0, ⟨0, 0⟩⟩) [] [] ⟨0, 1⟩ ⟨3, 5⟩).check = 3 := by kernel_rfl
theorem n17 : (four 3 5 [⟨1, 1⟩]).check = 1 := by kernel_rfl
theorem n18 : (Census.mk [⟨0, 0, 5, ⟨30, 121⟩⟩, ⟨1, 0, 5, ⟨33, 36⟩⟩, ⟨2, 0, 5, ⟨35, 40⟩⟩, ⟨1, 1, 7, ⟨20, 20⟩⟩] [] [] ⟨0, 1⟩ ⟨3, 5⟩).check = 1 := by kernel_rfl
theorem four_hk (lo hi : Int) {hp : HpT} {nx : Nat} {K : KT} (hK : K (.agg [.slc (nx + 1) 5 0 4 4, .dx [], .dx [], I 0, I 1, I lo, I hi]) ((nx + 1, .arr 5 (vE (four lo hi []).entries)) :: (nx, .arr 7 [[.slc (nx + 1) 5 0 4 4, .dx [], .dx [], I 0, I 1, I lo, I hi]]) :: hp) (nx + 2)) : CallH Tryd.prog G0 59 [I lo, I hi, .dx []] hp nx K :=
  (four_h lo hi hp nx).mono fun r hp' nx' h => by
    obtain ⟨rfl, rfl, rfl⟩ := h
    exact hK
theorem vfz {r : Nat → Nat} {hp hp' : HpT} {id n n' : Nat} {es : List (List SV)} {l : List Entry} (h : hp.lookup id = some (.arr 5 es)) (he : es = vE l) (hn : ∀ p ∈ hp', p.1 ≠ id) (hl : l.length = n) : TnS r hp hp' (.slc id 5 0 n n') (SE l) := by
  subst he
  refine TnS.frz0 h hn (by decide) (by simpa [vE, dE] using hl) ?_
  exact F2.mapL fun _ _ => F2.mapL fun _ _ => TnS.d _
theorem lfz {r : Nat → Nat} {hp hp' : HpT} {id n n' : Nat} {es : List (List SV)} {l : List (List Int)} (h : hp.lookup id = some (.arr 1 es)) (he : F2 (F2 (TnS r hp hp')) es ((dL l).map fun e => e.map SV.d)) (hn : ∀ p ∈ hp', p.1 ≠ id) (hl : es.length = n) : TnS r hp hp' (.slc id 1 0 n n') (SL l) := by
  refine TnS.frz0 h hn (by decide) hl ?_
  have one : ∀ (e : List D) (a : List SV), F2 (TnS r hp hp') a (e.map SV.d) → F2 (fun s x => TnS r hp hp' s (.d x)) a e := by
    intro e
    induction e with
    | nil => intro a h; cases h; exact .nil
    | cons x e ih => intro a h; cases h with | cons h1 h2 => exact .cons h1 (ih _ h2)
  have all : ∀ (m : List (List D)) (es : List (List SV)), F2 (F2 (TnS r hp hp')) es (m.map fun e => e.map SV.d) → F2 (F2 fun s x => TnS r hp hp' s (.d x)) es m := by
    intro m
    induction m with
    | nil => intro es h; cases h; exact .nil
    | cons e m ih => intro es h; cases h with | cons h1 h2 => exact .cons (one _ _ h1) (ih _ h2)
  exact all _ _ he
theorem dxC (c : Coding) {pl : Nat → Option Pl} {ok : Nat → Prop} {w : World} {v : Value} (h : SR pl ok w (.agg [.dx (dL c.codes), .dx (dI c.wrong)]) v) : SR pl ok w c.s v := by
  cases h with
  | agg _ vs hl h =>
    refine .agg _ _ hl fun i hi => ?_
    match i, hi with
    | 0, _ => exact dxSL _ (h 0 (Nat.le_of_ble_eq_true rfl))
    | 1, _ => exact dxSI _ (h 1 (Nat.le_of_ble_eq_true rfl))
theorem codes_x (c : Coding) (l : List (List Int)) (e : Int) (hs : c.codes.length < 4611686018427387904) (hw : c.wrong.length < 4611686018427387904) (h : c.codesS = (l, e)) : CallP Tryd.prog G0 37 [.agg [.dx (dL c.codes), .dx (dI c.wrong)]] (.tup [SL l, I e]) :=
  CallP.arg (codes_v c l e hs hw h) (.cons (fun _ _ _ _ h => dxC c h) .nil)
theorem errs_x (c : Coding) (n e : Int) (hs : c.codes.length < 4611686018427387904) (hw : c.wrong.length < 4611686018427387904) (h : c.errorsS = (n, e)) : CallP Tryd.prog G0 39 [.agg [.dx (dL c.codes), .dx (dI c.wrong)]] (.tup [I n, I e]) :=
  CallP.arg (errs_v c n e hs hw h) (.cons (fun _ _ _ _ h => dxC c h) .nil)
theorem chk_v (c : Census) (e : Int) (h1 : c.entries.length < 4611686018427387904) (h2 : c.same.length < 4611686018427387904) (h3 : c.apart.length < 4611686018427387904) (h : c.check = e) : CallP Tryd.prog G0 48 [c.s] (I e) := by
  subst h; exact checkCensus_c c h1 h2 h3
theorem chkc_v (c : Coding) (e : Int) (hs : c.codes.length < 4611686018427387904) (hw : c.wrong.length < 4611686018427387904) (h : c.check = e) : CallP Tryd.prog G0 46 [c.s] (I e) := by
  subst h; exact CheckCoding_c c hs hw
def oldC : Census := ⟨[⟨0, 0, 5, ⟨30, 121⟩⟩, ⟨1, 0, 5, ⟨33, 36⟩⟩, ⟨2, 0, 5, ⟨35, 40⟩⟩, ⟨1, 1, 7, ⟨20, 20⟩⟩], [], [], ⟨0, 1⟩, ⟨3, 5⟩⟩
def manyC : Census := ⟨List.replicate 11 ⟨0, 0, 0, ⟨0, 0⟩⟩, [], [], ⟨0, 1⟩, ⟨3, 5⟩⟩
def cellsC (c : Census) : List SV := [SE c.entries, SP c.same, SP c.apart, I c.omitted.lo, I c.omitted.hi, I c.number.lo, I c.number.hi]
theorem zero_c : CallP Tryd.prog G0 48 [.agg [.dx [], .dx [], .dx [], I 0, I 0, I 0, I 0]] (I 0) :=
  CallP.arg (chk_v ⟨[], [], [], ⟨0, 0⟩, ⟨0, 0⟩⟩ 0 (by decide) (by decide) (by decide) n15) (.cons (fun pl ok w v h => by
    cases h with
    | agg _ vs hl h =>
      refine .agg _ _ hl fun i hi => ?_
      match i, hi with
      | 0, _ => exact dxd _ _ _ _ _ (h 0 (by decide))
      | 1, _ => exact dxd _ _ _ _ _ (h 1 (by decide))
      | 2, _ => exact dxd _ _ _ _ _ (h 2 (by decide))
      | 3, _ => exact h 3 (by decide)
      | 4, _ => exact h 4 (by decide)
      | 5, _ => exact h 5 (by decide)
      | 6, _ => exact h 6 (by decide)) .nil)
theorem zeroc_c : CallP Tryd.prog G0 46 [.agg [.dx [], .dx []]] (I 1) :=
  CallP.arg (chkc_v ⟨[], []⟩ 1 (by decide) (by decide) n14) (.cons (fun pl ok w v h => dxC ⟨[], []⟩ h) .nil)
abbrev tysW51_18 := And.intro ty.sz0 <| And.intro ty.agg0 <| And.intro ty.elem0 <| And.intro ty.sz3 <| And.intro ty.agg3 <| And.intro ty.elem3 <| And.intro ty.zero3 <| And.intro ty.und3 <| And.intro ty.sz4 <| And.intro ty.agg4 <| And.intro ty.elem4 <| And.intro ty.zero4 <| And.intro ty.und4 <| And.intro ty.sz30 <| And.intro ty.agg30 <| And.intro ty.fld30_0 <| And.intro ty.fld30_1 <| And.intro ty.elem30 <| And.intro ty.zero30 <| And.intro ty.pl30 <| And.intro ty.sz31 <| And.intro ty.agg31 <| And.intro ty.elem31 <| And.intro ty.zero31 <| And.intro ty.und31 <| And.intro ty.sz32 <| And.intro ty.agg32 <| And.intro ty.elem32 <| And.intro ty.sz34 <| And.intro ty.agg34 <| And.intro ty.elem34 <| And.intro ty.by34 <| And.intro ty.ez34 <| And.intro ty.zero34 <| And.intro ty.und34 <| And.intro ty.sz35 <| And.intro ty.agg35 <| And.intro ty.elem35 <| And.intro ty.by35 <| And.intro ty.ez35 <| And.intro ty.zero35 <| And.intro ty.und35 <| And.intro ty.sz37 <| And.intro ty.agg37 <| And.intro ty.fld37_0 <| And.intro ty.fld37_1 <| And.intro ty.fld37_2 <| And.intro ty.fld37_3 <| And.intro ty.fld37_4 <| And.intro ty.elem37 <| And.intro ty.zero37 <| And.intro ty.pl37 <| And.intro ty.sz39 <| And.intro ty.agg39 <| And.intro ty.elem39 <| And.intro ty.by39 <| And.intro ty.ez39 <| And.intro ty.zero39 <| And.intro ty.und39 <| And.intro ty.sz40 <| And.intro ty.agg40 <| And.intro ty.elem40 <| And.intro ty.sz43 <| And.intro ty.agg43 <| And.intro ty.elem43 <| And.intro ty.by43 <| And.intro ty.ez43 <| And.intro ty.zero43 <| And.intro ty.und43 <| And.intro ty.sz47 <| And.intro ty.agg47 <| And.intro ty.elem47 <| And.intro ty.sz59 <| And.intro ty.agg59 <| And.intro ty.fld59_0 <| And.intro ty.fld59_1 <| And.intro ty.elem59 <| And.intro ty.zero59 <| And.intro ty.pl59 <| And.intro ty.sz61 <| And.intro ty.agg61 <| And.intro ty.elem61 <| And.intro ty.sz91 <| And.intro ty.agg91 <| And.intro ty.elem91 <| And.intro ty.sz104 <| And.intro ty.agg104 <| And.intro ty.fld104_0 <| And.intro ty.fld104_1 <| And.intro ty.elem104 <| And.intro ty.zero104 <| And.intro ty.pl104 <| And.intro ty.sz106 <| And.intro ty.agg106 <| And.intro ty.fld106_0 <| And.intro ty.fld106_1 <| And.intro ty.fld106_2 <| And.intro ty.fld106_3 <| And.intro ty.elem106 <| And.intro ty.zero106 <| ty.pl106
set_option maxHeartbeats 8000000 in
theorem SheetNames_c : CallP Tryd.prog G0 18 [] (B true) := by
  refine CallP.body 301 [.tmp 0] Tryd.func18 (by kernel_rfl) rfl rfl rfl (by repeat' (first | exact Pure.d _ | exact Pure.dx _ | exact Pure.dp _ | exact fa_nil | refine fa_cons ?_ ?_ | refine Pure.agg ?_ | refine Pure.tup ?_ | refine Pure.clo ?_ ?_ | refine Pure.fp ?_ | exact Pure.mapd _ | assumption)) (by repeat' (first | exact Pure.d _ | exact Pure.dx _ | exact Pure.dp _ | exact fa_nil | refine fa_cons ?_ ?_ | refine Pure.agg ?_ | refine Pure.tup ?_ | refine Pure.clo ?_ ?_ | refine Pure.fp ?_ | exact Pure.mapd _ | assumption)) ?_
  refine Tr.reg [] (by
      simp only [↓sxd, sxu, ↓zE, ↓exq, St.keep, Nat.reduceLT]
      (repeat' (first | rfl | exact trivial | exact fun h => h | exact fun h => (by rw [h]; rfl) | apply And.intro | omega | exact Nat.le_of_ble_eq_true rfl))) ?_
  refine Tr.reg [1, 2, 3] (by
      simp only [↓sxd, sxu, ↓zE, St.keep, Nat.reduceLT]
      (repeat ((with_reducible refine And.intro ?_ ?_); (focus (first | with_reducible rfl | trivial | exact fun h => h | exact fun h => (by rw [h]; rfl) | omega | assumption))))
      refine CallO.use (four_x 3 3 []) ?_
      try simp only [↓sxd, sxu, ↓zE, Nat.reduceLT]
      (repeat ((with_reducible refine And.intro ?_ ?_); (focus (first | with_reducible rfl | trivial | exact fun h => h | exact fun h => (by rw [h]; rfl) | omega | assumption))))
      refine CallO.use (pers_v 3 3 _ _ _ n1) ?_
      try simp only [↓sxd, sxu, ↓zE, ↓exq, ↓zN, ↓zM, Nat.reduceBEq, Nat.reduceAdd, Nat.reduceLT, Nat.reduceEqDiff, tysW51_18]
      (repeat' (first | rfl | exact trivial | exact fun h => h | exact fun h => (by rw [h]; rfl) | apply And.intro | omega | exact Nat.le_of_ble_eq_true rfl))) ?_
  refine Tr.reg [1, 2, 3, 4, 5, 6] (by
      simp only [↓sxd, sxu, ↓zE, St.keep, Nat.reduceLT]
      (repeat ((with_reducible refine And.intro ?_ ?_); (focus (first | with_reducible rfl | trivial | exact fun h => h | exact fun h => (by rw [h]; rfl) | omega | assumption))))
      refine CallO.use (four_x 3 3 []) ?_
      try simp only [↓sxd, sxu, ↓zE, Nat.reduceLT]
      (repeat ((with_reducible refine And.intro ?_ ?_); (focus (first | with_reducible rfl | trivial | exact fun h => h | exact fun h => (by rw [h]; rfl) | omega | assumption))))
      refine CallO.use (tog_v 3 3 0 1 _ _ _ n2) ?_
      try simp only [↓sxd, sxu, ↓zE, ↓exq, ↓zN, Nat.reduceBEq, Nat.reduceAdd, Nat.reduceLT]
      (repeat' (first | rfl | exact trivial | exact fun h => h | exact fun h => (by rw [h]; rfl) | apply And.intro | omega | exact Nat.le_of_ble_eq_true rfl))) ?_
  refine Tr.reg [1, 2, 3, 4, 5, 6, 7, 8, 9] (by
      simp only [↓sxd, sxu, ↓zE, St.keep, Nat.reduceLT]
      (repeat ((with_reducible refine And.intro ?_ ?_); (focus (first | with_reducible rfl | trivial | exact fun h => h | exact fun h => (by rw [h]; rfl) | omega | assumption))))
      refine CallO.use (four_x 3 5 []) ?_
      try simp only [↓sxd, sxu, ↓zE, Nat.reduceLT]
      (repeat ((with_reducible refine And.intro ?_ ?_); (focus (first | with_reducible rfl | trivial | exact fun h => h | exact fun h => (by rw [h]; rfl) | omega | assumption))))
      refine CallO.use (tog_v 3 5 0 2 _ _ _ n3) ?_
      try simp only [↓sxd, sxu, ↓zE, ↓exq, ↓zN, Nat.reduceBEq, Nat.reduceAdd, Nat.reduceLT]
      (repeat' (first | rfl | exact trivial | exact fun h => h | exact fun h => (by rw [h]; rfl) | apply And.intro | omega | exact Nat.le_of_ble_eq_true rfl))) ?_
  refine Tr.reg [1, 2, 3, 4, 5, 6, 7, 8, 9, 10, 11] (by
      simp only [↓sxd, sxu, ↓zE, St.keep, Nat.reduceLT]
      (repeat ((with_reducible refine And.intro ?_ ?_); (focus (first | with_reducible rfl | trivial | exact fun h => h | exact fun h => (by rw [h]; rfl) | omega | assumption))))
      refine CallO.use (four_x 3 5 []) ?_
      try simp only [↓sxd, sxu, ↓zE, Nat.reduceLT]
      (repeat ((with_reducible refine And.intro ?_ ?_); (focus (first | with_reducible rfl | trivial | exact fun h => h | exact fun h => (by rw [h]; rfl) | omega | assumption))))
      refine CallO.use (dbl_v 3 5 _ _ n4) ?_
      try simp only [↓sxd, sxu, ↓zE, ↓exq, ↓zN, Nat.reduceBEq, Nat.reduceAdd, Nat.reduceLT]
      (repeat' (first | rfl | exact trivial | exact fun h => h | exact fun h => (by rw [h]; rfl) | apply And.intro | omega | exact Nat.le_of_ble_eq_true rfl))) ?_
  refine Tr.reg [1, 2, 3, 4, 5, 6, 7, 8, 9, 10, 11, 12, 13] (by
      simp only [↓sxd, sxu, ↓zE, St.keep, Nat.reduceLT]
      (repeat ((with_reducible refine And.intro ?_ ?_); (focus (first | with_reducible rfl | trivial | exact fun h => h | exact fun h => (by rw [h]; rfl) | omega | assumption))))
      refine CallO.use (three_cc 2) ?_
      try simp only [↓sxd, sxu, ↓zE, Nat.reduceLT]
      (repeat ((with_reducible refine And.intro ?_ ?_); (focus (first | with_reducible rfl | trivial | exact fun h => h | exact fun h => (by rw [h]; rfl) | omega | assumption))))
      refine CallO.use (codes_v (threeC 2) _ _ (by decide) (by decide) n5) ?_
      try simp only [↓sxd, sxu, ↓zE, ↓exq, ↓zN, Nat.reduceBEq, Nat.reduceAdd, Nat.reduceLT]
      (repeat' (first | rfl | exact trivial | exact fun h => h | exact fun h => (by rw [h]; rfl) | apply And.intro | omega | exact Nat.le_of_ble_eq_true rfl))) ?_
  refine Tr.reg [1, 2, 3, 4, 5, 6, 7, 8, 9, 10, 11, 12, 13, 14, 15] (by
      simp only [↓sxd, sxu, ↓zE, St.keep, Nat.reduceLT]
      (repeat ((with_reducible refine And.intro ?_ ?_); (focus (first | with_reducible rfl | trivial | exact fun h => h | exact fun h => (by rw [h]; rfl) | omega | assumption))))
      refine CallO.use (four_x 3 5 []) ?_
      try simp only [↓sxd, sxu, ↓zE, Nat.reduceLT]
      (repeat ((with_reducible refine And.intro ?_ ?_); (focus (first | with_reducible rfl | trivial | exact fun h => h | exact fun h => (by rw [h]; rfl) | omega | assumption))))
      refine CallO.use (drop_v 3 5 _ _ n6) ?_
      try simp only [↓sxd, sxu, ↓zE, ↓exq, ↓zN, Nat.reduceBEq, Nat.reduceAdd, Nat.reduceLT]
      (repeat' (first | rfl | exact trivial | exact fun h => h | exact fun h => (by rw [h]; rfl) | apply And.intro | omega | exact Nat.le_of_ble_eq_true rfl))) ?_
  refine Tr.seq ?_
  refine Tr.regV [] [] [136] mix (by kernel_rfl) (by
      try simp only [List.append_eq, List.cons_append, List.nil_append]
      simp only [↓yB, ↓yG, addA, ↓sxd, sxu, zK, ↓exq, St.keep, Nat.reduceBEq, Nat.reduceAdd, Nat.reduceLT]
      (repeat ((with_reducible refine And.intro ?_ ?_); (focus (first | with_reducible rfl | trivial | exact fun h => h | exact fun h => (by rw [h]; rfl) | omega | assumption))))
      refine GdV.mk _ (fun hg => by simp only [sxu, ↓exP, ↓exq, ↓zD, Nat.reduceBEq, Nat.reduceAdd, Nat.reduceLT, tysW51_18]; (repeat' (first | rfl | exact trivial | exact fun h => h | exact fun h => (by rw [h]; rfl) | apply And.intro | omega | exact Nat.le_of_ble_eq_true rfl))) ?_
      simp only [↓yB, ↓yG, addA, sxu, zK, Nat.reduceBEq, Nat.reduceAdd, Nat.reduceLT]
      (repeat ((with_reducible refine And.intro ?_ ?_); (focus (first | with_reducible rfl | trivial | exact fun h => h | exact fun h => (by rw [h]; rfl) | omega | assumption))))
      refine GdV.mk _ (fun hg => by simp only [sxu, ↓exP, hg]; first | exact between_c _ 3 3 | exact ⟨between_c _ 3 3, rfl, rfl⟩ | exact ⟨between_c _ 3 3, trivial⟩ | exact ⟨between_c _ 3 3, trivial, trivial⟩) ?_
      simp only [↓yB, ↓yG, addA, sxu, zK, Nat.reduceBEq, Nat.reduceAdd, Nat.reduceLT]
      iterate 2
        (repeat ((with_reducible refine And.intro ?_ ?_); (focus (first | with_reducible rfl | trivial | exact fun h => h | exact fun h => (by rw [h]; rfl) | omega | assumption))))
        refine GdV.mk _ (fun hg => by simp only [↓sxd, sxu, ↓exP, ↓exq, ↓zD, Nat.reduceBEq, Nat.reduceAdd, Nat.reduceLT, tysW51_18, eqAgg30, svInts, exists_and_left, hg]; (repeat' (first | rfl | exact trivial | exact fun h => h | exact fun h => (by rw [h]; rfl) | apply And.intro | omega | exact Nat.le_of_ble_eq_true rfl))) ?_
        simp only [↓yB, ↓yG, addA, sxu, zK, ↓exq, ↓zH, Nat.reduceBEq, Nat.reduceAdd, Nat.reduceLT]
      (repeat ((with_reducible refine And.intro ?_ ?_); (focus (first | with_reducible rfl | trivial | exact fun h => h | exact fun h => (by rw [h]; rfl) | omega | assumption))))
      refine GdV.mk _ (fun hg => by simp only [sxu, ↓exP, hg]; first | exact between_c _ 0 0 | exact ⟨between_c _ 0 0, rfl, rfl⟩ | exact ⟨between_c _ 0 0, trivial⟩ | exact ⟨between_c _ 0 0, trivial, trivial⟩) ?_
      simp only [↓yB, ↓yG, addA, sxu, zK, Nat.reduceBEq, Nat.reduceAdd, Nat.reduceLT]
      iterate 24
        (repeat ((with_reducible refine And.intro ?_ ?_); (focus (first | with_reducible rfl | trivial | exact fun h => h | exact fun h => (by rw [h]; rfl) | omega | assumption))))
        refine GdV.mk _ (fun hg => by simp only [↓sxd, sxu, ↓exP, ↓exq, ↓zB, ↓zL, ↓zJ, ↓zD, ↓zG, Nat.reduceBEq, Nat.reduceAdd, Nat.reduceLT, Nat.reduceLeDiff, Nat.reduceEqDiff, Int.reduceLE, sxe, tysW51_18, eqAgg30, svInts, exists_and_left, hg]; (repeat' (first | rfl | exact trivial | exact fun h => h | exact fun h => (by rw [h]; rfl) | apply And.intro | omega | exact Nat.le_of_ble_eq_true rfl))) ?_
        simp only [↓yB, ↓yG, addA, sxu, zK, ↓exq, ↓zH, Nat.reduceBEq, Nat.reduceAdd, Nat.reduceLT]
      (repeat ((with_reducible refine And.intro ?_ ?_); (focus (first | with_reducible rfl | trivial | exact fun h => h | exact fun h => (by rw [h]; rfl) | omega | assumption))))
      refine GdV.mk _ (fun hg => by simp only [sxu, ↓exP, Nat.reduceBEq, hg]; first | exact ints_dx [1] [1] (by decide) (by decide) | exact ⟨ints_dx [1] [1] (by decide) (by decide), rfl, rfl⟩ | exact ⟨ints_dx [1] [1] (by decide) (by decide), trivial⟩ | exact ⟨ints_dx [1] [1] (by decide) (by decide), trivial, trivial⟩) ?_
      simp only [↓yB, ↓yG, addA, sxu, zK, Nat.reduceBEq, Nat.reduceAdd, Nat.reduceLT]
      iterate 10
        (repeat ((with_reducible refine And.intro ?_ ?_); (focus (first | with_reducible rfl | trivial | exact fun h => h | exact fun h => (by rw [h]; rfl) | omega | assumption))))
        refine GdV.mk _ (fun hg => by simp only [↓sxd, sxu, ↓exP, ↓exq, ↓zB, ↓zL, ↓zJ, ↓zD, ↓zG, Nat.reduceBEq, Nat.reduceAdd, Nat.reduceLT, Nat.reduceLeDiff, Nat.reduceEqDiff, Int.reduceLE, Int.reduceToNat, sxe, tysW51_18, hg]; (repeat' (first | rfl | exact trivial | exact fun h => h | exact fun h => (by rw [h]; rfl) | apply And.intro | omega | exact Nat.le_of_ble_eq_true rfl))) ?_
        simp only [↓yB, ↓yG, addA, sxu, zK, ↓exq, ↓zH, Nat.reduceBEq, Nat.reduceAdd, Nat.reduceLT]
      (repeat ((with_reducible refine And.intro ?_ ?_); (focus (first | with_reducible rfl | trivial | exact fun h => h | exact fun h => (by rw [h]; rfl) | omega | assumption))))
      refine GdV.mk _ (fun hg => by simp only [sxu, ↓exP, Nat.reduceBEq, hg]; first | exact ints_dx [3] [3] (by decide) (by decide) | exact ⟨ints_dx [3] [3] (by decide) (by decide), rfl, rfl⟩ | exact ⟨ints_dx [3] [3] (by decide) (by decide), trivial⟩ | exact ⟨ints_dx [3] [3] (by decide) (by decide), trivial, trivial⟩) ?_
      simp only [↓yB, ↓yG, addA, sxu, zK, Nat.reduceBEq, Nat.reduceAdd, Nat.reduceLT]
      iterate 6
        (repeat ((with_reducible refine And.intro ?_ ?_); (focus (first | with_reducible rfl | trivial | exact fun h => h | exact fun h => (by rw [h]; rfl) | omega | assumption))))
        refine GdV.mk _ (fun hg => by simp only [↓sxd, sxu, ↓exP, ↓exq, ↓zB, ↓zL, ↓zJ, Nat.reduceBEq, sxe, tysW51_18, hg]; (repeat' (first | rfl | exact trivial | exact fun h => h | exact fun h => (by rw [h]; rfl) | apply And.intro | omega | exact Nat.le_of_ble_eq_true rfl))) ?_
        simp only [↓yB, ↓yE, ↓yG, addA, sxu, zK, ↓exq, ↓zH, Nat.reduceBEq, Nat.reduceAdd, Nat.reduceLT]
      (repeat' (first | rfl | exact trivial | exact fun h => h | exact fun h => (by rw [h]; rfl) | apply And.intro | omega | exact Nat.le_of_ble_eq_true rfl))) ?_
  refine Tr.cond rfl (fun h136 => ?_) (fun h136 => ?_)
  · exact absurd h136 (by simp [nats])
  · refine Tr.skip ?_
    refine Tr.seq ?_
    refine Tr.reg [186] (by
        simp only [↓sxd, sxu, ↓zE, St.keep, Nat.reduceLT]
        (repeat ((with_reducible refine And.intro ?_ ?_); (focus (first | with_reducible rfl | trivial | exact fun h => h | exact fun h => (by rw [h]; rfl) | omega | assumption))))
        refine CallO.use (four_x 3 3 []) ?_
        try simp only [↓sxd, sxu, ↓zE, ↓exq, ↓zG, Nat.reduceBEq, Nat.reduceLT, Nat.reduceLeDiff, Nat.reduceEqDiff, tysW51_18]
        (repeat ((with_reducible refine And.intro ?_ ?_); (focus (first | with_reducible rfl | trivial | exact fun h => h | exact fun h => (by rw [h]; rfl) | omega | assumption))))
        refine CallO.use (asg_x (four 3 3 []) [[1, 2], [0], [3]] true (four_small _ _ _ (by decide)) (by decide) (by decide) (by kernel_rfl)) ?_
        try simp only [↓sxd, sxu, ↓zE, ↓exq, ↓zL, Nat.reduceLT]
        (repeat ((with_reducible refine And.intro ?_ ?_); (focus (first | with_reducible rfl | trivial | exact fun h => h | exact fun h => (by rw [h]; rfl) | omega | assumption))))
        refine GdO.mk _ (fun hg => by simp only [sxu, ↓exq, ↓zB]; (repeat ((with_reducible refine And.intro ?_ ?_); (focus (first | with_reducible rfl | trivial | exact fun h => h | exact fun h => (by rw [h]; rfl) | omega | assumption)))); exact CallP.use (four_x 3 3 []) ⟨rfl, rfl, rfl⟩) ?_
        simp only [↓sxd, sxu, ↓zE, Nat.reduceBEq, Nat.reduceLT]
        iterate 5
          (repeat ((with_reducible refine And.intro ?_ ?_); (focus (first | with_reducible rfl | trivial | exact fun h => h | exact fun h => (by rw [h]; rfl) | omega | assumption))))
          refine GdO.mk _ (fun hg => by simp only [sxu, ↓exq, ↓zG, Nat.reduceBEq, Nat.reduceLeDiff, Nat.reduceEqDiff, tysW51_18, hg]; (repeat' (first | rfl | exact trivial | exact fun h => h | exact fun h => (by rw [h]; rfl) | apply And.intro | omega | exact Nat.le_of_ble_eq_true rfl))) ?_
          simp only [↓sxd, sxu, ↓zE, Nat.reduceBEq, Nat.reduceLT]
        (repeat ((with_reducible refine And.intro ?_ ?_); (focus (first | with_reducible rfl | trivial | exact fun h => h | exact fun h => (by rw [h]; rfl) | omega | assumption))))
        refine GdO.mk _ (fun hg => by simp only [sxu, ↓exq, ↓zB, Nat.reduceBEq, hg]; (repeat ((with_reducible refine And.intro ?_ ?_); (focus (first | with_reducible rfl | trivial | exact fun h => h | exact fun h => (by rw [h]; rfl) | omega | assumption)))); exact CallP.use (asg_x (four 3 3 []) [[0], [1], [2], [3]] false (four_small _ _ _ (by decide)) (by decide) (by decide) (by kernel_rfl)) ⟨rfl, rfl, rfl⟩) ?_
        simp only [↓sxd, sxu, ↓zE, ↓exq, ↓zH, Nat.reduceBEq, Nat.reduceLT]
        (repeat ((with_reducible refine And.intro ?_ ?_); (focus (first | with_reducible rfl | trivial | exact fun h => h | exact fun h => (by rw [h]; rfl) | omega | assumption))))
        refine GdO.mk _ (fun hg => by simp only [sxu, ↓exq, ↓zB, hg]; (repeat ((with_reducible refine And.intro ?_ ?_); (focus (first | with_reducible rfl | trivial | exact fun h => h | exact fun h => (by rw [h]; rfl) | omega | assumption)))); exact CallP.use (four_x 3 5 []) ⟨rfl, rfl, rfl⟩) ?_
        simp only [↓sxd, sxu, ↓zE, Nat.reduceBEq, Nat.reduceLT]
        iterate 4
          (repeat ((with_reducible refine And.intro ?_ ?_); (focus (first | with_reducible rfl | trivial | exact fun h => h | exact fun h => (by rw [h]; rfl) | omega | assumption))))
          refine GdO.mk _ (fun hg => by simp only [sxu, ↓exq, ↓zG, Nat.reduceBEq, Nat.reduceLeDiff, Nat.reduceEqDiff, tysW51_18, hg]; (repeat' (first | rfl | exact trivial | exact fun h => h | exact fun h => (by rw [h]; rfl) | apply And.intro | omega | exact Nat.le_of_ble_eq_true rfl))) ?_
          simp only [↓sxd, sxu, ↓zE, Nat.reduceBEq, Nat.reduceLT]
        (repeat ((with_reducible refine And.intro ?_ ?_); (focus (first | with_reducible rfl | trivial | exact fun h => h | exact fun h => (by rw [h]; rfl) | omega | assumption))))
        refine GdO.mk _ (fun hg => by simp only [sxu, ↓exq, ↓zB, Nat.reduceBEq, hg]; (repeat ((with_reducible refine And.intro ?_ ?_); (focus (first | with_reducible rfl | trivial | exact fun h => h | exact fun h => (by rw [h]; rfl) | omega | assumption)))); exact CallP.use (asg_x (four 3 5 []) [[0, 2], [1], [3]] false (four_small _ _ _ (by decide)) (by decide) (by decide) (by kernel_rfl)) ⟨rfl, rfl, rfl⟩) ?_
        simp only [↓sxd, sxu, ↓zE, ↓exq, ↓zH, Nat.reduceBEq, Nat.reduceLT]
        (repeat ((with_reducible refine And.intro ?_ ?_); (focus (first | with_reducible rfl | trivial | exact fun h => h | exact fun h => (by rw [h]; rfl) | omega | assumption))))
        refine GdO.mk _ (fun hg => by simp only [sxu, ↓exq, ↓zB, hg]; (repeat ((with_reducible refine And.intro ?_ ?_); (focus (first | with_reducible rfl | trivial | exact fun h => h | exact fun h => (by rw [h]; rfl) | omega | assumption)))); exact CallP.use (four_x 3 5 []) ⟨rfl, rfl, rfl⟩) ?_
        simp only [↓sxd, sxu, ↓zE, Nat.reduceBEq, Nat.reduceLT]
        iterate 4
          (repeat ((with_reducible refine And.intro ?_ ?_); (focus (first | with_reducible rfl | trivial | exact fun h => h | exact fun h => (by rw [h]; rfl) | omega | assumption))))
          refine GdO.mk _ (fun hg => by simp only [sxu, ↓exq, ↓zG, Nat.reduceBEq, Nat.reduceLeDiff, Nat.reduceEqDiff, tysW51_18, hg]; (repeat' (first | rfl | exact trivial | exact fun h => h | exact fun h => (by rw [h]; rfl) | apply And.intro | omega | exact Nat.le_of_ble_eq_true rfl))) ?_
          simp only [↓sxd, sxu, ↓zE, Nat.reduceBEq, Nat.reduceLT]
        (repeat ((with_reducible refine And.intro ?_ ?_); (focus (first | with_reducible rfl | trivial | exact fun h => h | exact fun h => (by rw [h]; rfl) | omega | assumption))))
        refine GdO.mk _ (fun hg => by simp only [sxu, ↓exq, ↓zB, Nat.reduceBEq, hg]; (repeat ((with_reducible refine And.intro ?_ ?_); (focus (first | with_reducible rfl | trivial | exact fun h => h | exact fun h => (by rw [h]; rfl) | omega | assumption)))); exact CallP.use (asg_x (four 3 5 []) [[2, 1], [0], [3]] false (four_small _ _ _ (by decide)) (by decide) (by decide) (by kernel_rfl)) ⟨rfl, rfl, rfl⟩) ?_
        simp only [↓sxd, sxu, ↓zE, ↓exq, ↓zH, Nat.reduceBEq, Nat.reduceLT]
        (repeat ((with_reducible refine And.intro ?_ ?_); (focus (first | with_reducible rfl | trivial | exact fun h => h | exact fun h => (by rw [h]; rfl) | omega | assumption))))
        refine GdO.mk _ (fun hg => by simp only [sxu, ↓exq, ↓zB, hg]; (repeat ((with_reducible refine And.intro ?_ ?_); (focus (first | with_reducible rfl | trivial | exact fun h => h | exact fun h => (by rw [h]; rfl) | omega | assumption)))); exact CallP.use (four_x 3 5 []) ⟨rfl, rfl, rfl⟩) ?_
        simp only [↓sxd, sxu, ↓zE, Nat.reduceBEq, Nat.reduceLT]
        iterate 3
          (repeat ((with_reducible refine And.intro ?_ ?_); (focus (first | with_reducible rfl | trivial | exact fun h => h | exact fun h => (by rw [h]; rfl) | omega | assumption))))
          refine GdO.mk _ (fun hg => by simp only [sxu, ↓exq, ↓zG, Nat.reduceBEq, Nat.reduceLeDiff, Nat.reduceEqDiff, tysW51_18, hg]; (repeat' (first | rfl | exact trivial | exact fun h => h | exact fun h => (by rw [h]; rfl) | apply And.intro | omega | exact Nat.le_of_ble_eq_true rfl))) ?_
          simp only [↓sxd, sxu, ↓zE, Nat.reduceBEq, Nat.reduceLT]
        (repeat ((with_reducible refine And.intro ?_ ?_); (focus (first | with_reducible rfl | trivial | exact fun h => h | exact fun h => (by rw [h]; rfl) | omega | assumption))))
        refine GdO.mk _ (fun hg => by simp only [sxu, ↓exq, ↓zB, Nat.reduceBEq, hg]; (repeat ((with_reducible refine And.intro ?_ ?_); (focus (first | with_reducible rfl | trivial | exact fun h => h | exact fun h => (by rw [h]; rfl) | omega | assumption)))); exact CallP.use (asg_x (four 3 5 []) [[1, 2], [0]] false (four_small _ _ _ (by decide)) (by decide) (by decide) (by kernel_rfl)) ⟨rfl, rfl, rfl⟩) ?_
        simp only [↓sxd, sxu, ↓zE, ↓exq, ↓zH, Nat.reduceBEq, Nat.reduceLT]
        (repeat ((with_reducible refine And.intro ?_ ?_); (focus (first | with_reducible rfl | trivial | exact fun h => h | exact fun h => (by rw [h]; rfl) | omega | assumption))))
        refine GdO.mk _ (fun hg => by simp only [sxu, ↓exq, ↓zB, hg]; (repeat ((with_reducible refine And.intro ?_ ?_); (focus (first | with_reducible rfl | trivial | exact fun h => h | exact fun h => (by rw [h]; rfl) | omega | assumption)))); exact CallP.use (three_cc 1) ⟨rfl, rfl, rfl⟩) ?_
        simp only [↓sxd, sxu, ↓zE, Nat.reduceBEq, Nat.reduceLT]
        (repeat ((with_reducible refine And.intro ?_ ?_); (focus (first | with_reducible rfl | trivial | exact fun h => h | exact fun h => (by rw [h]; rfl) | omega | assumption))))
        refine GdO.mk _ (fun hg => by simp only [sxu, ↓exq, ↓zG, Nat.reduceLeDiff, Nat.reduceEqDiff, tysW51_18, hg]; (repeat' (first | rfl | exact trivial | exact fun h => h | exact fun h => (by rw [h]; rfl) | apply And.intro | omega | exact Nat.le_of_ble_eq_true rfl))) ?_
        simp only [↓sxd, sxu, ↓zE, Nat.reduceBEq, Nat.reduceLT]
        (repeat ((with_reducible refine And.intro ?_ ?_); (focus (first | with_reducible rfl | trivial | exact fun h => h | exact fun h => (by rw [h]; rfl) | omega | assumption))))
        refine GdO.mk _ (fun hg => by simp only [sxu, ↓exq, ↓zB, Nat.reduceBEq, hg]; (repeat ((with_reducible refine And.intro ?_ ?_); (focus (first | with_reducible rfl | trivial | exact fun h => h | exact fun h => (by rw [h]; rfl) | omega | assumption)))); exact CallP.use (prv_x (threeC 1) [1, 5, 3] true (by decide) (by decide) (by decide) (by kernel_rfl)) ⟨rfl, rfl, rfl⟩) ?_
        simp only [↓sxd, sxu, ↓zE, Nat.reduceBEq, Nat.reduceLT]
        (repeat ((with_reducible refine And.intro ?_ ?_); (focus (first | with_reducible rfl | trivial | exact fun h => h | exact fun h => (by rw [h]; rfl) | omega | assumption))))
        refine GdO.mk _ (fun hg => by simp only [sxu, ↓exq, ↓zL, hg]; (repeat' (first | rfl | exact trivial | exact fun h => h | exact fun h => (by rw [h]; rfl) | apply And.intro | omega | exact Nat.le_of_ble_eq_true rfl))) ?_
        simp only [↓sxd, sxu, ↓zE, ↓exq, ↓zH, Nat.reduceBEq, Nat.reduceLT]
        (repeat ((with_reducible refine And.intro ?_ ?_); (focus (first | with_reducible rfl | trivial | exact fun h => h | exact fun h => (by rw [h]; rfl) | omega | assumption))))
        refine GdO.mk _ (fun hg => by simp only [sxu, ↓exq, ↓zB]; (repeat ((with_reducible refine And.intro ?_ ?_); (focus (first | with_reducible rfl | trivial | exact fun h => h | exact fun h => (by rw [h]; rfl) | omega | assumption)))); exact CallP.use (three_cc 1) ⟨rfl, rfl, rfl⟩) ?_
        simp only [↓sxd, sxu, ↓zE, Nat.reduceBEq, Nat.reduceLT]
        (repeat ((with_reducible refine And.intro ?_ ?_); (focus (first | with_reducible rfl | trivial | exact fun h => h | exact fun h => (by rw [h]; rfl) | omega | assumption))))
        refine GdO.mk _ (fun hg => by simp only [sxu, ↓exq, ↓zG, Nat.reduceLeDiff, Nat.reduceEqDiff, tysW51_18, hg]; (repeat' (first | rfl | exact trivial | exact fun h => h | exact fun h => (by rw [h]; rfl) | apply And.intro | omega | exact Nat.le_of_ble_eq_true rfl))) ?_
        simp only [↓sxd, sxu, ↓zE, Nat.reduceBEq, Nat.reduceLT]
        (repeat ((with_reducible refine And.intro ?_ ?_); (focus (first | with_reducible rfl | trivial | exact fun h => h | exact fun h => (by rw [h]; rfl) | omega | assumption))))
        refine GdO.mk _ (fun hg => by simp only [sxu, ↓exq, ↓zB, Nat.reduceBEq, hg]; (repeat ((with_reducible refine And.intro ?_ ?_); (focus (first | with_reducible rfl | trivial | exact fun h => h | exact fun h => (by rw [h]; rfl) | omega | assumption)))); exact CallP.use (prv_x (threeC 1) [1, 2, 3] false (by decide) (by decide) (by decide) (by kernel_rfl)) ⟨rfl, rfl, rfl⟩) ?_
        simp only [↓sxd, sxu, ↓zE, ↓exq, ↓zH, Nat.reduceBEq, Nat.reduceLT]
        (repeat' (first | rfl | exact trivial | exact fun h => h | exact fun h => (by rw [h]; rfl) | apply And.intro | omega | exact Nat.le_of_ble_eq_true rfl))) ?_
    refine Tr.cond rfl (fun h186 => ?_) (fun h186 => ?_)
    · cases h186
    · refine Tr.skip ?_
      refine Tr.reg [3] (by
          simp only [↓sxd, sxu, ↓zE, St.keep, Nat.reduceLT]
          (repeat ((with_reducible refine And.intro ?_ ?_); (focus (first | with_reducible rfl | trivial | exact fun h => h | exact fun h => (by rw [h]; rfl) | omega | assumption))))
          refine CallO.use (four_x 6 9 []) ?_
          try simp only [↓sxd, sxu, ↓zE, Nat.reduceLT]
          (repeat ((with_reducible refine And.intro ?_ ?_); (focus (first | with_reducible rfl | trivial | exact fun h => h | exact fun h => (by rw [h]; rfl) | omega | assumption))))
          refine CallO.use (pers_v 6 9 _ _ _ n7) ?_
          try simp only [↓sxd, sxu, ↓zE, ↓exq, ↓zN, Nat.reduceBEq, Nat.reduceAdd, Nat.reduceLT]
          (repeat' (first | rfl | exact trivial | exact fun h => h | exact fun h => (by rw [h]; rfl) | apply And.intro | omega | exact Nat.le_of_ble_eq_true rfl))) ?_
      refine Tr.reg [3, 6] (by
          simp only [↓sxd, sxu, ↓zE, St.keep, Nat.reduceLT]
          (repeat ((with_reducible refine And.intro ?_ ?_); (focus (first | with_reducible rfl | trivial | exact fun h => h | exact fun h => (by rw [h]; rfl) | omega | assumption))))
          refine CallO.use (four_x 6 9 []) ?_
          try simp only [↓sxd, sxu, ↓zE, Nat.reduceLT]
          (repeat ((with_reducible refine And.intro ?_ ?_); (focus (first | with_reducible rfl | trivial | exact fun h => h | exact fun h => (by rw [h]; rfl) | omega | assumption))))
          refine CallO.use (tog_v 6 9 0 4 _ _ _ n8) ?_
          try simp only [↓sxd, sxu, ↓zE, ↓exq, ↓zN, Nat.reduceBEq, Nat.reduceAdd, Nat.reduceLT]
          (repeat' (first | rfl | exact trivial | exact fun h => h | exact fun h => (by rw [h]; rfl) | apply And.intro | omega | exact Nat.le_of_ble_eq_true rfl))) ?_
      refine Tr.reg [3, 6, 9] (by
          simp only [↓sxd, sxu, ↓zE, St.keep, Nat.reduceLT]
          (repeat ((with_reducible refine And.intro ?_ ?_); (focus (first | with_reducible rfl | trivial | exact fun h => h | exact fun h => (by rw [h]; rfl) | omega | assumption))))
          refine CallO.use (four_x 6 9 []) ?_
          try simp only [↓sxd, sxu, ↓zE, Nat.reduceLT]
          (repeat ((with_reducible refine And.intro ?_ ?_); (focus (first | with_reducible rfl | trivial | exact fun h => h | exact fun h => (by rw [h]; rfl) | omega | assumption))))
          refine CallO.use (drop_v 6 9 _ _ n9) ?_
          try simp only [↓sxd, sxu, ↓zE, ↓exq, ↓zN, Nat.reduceBEq, Nat.reduceAdd, Nat.reduceLT]
          (repeat' (first | rfl | exact trivial | exact fun h => h | exact fun h => (by rw [h]; rfl) | apply And.intro | omega | exact Nat.le_of_ble_eq_true rfl))) ?_
      refine Tr.reg [3, 6, 9, 11] (by
          simp only [↓sxd, sxu, ↓zE, ↓exq, St.keep, ↓zO, ↓zG, Nat.reduceAdd, Nat.reduceLT, Nat.reduceLeDiff, Nat.reduceEqDiff, tysW51_18]
          (repeat ((with_reducible refine And.intro ?_ ?_); (focus (first | with_reducible rfl | trivial | exact fun h => h | exact fun h => (by rw [h]; rfl) | omega | assumption))))
          refine CallO.use (four_x 3 5 [⟨0, 2⟩]) ?_
          try simp only [↓sxd, sxu, ↓zE, Nat.reduceLT]
          (repeat ((with_reducible refine And.intro ?_ ?_); (focus (first | with_reducible rfl | trivial | exact fun h => h | exact fun h => (by rw [h]; rfl) | omega | assumption))))
          refine CallO.use (show_v (four 3 5 [⟨0, 2⟩]) (four_small _ _ _ (by decide)) true _ _ n10) ?_
          try simp only [↓sxd, sxu, ↓zE, ↓exq, ↓zN, Nat.reduceBEq, Nat.reduceAdd, Nat.reduceLT]
          (repeat' (first | rfl | exact trivial | exact fun h => h | exact fun h => (by rw [h]; rfl) | apply And.intro | omega | exact Nat.le_of_ble_eq_true rfl))) ?_
      refine Tr.reg [3, 6, 9, 11, 16, 17, 18] (by
          simp only [↓sxd, sxu, ↓zE, St.keep, Nat.reduceLT]
          (repeat ((with_reducible refine And.intro ?_ ?_); (focus (first | with_reducible rfl | trivial | exact fun h => h | exact fun h => (by rw [h]; rfl) | omega | assumption))))
          refine CallO.use (four_x 3 5 []) ?_
          try simp only [↓sxd, sxu, ↓zE, ↓exq, ↓zO, ↓zG, Nat.reduceAdd, Nat.reduceLT, Nat.reduceLeDiff, Nat.reduceEqDiff, tysW51_18]
          (repeat ((with_reducible refine And.intro ?_ ?_); (focus (first | with_reducible rfl | trivial | exact fun h => h | exact fun h => (by rw [h]; rfl) | omega | assumption))))
          refine CallO.use (four_x 3 5 [⟨1, 1⟩]) ?_
          try simp only [↓sxd, sxu, ↓zE, Nat.reduceLT]
          (repeat ((with_reducible refine And.intro ?_ ?_); (focus (first | with_reducible rfl | trivial | exact fun h => h | exact fun h => (by rw [h]; rfl) | omega | assumption))))
          refine four_hk 3 5 ?_
          try simp only [↓sxd, sxu, ↓zE, ↓exq, ↓zM, Nat.reduceBEq, Nat.reduceAdd, Nat.reduceLT, Nat.reduceEqDiff, tysW51_18]
          (repeat' (first | rfl | exact trivial | exact fun h => h | exact fun h => (by rw [h]; rfl) | apply And.intro | omega | exact Nat.le_of_ble_eq_true rfl))) ?_
      refine Tr.reg [3, 6, 9, 11, 16, 17, 18] (by
          simp only [↓sxd, sxu, ↓zE, ↓exq, St.keep, ↓zA, Nat.reduceBEq, Nat.reduceAdd, Nat.reduceLT, Nat.reduceLeDiff, Nat.reduceEqDiff, Int.reduceLE, Int.reduceToNat, tysW51_18]
          (repeat' (first | rfl | exact trivial | exact fun h => h | exact fun h => (by rw [h]; rfl) | apply And.intro | omega | exact Nat.le_of_ble_eq_true rfl))) ?_
      refine Tr.reg [3, 6, 9, 11, 16, 17, 18] (by
          simp only [↓sxd, sxu, ↓zE, ↓exq, St.keep, ↓zD, ↓zA, Nat.reduceBEq, Nat.reduceAdd, Nat.reduceLT, Nat.reduceEqDiff, Int.reduceLE, tysW51_18]
          (repeat' (first | rfl | exact trivial | exact fun h => h | exact fun h => (by rw [h]; rfl) | apply And.intro | omega | exact Nat.le_of_ble_eq_true rfl))) ?_
      refine Tr.imp (st' := ⟨[(3, I 9), (6, I 2), (9, I 9), (11, I 9), (16, .ptr 4 0 0), (17, .ptr 5 0 0), (18, .ptr 6 0 0)], [(6, .arr 7 [cellsC oldC]), (5, .arr 7 [cellsC (four 3 5 [⟨1, 1⟩])]), (4, .arr 7 [cellsC manyC])], 8, _, [], _⟩) (Imp.go (fun i => i) [(6, _), (5, _), (4, _)] rfl rfl (.cons _ (.cons_cons _ (.cons_cons _ (.cons_cons _ (.cons _ (.cons _ (.cons _ (.cons _ .slnil)))))))) (fun _ _ => rfl) (fun _ h => h) (by repeat' (first | exact TmT.cons rfl (TnS.d _) ?_ | exact trivial | exact F2.nil | refine F2.append ?_ ?_ | refine F2.map fun _ _ => ?_ | refine F2.cons ?_ ?_ | refine TmT.cons rfl ?_ ?_ | exact TnS.d _ | exact TnS.dx _ | exact TnS.dp _ | exact TnS.slc rfl | exact TnS.ptr rfl | refine TnS.frzf rfl (by simp) (by simp) (by simp) ?_ | refine TnS.frz0 rfl (by simp) (by simp) (by simp) ?_ | refine TnS.frzm rfl (by simp) ?_ | exact TnS.mapr rfl | exact TnS.yld rfl | refine ⟨rfl, ?_⟩ | refine TnO.arr ?_ | refine TnO.map ?_ | exact TnO.raw _ | exact TnO.iter _ _ | refine TnS.agg ?_ | refine TnS.tup ?_ | exact TnS.pure (Pure.clo (by assumption) (by assumption)) | refine TnS.clo ?_ ?_ | exact TnS.unk _ | exact TnS.pure (Pure.clo (by assumption) (by assumption)))) ?_ (fun _ => rfl)) ?_
      · refine .cons ⟨rfl, TnO.arr (.cons (.cons (vfz rfl rfl (by simp) rfl) (.cons (TnS.dxd _) (.cons (TnS.dxd _) (by repeat' (first | exact TmT.cons rfl (TnS.d _) ?_ | exact trivial | exact F2.nil | refine F2.append ?_ ?_ | refine F2.map fun _ _ => ?_ | refine F2.cons ?_ ?_ | refine TmT.cons rfl ?_ ?_ | exact TnS.d _ | exact TnS.dx _ | exact TnS.dp _ | exact TnS.slc rfl | exact TnS.ptr rfl | refine TnS.frzf rfl (by simp) (by simp) (by simp) ?_ | refine TnS.frz0 rfl (by simp) (by simp) (by simp) ?_ | refine TnS.frzm rfl (by simp) ?_ | exact TnS.mapr rfl | exact TnS.yld rfl | refine ⟨rfl, ?_⟩ | refine TnO.arr ?_ | refine TnO.map ?_ | exact TnO.raw _ | exact TnO.iter _ _ | refine TnS.agg ?_ | refine TnS.tup ?_ | exact TnS.pure (Pure.clo (by assumption) (by assumption)) | refine TnS.clo ?_ ?_ | exact TnS.unk _ | exact TnS.pure (Pure.clo (by assumption) (by assumption))))))) .nil)⟩ (.cons ⟨rfl, TnO.arr (.cons (by repeat' (first | exact TmT.cons rfl (TnS.d _) ?_ | exact trivial | exact F2.nil | refine F2.append ?_ ?_ | refine F2.map fun _ _ => ?_ | refine F2.cons ?_ ?_ | refine TmT.cons rfl ?_ ?_ | exact TnS.d _ | exact TnS.dx _ | exact TnS.dp _ | exact TnS.slc rfl | exact TnS.ptr rfl | refine TnS.frzf rfl (by simp) (by simp) (by simp) ?_ | refine TnS.frz0 rfl (by simp) (by simp) (by simp) ?_ | refine TnS.frzm rfl (by simp) ?_ | exact TnS.mapr rfl | exact TnS.yld rfl | refine ⟨rfl, ?_⟩ | refine TnO.arr ?_ | refine TnO.map ?_ | exact TnO.raw _ | exact TnO.iter _ _ | refine TnS.agg ?_ | refine TnS.tup ?_ | exact TnS.pure (Pure.clo (by assumption) (by assumption)) | refine TnS.clo ?_ ?_ | exact TnS.unk _ | exact TnS.pure (Pure.clo (by assumption) (by assumption)))) .nil)⟩ (.cons ⟨rfl, TnO.arr (.cons (.cons (vfz rfl rfl (by simp) rfl) (.cons (TnS.d _) (.cons (TnS.d _) (by repeat' (first | exact TmT.cons rfl (TnS.d _) ?_ | exact trivial | exact F2.nil | refine F2.append ?_ ?_ | refine F2.map fun _ _ => ?_ | refine F2.cons ?_ ?_ | refine TmT.cons rfl ?_ ?_ | exact TnS.d _ | exact TnS.dx _ | exact TnS.dp _ | exact TnS.slc rfl | exact TnS.ptr rfl | refine TnS.frzf rfl (by simp) (by simp) (by simp) ?_ | refine TnS.frz0 rfl (by simp) (by simp) (by simp) ?_ | refine TnS.frzm rfl (by simp) ?_ | exact TnS.mapr rfl | exact TnS.yld rfl | refine ⟨rfl, ?_⟩ | refine TnO.arr ?_ | refine TnO.map ?_ | exact TnO.raw _ | exact TnO.iter _ _ | refine TnS.agg ?_ | refine TnS.tup ?_ | exact TnS.pure (Pure.clo (by assumption) (by assumption)) | refine TnS.clo ?_ ?_ | exact TnS.unk _ | exact TnS.pure (Pure.clo (by assumption) (by assumption))))))) .nil)⟩ .nil))
      refine Tr.reg [3, 6, 9, 11, 13, 16, 17, 18] (by
          simp only [↓sxd, sxu, ↓zE, ↓exq, St.keep, ↓zO, ↓zG, Nat.reduceBEq, Nat.reduceAdd, Nat.reduceLT, Nat.reduceLeDiff, Nat.reduceEqDiff, tysW51_18]
          (repeat ((with_reducible refine And.intro ?_ ?_); (focus (first | with_reducible rfl | trivial | exact fun h => h | exact fun h => (by rw [h]; rfl) | omega | assumption))))
          refine CallO.use (codes_x ⟨[[1], [2]], [0, 0]⟩ _ _ (by decide) (by decide) n11) ?_
          try simp only [↓sxd, sxu, ↓zE, ↓exq, ↓zN, Nat.reduceBEq, Nat.reduceAdd, Nat.reduceLT]
          (repeat' (first | rfl | exact trivial | exact fun h => h | exact fun h => (by rw [h]; rfl) | apply And.intro | omega | exact Nat.le_of_ble_eq_true rfl))) ?_
      refine Tr.reg [3, 6, 9, 11, 13, 15, 16, 17, 18] (by
          simp only [↓sxd, sxu, ↓zE, ↓exq, St.keep, ↓zO, ↓zG, Nat.reduceBEq, Nat.reduceAdd, Nat.reduceLT, Nat.reduceLeDiff, Nat.reduceEqDiff, tysW51_18]
          (repeat ((with_reducible refine And.intro ?_ ?_); (focus (first | with_reducible rfl | trivial | exact fun h => h | exact fun h => (by rw [h]; rfl) | omega | assumption))))
          refine CallO.use (errs_x ⟨[[1], [2, 3]], [0, 0]⟩ _ _ (by decide) (by decide) n12) ?_
          try simp only [↓sxd, sxu, ↓zE, ↓exq, ↓zN, Nat.reduceBEq, Nat.reduceAdd, Nat.reduceLT]
          (repeat' (first | rfl | exact trivial | exact fun h => h | exact fun h => (by rw [h]; rfl) | apply And.intro | omega | exact Nat.le_of_ble_eq_true rfl))) ?_
      refine Tr.reg [3, 6, 9, 11, 13, 15, 16, 17, 18, 20] (by
          simp only [↓sxd, sxu, ↓zE, ↓exq, St.keep, ↓zO, Nat.reduceAdd, Nat.reduceLT, Nat.reduceLeDiff, Nat.reduceEqDiff, Int.reduceLE, Int.reduceToNat, tysW51_18]
          (repeat ((with_reducible refine And.intro ?_ ?_); (focus (first | with_reducible rfl | trivial | exact fun h => h | exact fun h => (by rw [h]; rfl) | omega | assumption))))
          refine CallO.useB _ (codes_v ⟨[[], [], [], []], []⟩ _ _ (by decide) (by decide) n13) (.cons _ (.refl _)) (.cons (TnS.agg (.cons (lfz rfl (.cons (.cons (TnS.dxd _) .nil) (.cons (.cons (TnS.dxd _) .nil) (.cons (.cons (TnS.dxd _) .nil) (.cons (.cons (TnS.dxd _) .nil) .nil)))) (by simp) rfl) (.cons (TnS.dxd _) .nil))) .nil) (by repeat' (first | exact Rigid.lit _ | exact Rigid.nil | exact ra_nil | refine ra_cons ?_ ?_ | refine Rigid.agg ?_ | refine Rigid.tup ?_ | exact Rigid.unk | assumption)) ?_
          try simp only [↓sxd, sxu, ↓zE, ↓exq, ↓zN, Nat.reduceBEq, Nat.reduceAdd, Nat.reduceLT]
          (repeat' (first | rfl | exact trivial | exact fun h => h | exact fun h => (by rw [h]; rfl) | apply And.intro | omega | exact Nat.le_of_ble_eq_true rfl))) ?_
      refine Tr.reg [0] (by
          simp only [↓sxd, sxu, ↓zE, ↓exq, St.keep, Nat.reduceLT]
          iterate 7
            (repeat ((with_reducible refine And.intro ?_ ?_); (focus (first | with_reducible rfl | trivial | exact fun h => h | exact fun h => (by rw [h]; rfl) | omega | assumption))))
            refine GdO.mk _ (fun hg => by simp only [↓sxd, sxu, ↓exq, ↓zD, Nat.reduceBEq, Nat.reduceLT, tysW51_18]; (repeat' (first | rfl | exact trivial | exact fun h => h | exact fun h => (by rw [h]; rfl) | apply And.intro | omega | exact Nat.le_of_ble_eq_true rfl))) ?_
            simp only [↓sxd, sxu, ↓zE, ↓exq, ↓zH, Nat.reduceBEq, Nat.reduceLT]
          (repeat ((with_reducible refine And.intro ?_ ?_); (focus (first | with_reducible rfl | trivial | exact fun h => h | exact fun h => (by rw [h]; rfl) | omega | assumption))))
          refine GdO.mk _ (fun hg => by simp only [sxu, ↓exq, ↓zB]; (repeat ((with_reducible refine And.intro ?_ ?_); (focus (first | with_reducible rfl | trivial | exact fun h => h | exact fun h => (by rw [h]; rfl) | omega | assumption)))); exact CallP.use (chk_v manyC 3 (by decide) (by decide) (by decide) n16) ⟨rfl, rfl, rfl⟩) ?_
          simp only [↓sxd, sxu, ↓zE, Nat.reduceBEq, Nat.reduceLT]
          iterate 2
            (repeat ((with_reducible refine And.intro ?_ ?_); (focus (first | with_reducible rfl | trivial | exact fun h => h | exact fun h => (by rw [h]; rfl) | omega | assumption))))
            refine GdO.mk _ (fun hg => by simp only [↓sxd, sxu, ↓exq, ↓zD, Nat.reduceBEq, Nat.reduceLT, tysW51_18]; (repeat' (first | rfl | exact trivial | exact fun h => h | exact fun h => (by rw [h]; rfl) | apply And.intro | omega | exact Nat.le_of_ble_eq_true rfl))) ?_
            simp only [↓sxd, sxu, ↓zE, ↓exq, ↓zH, Nat.reduceBEq, Nat.reduceLT]
          (repeat ((with_reducible refine And.intro ?_ ?_); (focus (first | with_reducible rfl | trivial | exact fun h => h | exact fun h => (by rw [h]; rfl) | omega | assumption))))
          refine GdO.mk _ (fun hg => by simp only [sxu, ↓exq, ↓zB]; (repeat ((with_reducible refine And.intro ?_ ?_); (focus (first | with_reducible rfl | trivial | exact fun h => h | exact fun h => (by rw [h]; rfl) | omega | assumption)))); exact CallP.use (chk_v (four 3 5 [⟨1, 1⟩]) 1 (by decide) (by decide) (by decide) n17) ⟨rfl, rfl, rfl⟩) ?_
          simp only [↓sxd, sxu, ↓zE, Nat.reduceBEq, Nat.reduceLT]
          iterate 2
            (repeat ((with_reducible refine And.intro ?_ ?_); (focus (first | with_reducible rfl | trivial | exact fun h => h | exact fun h => (by rw [h]; rfl) | omega | assumption))))
            refine GdO.mk _ (fun hg => by simp only [↓sxd, sxu, ↓exq, ↓zD, Nat.reduceBEq, Nat.reduceLT, tysW51_18]; (repeat' (first | rfl | exact trivial | exact fun h => h | exact fun h => (by rw [h]; rfl) | apply And.intro | omega | exact Nat.le_of_ble_eq_true rfl))) ?_
            simp only [↓sxd, sxu, ↓zE, ↓exq, ↓zH, Nat.reduceBEq, Nat.reduceLT]
          (repeat ((with_reducible refine And.intro ?_ ?_); (focus (first | with_reducible rfl | trivial | exact fun h => h | exact fun h => (by rw [h]; rfl) | omega | assumption))))
          refine GdO.mk _ (fun hg => by simp only [sxu, ↓exq, ↓zB]; (repeat ((with_reducible refine And.intro ?_ ?_); (focus (first | with_reducible rfl | trivial | exact fun h => h | exact fun h => (by rw [h]; rfl) | omega | assumption)))); exact CallP.use (chk_v oldC 1 (by decide) (by decide) (by decide) n18) ⟨rfl, rfl, rfl⟩) ?_
          simp only [↓sxd, sxu, ↓zE, Nat.reduceBEq, Nat.reduceLT]
          iterate 2
            (repeat ((with_reducible refine And.intro ?_ ?_); (focus (first | with_reducible rfl | trivial | exact fun h => h | exact fun h => (by rw [h]; rfl) | omega | assumption))))
            refine GdO.mk _ (fun hg => by simp only [↓sxd, sxu, ↓exq, ↓zO, tysW51_18]; (repeat' (first | rfl | exact trivial | exact fun h => h | exact fun h => (by rw [h]; rfl) | apply And.intro | omega | exact Nat.le_of_ble_eq_true rfl))) ?_
            simp only [↓sxd, sxu, ↓zE, ↓exq, ↓zH, Nat.reduceBEq, Nat.reduceLT]
          (repeat ((with_reducible refine And.intro ?_ ?_); (focus (first | with_reducible rfl | trivial | exact fun h => h | exact fun h => (by rw [h]; rfl) | omega | assumption))))
          refine GdO.mk _ (fun hg => by simp only [sxu, ↓exq, ↓zB]; (repeat ((with_reducible refine And.intro ?_ ?_); (focus (first | with_reducible rfl | trivial | exact fun h => h | exact fun h => (by rw [h]; rfl) | omega | assumption)))); exact CallP.use (zero_c) ⟨rfl, rfl, rfl⟩) ?_
          simp only [↓sxd, sxu, ↓zE, Nat.reduceBEq, Nat.reduceLT]
          iterate 8
            (repeat ((with_reducible refine And.intro ?_ ?_); (focus (first | with_reducible rfl | trivial | exact fun h => h | exact fun h => (by rw [h]; rfl) | omega | assumption))))
            refine GdO.mk _ (fun hg => by simp only [↓sxd, sxu, ↓exq, ↓zO, Nat.reduceBEq, tysW51_18]; (repeat' (first | rfl | exact trivial | exact fun h => h | exact fun h => (by rw [h]; rfl) | apply And.intro | omega | exact Nat.le_of_ble_eq_true rfl))) ?_
            simp only [↓sxd, sxu, ↓zE, ↓exq, ↓zH, Nat.reduceBEq, Nat.reduceLT]
          (repeat ((with_reducible refine And.intro ?_ ?_); (focus (first | with_reducible rfl | trivial | exact fun h => h | exact fun h => (by rw [h]; rfl) | omega | assumption))))
          refine GdO.mk _ (fun hg => by simp only [sxu, ↓exq, ↓zB]; (repeat ((with_reducible refine And.intro ?_ ?_); (focus (first | with_reducible rfl | trivial | exact fun h => h | exact fun h => (by rw [h]; rfl) | omega | assumption)))); exact CallP.use (zeroc_c) ⟨rfl, rfl, rfl⟩) ?_
          simp only [↓sxd, sxu, ↓zE, Nat.reduceBEq, Nat.reduceLT]
          (repeat ((with_reducible refine And.intro ?_ ?_); (focus (first | with_reducible rfl | trivial | exact fun h => h | exact fun h => (by rw [h]; rfl) | omega | assumption))))
          refine GdO.mk _ (fun hg => by simp only [↓sxd, sxu, ↓exq]; (repeat' (first | rfl | exact trivial | exact fun h => h | exact fun h => (by rw [h]; rfl) | apply And.intro | omega | exact Nat.le_of_ble_eq_true rfl))) ?_
          simp only [↓sxd, sxu, ↓zE, ↓exq, ↓zH, Nat.reduceBEq, Nat.reduceLT]
          (repeat ((with_reducible refine And.intro ?_ ?_); (focus (first | with_reducible rfl | trivial | exact fun h => h | exact fun h => (by rw [h]; rfl) | omega | assumption))))
          refine GdO.mk _ (fun hg => by simp only [sxu, ↓exq, ↓zB]; (repeat ((with_reducible refine And.intro ?_ ?_); (focus (first | with_reducible rfl | trivial | exact fun h => h | exact fun h => (by rw [h]; rfl) | omega | assumption)))); exact CallP.use (awake_c) ⟨rfl, rfl, rfl⟩) ?_
          simp only [↓sxd, sxu, ↓zE, ↓exq, ↓zH, Nat.reduceBEq, Nat.reduceLT]
          (repeat' (first | rfl | exact trivial | exact fun h => h | exact fun h => (by rw [h]; rfl) | apply And.intro | omega | exact Nat.le_of_ble_eq_true rfl))) ?_
      refine Tr.ret ?_
      (refine ⟨.inr rfl, ?_⟩; first | rfl | exact ⟨rfl, rfl, trivial⟩ | exact ⟨rfl, rfl, rfl, trivial⟩ | (simp only [Res, ResL, ResOK, ↓sxd, sxu, ↓zE, ↓zC, zK, ↓exP, ↓exq, ↓zB, St.keep, ↓zH, ↓zL, ↓zJ, ↓zD, ↓zN, ↓zM, ↓zO, ↓zG, ↓zA, Nat.reduceBEq, Nat.reduceAdd, Nat.reduceLT, Nat.reduceMul, Nat.reduceSub, Nat.reduceLeDiff, Nat.reduceEqDiff, Int.reduceLE, Int.reduceLT, Int.reduceToNat, reduceIte, implies_true, sxe, tysW51_18]; (repeat' (first | rfl | exact trivial | exact fun h => h | exact fun h => (by rw [h]; rfl) | apply And.intro | omega | exact Nat.le_of_ble_eq_true rfl))))
end Go.Proofs.YtcnkbdfkjhlbiaaDoor
