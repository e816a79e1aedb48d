/- Lemmas, part YCA. Conditions: none. -/
import Derived.Test.YtcnkbdfkjhlbiaaDoorXPBB
import Derived.Carry
set_option linter.unusedVariables false
namespace Go.Sy
theorem Ox_put (O : Nat → Prop) (a : Act) (dst : Option Tmp) (v : Value) : Ox O (a.put dst v) = Ox O a := by cases dst <;> rfl
section
variable {P : Program} {G : Nat → Option (List D)} {ro : Option Nat} {st : St} {Q : Exit → St → Prop}
end
end Go.Sy
namespace Go.Proofs.YtcnkbdfkjhlbiaaDoor
open Go.Sy
theorem ty.sz55 : tsz Tryd.prog 55 = some 2 := by kernel_rfl
theorem ty.agg55 : tagg Tryd.prog 55 = some true := by kernel_rfl
theorem ty.zero55 : tzero Tryd.prog 55 = some (SV.dx [] :: (SV.dx [] :: [])) := by kernel_rfl
theorem ty.fld55_0 : tfld Tryd.prog 55 0 = some (0, 1) := by kernel_rfl
theorem ty.fld55_1 : tfld Tryd.prog 55 1 = some (1, 1) := by kernel_rfl
theorem ty.pl55 : tplaces Tryd.prog 55 = some (fun i => ([(0, 1), (1, 1)] : List (Nat × Nat))[i]?) := by kernel_rfl
theorem ty.elem55 : telem Tryd.prog 55 = none := by kernel_rfl
theorem ty.sz77 : tsz Tryd.prog 77 = some 1 := by kernel_rfl
theorem ty.agg77 : tagg Tryd.prog 77 = some false := by kernel_rfl
theorem ty.zero77 : tzero Tryd.prog 77 = some (SV.d (.lit (.int .u16 0)) :: []) := by kernel_rfl
theorem ty.elem77 : telem Tryd.prog 77 = none := by kernel_rfl
theorem ty.und77 : Tryd.prog.underlying 77 = some (.int .u16) := by kernel_rfl
theorem ty.sz79 : tsz Tryd.prog 79 = some 1 := by kernel_rfl
theorem ty.agg79 : tagg Tryd.prog 79 = some false := by kernel_rfl
theorem ty.zero79 : tzero Tryd.prog 79 = some (SV.dx [] :: []) := by kernel_rfl
theorem ty.elem79 : telem Tryd.prog 79 = some 1 := by kernel_rfl
theorem ty.by79 : tby Tryd.prog 79 = some 2 := by kernel_rfl
theorem ty.ez79 : tez Tryd.prog 79 = some (SV.d (.lit (.int .u16 0)) :: []) := by kernel_rfl
theorem ty.und79 : Tryd.prog.underlying 79 = some (.slice 77) := by kernel_rfl
theorem ty.sz80 : tsz Tryd.prog 80 = some 1 := by kernel_rfl
theorem ty.agg80 : tagg Tryd.prog 80 = some false := by kernel_rfl
theorem ty.elem80 : telem Tryd.prog 80 = none := by kernel_rfl
end Go.Proofs.YtcnkbdfkjhlbiaaDoor
namespace Go.Sy
section
variable {P : Program} {G : Nat → Option (List D)} {O : Nat → Prop} {pb pl pl' : Nat → Option Pl} {w w' : World} {hp hp' : HpT} {nx nx' : Nat} {ok ok' : Nat → Prop} {r : Nat → Nat}
theorem Imp.trans {a b c : St} (h : Imp a b) (h' : Imp b c) : Imp a c := by
  intro G O M pb pl x w hR
  obtain ⟨pl1, h1, g1⟩ := h G O M pb pl x w hR
  obtain ⟨pl2, h2, g2⟩ := h' G O M pb pl1 x w h1
  exact ⟨pl2, h2, fun B hB => g1 B (g2 B hB)⟩
end
end Go.Sy
namespace Go.Proofs.YtcnkbdfkjhlbiaaDoor
open Go.Sy
abbrev SW (l : List Nat) : SV := .d (.sl (dW l))
end Go.Proofs.YtcnkbdfkjhlbiaaDoor
namespace Go.Proofs.YtcnkbdfkjhlbiaaDoor
open Go.Sy Go.Deep
section
variable {H : Type} {enc : TypeId × Value → H} {P : Program} {W : World} {spare : Nat → Bool}
theorem one_of {x : D} {v : Value} {pl : Nat → Option Pl} (hc : v.cells.toList = [v]) (h : DRs W [x] v.cells.toList) : SR pl (fun B => ¬ False) W (.d x) v := by
  obtain ⟨_, hd⟩ := h
  have := hd 0 (by simp)
  rw [hc] at this
  exact SR.d _ _ (this.ext (Ext.weak fun _ _ _ h => h))
theorem reads_u16 {t : TypeId} (hu : P.underlying t = some (.int .u16)) : Reads enc P W spare t 1 (fun n : Fin 65536 => [.lit (.int .u16 (n.val : Nat))]) := fun fuel cs x h => by
  obtain ⟨n, rfl, _, hw⟩ := DataW.trod_int hu h
  have hb := Go.bounds_u16 hw
  refine ⟨⟨n.toNat, by omega⟩, rfl, rfl, fun j hj => ?_⟩
  obtain rfl : j = 0 := by simp at hj; omega
  show DR _ W (.lit (.int .u16 ((n.toNat : Nat) : Int))) (.int .u16 n)
  rw [show ((n.toNat : Nat) : Int) = n by omega]
  exact DR.lit _ rfl
theorem rd79 : Reads enc Tryd.prog W spare 79 1 (fun l : List (Fin 65536) => [.sl (l.map fun n => [.lit (.int .u16 (n.val : Nat))])]) := reads_slice (e := 77) (n := 1) (by kernel_rfl) (by kernel_rfl) (by decide) (reads_u16 (by kernel_rfl))
theorem words_of {fuel : Nat} {v : Value} {x : DataW H × List MemPlace} {pl : Nat → Option Pl} (hc : v.cells.toList = [v]) (h : DataW.trod enc Tryd.prog W 0 spare true fuel 79 v.cells.toList = some x) : ∃ l : List Nat, (∀ n ∈ l, n < 65536) ∧ SR pl (fun B => ¬ False) W (SW l) v := by
  obtain ⟨l, _, h1⟩ := rd79 _ _ _ h
  refine ⟨l.map (·.val), fun n hn => ?_, ?_⟩
  · obtain ⟨m, _, rfl⟩ := List.mem_map.1 hn; exact m.isLt
  · rw [show SW (l.map (·.val)) = .d (.sl (l.map fun n => [.lit (.int .u16 (n.val : Nat))])) by simp [dW]]
    exact one_of hc h1
end
end Go.Proofs.YtcnkbdfkjhlbiaaDoor
namespace Go.Proofs.YtcnkbdfkjhlbiaaDoor
open Go.Sy
set_option maxRecDepth 8000
def Coding.runTo (c : Coding) (codes : List Int) : Nat → Option (List Int)
  | 0 => some [0, 0, 0]
  | n + 1 => match c.runTo codes n with
    | none => none
    | some es => if (c.next n es (codes.getD n 0)).2.2 then some (c.next n es (codes.getD n 0)).1.2 else none
theorem runTo_none {c : Coding} {codes : List Int} {k : Nat} (h : c.runTo codes k = none) : ∀ d, c.runTo codes (k + d) = none
  | 0 => h
  | d + 1 => by show c.runTo codes (k + d + 1) = none; rw [Coding.runTo, runTo_none h d]
def Coding.proves (c : Coding) (codes : List Int) : Bool := if c.check = 0 ∧ codes.length = c.cols ∧ codes.all isCode = true then (c.runTo codes codes.length).isSome else false
theorem prove_f {a : Int} {m n : Nat} {x : Bool} (h : ((a != 0) || ((m : Int) != (n : Int)) || !x) = false) : a = 0 ∧ m = n ∧ x = true := by
  simp only [Bool.or_eq_false_iff, bne_eq_false_iff_eq, Bool.not_eq_false'] at h
  exact ⟨h.1.1, by omega, h.2⟩
theorem prove_t {a : Int} {m n : Nat} {x : Bool} (h : ((a != 0) || ((m : Int) != (n : Int)) || !x) = true) : ¬ (a = 0 ∧ m = n ∧ x = true) := by
  rintro ⟨rfl, rfl, rfl⟩
  simp at h
abbrev tysW15_47 := And.intro ty.sz0 <| And.intro ty.agg0 <| And.intro ty.elem0 <| And.intro ty.sz3 <| And.intro ty.agg3 <| And.intro ty.elem3 <| And.intro ty.zero3 <| And.intro ty.und3 <| And.intro ty.sz4 <| And.intro ty.agg4 <| And.intro ty.elem4 <| And.intro ty.zero4 <| And.intro ty.und4 <| And.intro ty.sz31 <| And.intro ty.agg31 <| And.intro ty.elem31 <| And.intro ty.zero31 <| And.intro ty.und31 <| And.intro ty.sz39 <| And.intro ty.agg39 <| And.intro ty.elem39 <| And.intro ty.by39 <| And.intro ty.ez39 <| And.intro ty.zero39 <| And.intro ty.und39 <| And.intro ty.sz43 <| And.intro ty.agg43 <| And.intro ty.elem43 <| And.intro ty.by43 <| And.intro ty.ez43 <| And.intro ty.zero43 <| And.intro ty.und43 <| And.intro ty.sz59 <| And.intro ty.agg59 <| And.intro ty.fld59_0 <| And.intro ty.fld59_1 <| And.intro ty.elem59 <| And.intro ty.zero59 <| And.intro ty.pl59 <| And.intro ty.sz128 <| And.intro ty.agg128 <| And.intro ty.fld128_0 <| And.intro ty.fld128_1 <| And.intro ty.elem128 <| And.intro ty.zero128 <| And.intro ty.pl128 <| And.intro ty.sz130 <| And.intro ty.agg130 <| ty.elem130
theorem ProveSolution_c (c : Coding) (hs : c.codes.length < 4611686018427387904) (hw : c.wrong.length < 4611686018427387904) (codes : List Int) (hl : codes.length < 4611686018427387904) : CallP Tryd.prog G0 47 [c.s, SI codes] (B (c.proves codes)) := by
  refine CallP.body 47 [.tmp 4] Tryd.func47 (by kernel_rfl) rfl rfl rfl (by repeat' (first | exact Pure.d _ | exact Pure.dx _ | exact Pure.dp _ | exact fa_nil | refine fa_cons ?_ ?_ | refine Pure.agg ?_ | refine Pure.tup ?_ | refine Pure.clo ?_ ?_ | refine Pure.fp ?_ | exact Pure.mapd _ | assumption)) (by repeat' (first | exact Pure.d _ | exact Pure.dx _ | exact Pure.dp _ | exact fa_nil | refine fa_cons ?_ ?_ | refine Pure.agg ?_ | refine Pure.tup ?_ | refine Pure.clo ?_ ?_ | refine Pure.fp ?_ | exact Pure.mapd _ | assumption)) ?_
  refine Tr.reg [1, 2] (by
      simp only [↓sxd, sxu, ↓zE, ↓exq, St.keep, ↓zI, Nat.reduceBEq, Nat.reduceAdd, Nat.reduceLT, Nat.reduceEqDiff]
      (repeat' (first | rfl | exact trivial | exact fun h => h | exact fun h => (by rw [h]; rfl) | apply And.intro | omega | exact Nat.le_of_ble_eq_true rfl))) ?_
  refine Tr.seq ?_
  refine Tr.reg [1, 2, 28] (by
      simp only [↓sxd, sxu, ↓zE, ↓exq, St.keep, ↓zD, Nat.reduceBEq, Nat.reduceAdd, Nat.reduceLT, tysW15_47]
      (repeat ((with_reducible refine And.intro ?_ ?_); (focus (first | with_reducible rfl | trivial | exact fun h => h | exact fun h => (by rw [h]; rfl) | omega | assumption))))
      refine CallO.use (CheckCoding_c c hs hw) ?_
      try simp only [↓sxd, sxu, ↓zE, ↓exq, Nat.reduceLT]
      iterate 4
        (repeat ((with_reducible refine And.intro ?_ ?_); (focus (first | with_reducible rfl | trivial | exact fun h => h | exact fun h => (by rw [h]; rfl) | omega | assumption))))
        refine GdO.mk _ (fun hg => by simp only [sxu, ↓exq, ↓zB, ↓zJ, ↓zD, ↓zA, Nat.reduceBEq, Nat.reduceAdd, Nat.reduceLT, Nat.reduceEqDiff, sxe, tysW15_47, hg]; (repeat' (first | rfl | exact trivial | exact fun h => h | exact fun h => (by rw [h]; rfl) | apply And.intro | omega | exact Nat.le_of_ble_eq_true rfl))) ?_
        simp only [↓sxd, sxu, ↓zE, Nat.reduceBEq, Nat.reduceLT]
      (repeat ((with_reducible refine And.intro ?_ ?_); (focus (first | with_reducible rfl | trivial | exact fun h => h | exact fun h => (by rw [h]; rfl) | omega | assumption))))
      refine GdO.mk _ (fun hg => by
        have h0 : 0 < c.codes.length := (coding_ok (by simpa using hg)).2.1
        simp only [↓sxd, sxu, ↓exq, Int.reduceLE, sxe, tysW15_47, hg, h0]
        (repeat' (first | rfl | exact trivial | exact fun h => h | exact fun h => (by rw [h]; rfl) | apply And.intro | omega | exact Nat.le_of_ble_eq_true rfl))) ?_
      try simp only [↓sxd, sxu, ↓zE, Nat.reduceBEq, Nat.reduceLT]
      (repeat ((with_reducible refine And.intro ?_ ?_); (focus (first | with_reducible rfl | trivial | exact fun h => h | exact fun h => (by rw [h]; rfl) | omega | assumption))))
      refine GdO.mk _ (fun hg => by
        have h0 : 0 < c.codes.length := (coding_ok (by simpa using hg)).2.1
        simp only [sxu, ↓exq, ↓zD, Nat.reduceLT, tysW15_47, hg]
        (repeat' (first | rfl | exact trivial | exact fun h => h | exact fun h => (by rw [h]; rfl) | apply And.intro | omega | exact Nat.le_of_ble_eq_true rfl))) ?_
      try simp only [↓sxd, sxu, ↓zE, Nat.reduceBEq, Nat.reduceLT]
      iterate 3
        (repeat ((with_reducible refine And.intro ?_ ?_); (focus (first | with_reducible rfl | trivial | exact fun h => h | exact fun h => (by rw [h]; rfl) | omega | assumption))))
        refine GdO.mk _ (fun hg => by simp only [↓sxd, sxu, ↓exq, ↓zB, ↓zJ, Nat.reduceBEq, sxe, tysW15_47, hg]; (repeat' (first | rfl | exact trivial | exact fun h => h | exact fun h => (by rw [h]; rfl) | apply And.intro | omega | exact Nat.le_of_ble_eq_true rfl))) ?_
        simp only [↓sxd, sxu, ↓zE, ↓exq, ↓zH, Nat.reduceBEq, Nat.reduceLT]
      (repeat ((with_reducible refine And.intro ?_ ?_); (focus (first | with_reducible rfl | trivial | exact fun h => h | exact fun h => (by rw [h]; rfl) | omega | assumption))))
      refine GdO.mk _ (fun hg => by simp only [sxu, ↓exq, ↓zB, hg]; (repeat ((with_reducible refine And.intro ?_ ?_); (focus (first | with_reducible rfl | trivial | exact fun h => h | exact fun h => (by rw [h]; rfl) | omega | assumption)))); exact CallP.use (allI_c isCode codes hl 80 [] [] fa_nil fa_nil (fun x _ => code_c _ x)) ⟨rfl, rfl, rfl⟩) ?_
      simp only [↓sxd, sxu, ↓zE, Nat.reduceBEq, Nat.reduceLT]
      (repeat ((with_reducible refine And.intro ?_ ?_); (focus (first | with_reducible rfl | trivial | exact fun h => h | exact fun h => (by rw [h]; rfl) | omega | assumption))))
      refine GdO.mk _ (fun hg => by simp only [sxu, ↓exq, ↓zL, hg]; (repeat' (first | rfl | exact trivial | exact fun h => h | exact fun h => (by rw [h]; rfl) | apply And.intro | omega | exact Nat.le_of_ble_eq_true rfl))) ?_
      simp only [↓sxd, sxu, ↓zE, ↓exq, ↓zH, Nat.reduceBEq, Nat.reduceLT]
      (repeat' (first | rfl | exact trivial | exact fun h => h | exact fun h => (by rw [h]; rfl) | apply And.intro | omega | exact Nat.le_of_ble_eq_true rfl))) ?_
  refine Tr.cond rfl (fun h28 => ?_) (fun h28 => ?_)
  · have hf : c.proves codes = false := if_neg (fun hq => by have := prove_t h28; exact this hq)
    rw [hf]
    refine Tr.reg [4] (by
        simp only [↓sxd, sxu, ↓zE, ↓exq, St.keep, Nat.reduceLT]
        (repeat' (first | rfl | exact trivial | exact fun h => h | exact fun h => (by rw [h]; rfl) | apply And.intro | omega | exact Nat.le_of_ble_eq_true rfl))) ?_
    refine Tr.ret ?_
    (refine ⟨.inr rfl, ?_⟩; first | rfl | exact ⟨rfl, rfl, trivial⟩ | exact ⟨rfl, rfl, rfl, trivial⟩ | (simp only [Res, ResL, ResOK, ↓sxd, sxu, ↓zE, ↓zC, zK, ↓exP, ↓exq, ↓zB, St.keep, ↓zH, ↓zL, ↓zJ, ↓zD, ↓zN, ↓zM, ↓zI, ↓zA, Nat.reduceBEq, Nat.reduceAdd, Nat.reduceLT, Nat.reduceMul, Nat.reduceSub, Nat.reduceLeDiff, Nat.reduceEqDiff, Int.reduceLE, Int.reduceLT, Int.reduceToNat, reduceIte, implies_true, sxe, tysW15_47]; (repeat' (first | rfl | exact trivial | exact fun h => h | exact fun h => (by rw [h]; rfl) | apply And.intro | omega | exact Nat.le_of_ble_eq_true rfl))))
  · have hq : c.check = 0 ∧ codes.length = c.cols ∧ codes.all isCode = true := prove_f h28
    have hf : c.proves codes = (c.runTo codes codes.length).isSome := if_pos hq
    have ⟨hok, hn0, hc0⟩ := coding_ok hq.1
    refine Tr.skip ?_
    refine Tr.reg [1, 2, 5] (by
        simp only [↓sxd, sxu, ↓zE, ↓exq, St.keep, ↓zM, Nat.reduceBEq, Nat.reduceAdd, Nat.reduceLT, Nat.reduceEqDiff, tysW15_47]
        (repeat' (first | rfl | exact trivial | exact fun h => h | exact fun h => (by rw [h]; rfl) | apply And.intro | omega | exact Nat.le_of_ble_eq_true rfl))) ?_
    refine Tr.seq ?_
    refine Tr.reg [2, 5, 29, 30, 31] (by
        simp only [↓sxd, sxu, ↓zE, ↓exq, ↓zB, St.keep, ↓zJ, Nat.reduceBEq, Nat.reduceLT, sxe, tysW15_47]
        (repeat' (first | rfl | exact trivial | exact fun h => h | exact fun h => (by rw [h]; rfl) | apply And.intro | omega | exact Nat.le_of_ble_eq_true rfl))) ?_
    refine Tr.imp (st' := ⟨[(2, .ptr 0 0 0), (5, .ptr 1 0 0), (29, SI codes), (30, I codes.length), (31, I 0)], [(1, .arr 4 [sol 0 [0, 0, 0]]), (0, .arr 2 [[SL c.codes, SI c.wrong]])], 2, 47, [], 0⟩) (Imp.keepAll) (Tr.block (Tr.loopI (fun mm ss => ∃ (k : Nat) (e0 e1 e2 : Int), (k ≤ codes.length ∧ c.runTo codes k = some [e0, e1, e2]) ∧ codes.length - k = mm ∧ ss = ⟨[(2, .ptr 0 0 0), (5, .ptr 1 0 0), (29, SI codes), (30, I codes.length), (31, I k)], [(1, .arr 4 [sol k [e0, e1, e2]]), (0, .arr 2 [[SL c.codes, SI c.wrong]])], 2, 47, [], 0⟩) _ ⟨0, 0, 0, 0, ?_, rfl, rfl⟩ ?_))
    · exact ⟨Nat.zero_le _, rfl⟩
    rintro mm ss ⟨k, e0, e1, e2, hI, rfl, rfl⟩
    obtain ⟨hI, hrun⟩ := hI
    refine Tr.reg [2, 5, 29, 30, 31, 32] (by
        simp only [↓sxd, sxu, ↓zE, ↓exq, St.keep, Nat.reduceBEq, Nat.reduceLT, sxe]
        (repeat' (first | rfl | exact trivial | exact fun h => h | exact fun h => (by rw [h]; rfl) | apply And.intro | omega | exact Nat.le_of_ble_eq_true rfl))) ?_
    refine Tr.seq ?_
    refine Tr.cond rfl (fun h32 => ?_) (fun h32 => ?_)
    · have hlt : k < codes.length := by simpa using h32
      have hkc : k < c.cols := by omega
      obtain ⟨a0, a1, a2, hA⟩ := three (next_len c k [e0, e1, e2] rfl (codes.getD k 0))
      refine Tr.skip ?_
      refine Tr.seq ?_
      refine Tr.block ?_
      refine Tr.reg [2, 5, 7, 29, 30, 31] (by
          simp only [↓sxd, sxu, ↓zE, ↓exq, St.keep, ↓zD, Nat.reduceBEq, Nat.reduceLT, sxe, tysW15_47, hlt]
          (repeat' (first | rfl | exact trivial | exact fun h => h | exact fun h => (by rw [h]; rfl) | apply And.intro | omega | exact Nat.le_of_ble_eq_true rfl))) ?_
      refine Tr.reg [2, 5, 8, 10, 29, 30, 31] (by
          simp only [↓sxd, sxu, ↓zE, ↓exq, St.keep, ↓zD, Nat.reduceBEq, Nat.reduceAdd, Nat.reduceLT, tysW15_47]
          (repeat ((with_reducible refine And.intro ?_ ?_); (focus (first | with_reducible rfl | trivial | exact fun h => h | exact fun h => (by rw [h]; rfl) | omega | assumption))))
          refine CallO.use (next_c c hok k hkc e0 e1 e2 (codes.getD k 0)) ?_
          try simp only [↓sxd, sxu, ↓zE, ↓exq, ↓zN, ↓zM, Nat.reduceBEq, Nat.reduceAdd, Nat.reduceLT, Nat.reduceEqDiff, tysW15_47, hA]
          (repeat' (first | rfl | exact trivial | exact fun h => h | exact fun h => (by rw [h]; rfl) | apply And.intro | omega | exact Nat.le_of_ble_eq_true rfl))) ?_
      refine Tr.seq ?_
      refine Tr.reg [2, 5, 8, 29, 30, 31, 44] (by
          simp only [↓sxd, sxu, ↓zE, ↓exq, St.keep, ↓zL, Nat.reduceBEq, Nat.reduceLT]
          (repeat' (first | rfl | exact trivial | exact fun h => h | exact fun h => (by rw [h]; rfl) | apply And.intro | omega | exact Nat.le_of_ble_eq_true rfl))) ?_
      refine Tr.cond rfl (fun h44 => ?_) (fun h44 => ?_)
      · have hz : (c.next k [e0, e1, e2] (codes.getD k 0)).2.2 = false := by simpa using h44
        have hn1 : c.runTo codes (k + 1) = none := by rw [Coding.runTo, hrun]; simp only [hz]; rfl
        have hff : c.proves codes = false := by
          have := runTo_none hn1 (codes.length - (k + 1))
          rw [show k + 1 + (codes.length - (k + 1)) = codes.length by omega] at this
          rw [hf, this]; rfl
        rw [hff]
        refine Tr.reg [4] (by
            simp only [↓sxd, sxu, ↓zE, ↓exq, St.keep, Nat.reduceLT]
            (repeat' (first | rfl | exact trivial | exact fun h => h | exact fun h => (by rw [h]; rfl) | apply And.intro | omega | exact Nat.le_of_ble_eq_true rfl))) ?_
        refine Tr.ret ?_
        (refine ⟨.inr rfl, ?_⟩; first | rfl | exact ⟨rfl, rfl, trivial⟩ | exact ⟨rfl, rfl, rfl, trivial⟩ | (simp only [Res, ResL, ResOK, ↓sxd, sxu, ↓zE, ↓zC, zK, ↓exP, ↓exq, ↓zB, St.keep, ↓zH, ↓zL, ↓zJ, ↓zD, ↓zN, ↓zM, ↓zI, ↓zA, Nat.reduceBEq, Nat.reduceAdd, Nat.reduceLT, Nat.reduceMul, Nat.reduceSub, Nat.reduceLeDiff, Nat.reduceEqDiff, Int.reduceLE, Int.reduceLT, Int.reduceToNat, reduceIte, implies_true, sxe, tysW15_47]; (repeat' (first | rfl | exact trivial | exact fun h => h | exact fun h => (by rw [h]; rfl) | apply And.intro | omega | exact Nat.le_of_ble_eq_true rfl))))
      · have hz : (c.next k [e0, e1, e2] (codes.getD k 0)).2.2 = true := by simpa using h44
        have hn1 : c.runTo codes (k + 1) = some [a0, a1, a2] := by rw [Coding.runTo, hrun]; simp only [hz, if_true, hA]
        have hat := next_at c k [e0, e1, e2] (codes.getD k 0) hz
        rw [hat]
        refine Tr.skip ?_
        refine Tr.reg1 [2, 5, 29, 30, 31] (by
            simp only [↓sxd, sxu, ↓zE, ↓exq, St.keep, ↓zD, Nat.reduceBEq, Nat.reduceAdd, Nat.reduceLT, Nat.reduceEqDiff, tysW15_47]
            (repeat' (first | rfl | exact trivial | exact fun h => h | exact fun h => (by rw [h]; rfl) | apply And.intro | omega | exact Nat.le_of_ble_eq_true rfl))) ?_
        have w1 : IntKind.i64.wrap ((k : Int) + 1) = ((k + 1 : Nat) : Int) := by rw [wr (by omega) (by omega)]; rfl
        refine Tr.reg1 [2, 5, 29, 30, 31] (by
            simp only [↓sxd, sxu, ↓zE, ↓exq, St.keep, Nat.reduceBEq, Nat.reduceLT, w1]
            (repeat' (first | rfl | exact trivial | exact fun h => h | exact fun h => (by rw [h]; rfl) | apply And.intro | omega | exact Nat.le_of_ble_eq_true rfl))) ?_
        exact ⟨_, _, by omega, Imp.go (fun i => if i < 2 then i else i + 1) _ rfl rfl (.cons _ (.refl _)) (fun _ h => absurd h (Nat.not_lt_zero _)) (fun id h => by simp only [show ¬ id < 2 by omega, if_false]; omega) (by repeat' (first | exact TmT.cons rfl (TnS.d _) ?_ | exact trivial | exact F2.nil | refine F2.append ?_ ?_ | refine F2.map fun _ _ => ?_ | refine F2.cons ?_ ?_ | refine TmT.cons rfl ?_ ?_ | exact TnS.d _ | exact TnS.dx _ | exact TnS.dp _ | exact TnS.slc rfl | exact TnS.ptr rfl | refine TnS.frzf rfl (by simp) (by simp) (by simp) ?_ | refine TnS.frz0 rfl (by simp) (by simp) (by simp) ?_ | refine TnS.frzm rfl (by simp) ?_ | exact TnS.mapr rfl | exact TnS.yld rfl | refine ⟨rfl, ?_⟩ | refine TnO.arr ?_ | refine TnO.map ?_ | exact TnO.raw _ | exact TnO.iter _ _ | refine TnS.agg ?_ | refine TnS.tup ?_ | exact TnS.pure (Pure.clo (by assumption) (by assumption)) | refine TnS.clo ?_ ?_ | exact TnS.unk _ | exact TnS.pure (Pure.clo (by assumption) (by assumption)))) (by repeat' (first | exact TmT.cons rfl (TnS.d _) ?_ | exact trivial | exact F2.nil | refine F2.append ?_ ?_ | refine F2.map fun _ _ => ?_ | refine F2.cons ?_ ?_ | refine TmT.cons rfl ?_ ?_ | exact TnS.d _ | exact TnS.dx _ | exact TnS.dp _ | exact TnS.slc rfl | exact TnS.ptr rfl | refine TnS.frzf rfl (by simp) (by simp) (by simp) ?_ | refine TnS.frz0 rfl (by simp) (by simp) (by simp) ?_ | refine TnS.frzm rfl (by simp) ?_ | exact TnS.mapr rfl | exact TnS.yld rfl | refine ⟨rfl, ?_⟩ | refine TnO.arr ?_ | refine TnO.map ?_ | exact TnO.raw _ | exact TnO.iter _ _ | refine TnS.agg ?_ | refine TnS.tup ?_ | exact TnS.pure (Pure.clo (by assumption) (by assumption)) | refine TnS.clo ?_ ?_ | exact TnS.unk _ | exact TnS.pure (Pure.clo (by assumption) (by assumption)))) (fun _ => rfl), ⟨k + 1, a0, a1, a2, ⟨hlt, hn1⟩, rfl, rfl⟩⟩
    · have hge : k = codes.length := by simp at h32; omega
      have hff : c.proves codes = true := by rw [hf, ← hge, hrun]; rfl
      rw [hff]
      refine Tr.exit ?_
      refine Tr.reg [4] (by
          simp only [↓sxd, sxu, ↓zE, ↓exq, St.keep, Nat.reduceLT]
          (repeat' (first | rfl | exact trivial | exact fun h => h | exact fun h => (by rw [h]; rfl) | apply And.intro | omega | exact Nat.le_of_ble_eq_true rfl))) ?_
      refine Tr.ret ?_
      (refine ⟨.inr rfl, ?_⟩; first | rfl | exact ⟨rfl, rfl, trivial⟩ | exact ⟨rfl, rfl, rfl, trivial⟩ | (simp only [Res, ResL, ResOK, ↓sxd, sxu, ↓zE, ↓zC, zK, ↓exP, ↓exq, ↓zB, St.keep, ↓zH, ↓zL, ↓zJ, ↓zD, ↓zN, ↓zM, ↓zI, ↓zA, Nat.reduceBEq, Nat.reduceAdd, Nat.reduceLT, Nat.reduceMul, Nat.reduceSub, Nat.reduceLeDiff, Nat.reduceEqDiff, Int.reduceLE, Int.reduceLT, Int.reduceToNat, reduceIte, implies_true, sxe, tysW15_47]; (repeat' (first | rfl | exact trivial | exact fun h => h | exact fun h => (by rw [h]; rfl) | apply And.intro | omega | exact Nat.le_of_ble_eq_true rfl))))
end Go.Proofs.YtcnkbdfkjhlbiaaDoor
namespace Go.Proofs.YtcnkbdfkjhlbiaaDoor
open Go.Sy (aput)
set_option maxRecDepth 8000
theorem aput_look (m : Mem) (k k' : K4) (v : Int) : (aput m k v).lookup k' = if k' = k then some v else m.lookup k' := by
  induction m with
  | nil =>
    unfold aput
    rw [List.lookup_cons]
    by_cases h : k' = k
    · subst h; simp
    · rw [if_neg h, show (k' == k) = false by simpa using h]
  | cons e m ih =>
    obtain ⟨a, b⟩ := e
    by_cases hk : k = a
    · subst hk
      have e1 : aput ((k, b) :: m) k v = (k, v) :: m := by simp [aput]
      rw [e1]
      by_cases h : k' = k
      · subst h; simp
      · have hb : (k' == k) = false := by simpa using h
        simp only [List.lookup_cons, hb, if_neg h]
    · have e1 : aput ((a, b) :: m) k v = (a, b) :: aput m k v := by
        rw [aput, if_neg (by simpa using hk)]
      rw [e1]
      simp only [List.lookup_cons]
      by_cases h : k' = a
      · subst h
        simp only [beq_self_eq_true]
        rw [if_neg (fun hc => hk hc.symm)]
      · have hb : (k' == a) = false := by simpa using h
        simp only [hb, ih]
def off (c : Coding) (k p : Nat) (x : Int) : Nat := if (c.codes.getD k []).getD p 0 ≠ x then 1 else 0
def errsAt (c : Coding) (k : Nat) : Nat → List Int → Nat
  | _, [] => 0
  | p, x :: w => off c k p x + errsAt c k (p + 1) w
def sumTo (f : Nat → Nat) : Nat → Nat
  | 0 => 0
  | n + 1 => sumTo f n + f n
def totAt (c : Coding) (p : Nat) (w : List Int) : Nat := sumTo (fun k => errsAt c k p w) c.codes.length
def addAt (c : Coding) (p : Nat) (x : Int) : Nat := sumTo (fun k => off c k p x) c.codes.length
theorem sumTo_add (f g : Nat → Nat) : ∀ n, sumTo (fun k => f k + g k) n = sumTo f n + sumTo g n
  | 0 => rfl
  | n + 1 => by simp only [sumTo, sumTo_add f g n]; omega
theorem tot_cons (c : Coding) (p : Nat) (x : Int) (w : List Int) : totAt c p (x :: w) = addAt c p x + totAt c (p + 1) w := by
  unfold totAt addAt
  rw [← sumTo_add]; rfl
theorem tot_nil (c : Coding) (p : Nat) : totAt c p [] = 0 := by
  unfold totAt
  have : ∀ n, sumTo (fun _ => 0) n = 0 := by
    intro n
    induction n with
    | zero => rfl
    | succ n ih => simp only [sumTo, ih]
  exact this _
structure Comp (c : Coding) (p : Nat) (es : List Int) (w : List Int) : Prop where
  len : p + w.length = c.cols
  cod : ∀ x ∈ w, 0 ≤ x ∧ x ≤ 9
  few : ∀ k, k < c.codes.length → es.getD k 0 + errsAt c k p w ≤ c.wrong.getD k 0
structure Es (c : Coding) (p : Nat) (es : List Int) : Prop where
  len : es.length = 3
  bd : ∀ k, 0 ≤ es.getD k 0 ∧ es.getD k 0 ≤ p
theorem off_le (c : Coding) (k p : Nat) (x : Int) : off c k p x ≤ 1 := by unfold off; split <;> omega
theorem setE_get {l : List Int} {i k : Nat} {v : Int} (h : i < l.length) : (l.set i v).getD k 0 = if k = i then v else l.getD k 0 := by
  rw [setI_get]
  by_cases hk : k = i
  · rw [if_pos ⟨hk, h⟩, if_pos hk]
  · rw [if_neg (fun hc => hk hc.1), if_neg hk]
theorem nextTo_law {c : Coding} (hc : CodingOk c) {p : Nat} (hp : p ≤ 10) {es : List Int} (he : Es c p es) (x : Int) : ∀ n, n ≤ c.codes.length →
    (∀ k, (c.nextTo p es x n).1.getD k 0 = es.getD k 0 + if k < n then (off c k p x : Int) else 0) ∧ (c.nextTo p es x n).2 = (sumTo (fun k => off c k p x) n : Nat)
  | 0, _ => ⟨fun k => by simp [Coding.nextTo], rfl⟩
  | n + 1, hn => by
    obtain ⟨h1, h2⟩ := nextTo_law hc hp he x n (by omega)
    have hl : (c.nextTo p es x n).1.length = 3 := (nextTo_len c p es x n).trans he.len
    have hn3 : n < 3 := by have := hc.n3; omega
    have hs : sumTo (fun k => off c k p x) n ≤ n := by
      have : ∀ m, sumTo (fun k => off c k p x) m ≤ m := by
        intro m
        induction m with
        | zero => exact Nat.le_refl _
        | succ m ih => have := off_le c m p x; simp only [sumTo]; omega
      exact this n
    have hb := he.bd n
    rw [nextTo_succ]
    unfold Coding.nextStep
    have hv := h1 n
    rw [if_neg (Nat.lt_irrefl n)] at hv
    by_cases ho : (c.codes.getD n []).getD p 0 ≠ x
    · have ho1 : off c n p x = 1 := if_pos ho
      rw [if_pos ho, wr_id (by omega) (by omega), wr_id (by omega) (by omega)]
      refine ⟨fun k => ?_, ?_⟩
      · rw [setE_get (by omega)]
        by_cases hk : k = n
        · subst hk; rw [if_pos rfl, if_pos (by omega), hv, ho1]; omega
        · rw [if_neg hk, h1 k]
          by_cases hkn : k < n
          · rw [if_pos hkn, if_pos (by omega)]
          · rw [if_neg hkn, if_neg (by omega)]
      · show _ + 1 = _
        rw [h2, sumTo, ho1]; omega
    · have ho0 : off c n p x = 0 := if_neg ho
      rw [if_neg ho]
      refine ⟨fun k => ?_, ?_⟩
      · rw [h1 k]
        by_cases hk : k = n
        · subst hk; rw [if_neg (Nat.lt_irrefl _), if_pos (by omega), ho0]; rfl
        · by_cases hkn : k < n
          · rw [if_pos hkn, if_pos (by omega)]
          · rw [if_neg hkn, if_neg (by omega)]
      · rw [h2, sumTo, ho0]; rfl
def esNext (c : Coding) (p : Nat) (es : List Int) (x : Int) : List Int := (c.nextTo p es x c.codes.length).1
def OkNext (c : Coding) (p : Nat) (es : List Int) (x : Int) : Prop := ∀ k, k < c.codes.length → es.getD k 0 + off c k p x ≤ c.wrong.getD k 0
instance (c : Coding) (p : Nat) (es : List Int) (x : Int) : Decidable (OkNext c p es x) := by unfold OkNext; infer_instance
theorem esNext_get {c : Coding} (hc : CodingOk c) {p : Nat} (hp : p ≤ 10) {es : List Int} (he : Es c p es) (x : Int) (k : Nat) : (esNext c p es x).getD k 0 = es.getD k 0 + if k < c.codes.length then (off c k p x : Int) else 0 :=
  (nextTo_law hc hp he x _ (Nat.le_refl _)).1 k
theorem Es.next {c : Coding} (hc : CodingOk c) {p : Nat} (hp : p ≤ 10) {es : List Int} (he : Es c p es) (x : Int) : Es c (p + 1) (esNext c p es x) := by
  refine ⟨(nextTo_len c p es x _).trans he.len, fun k => ?_⟩
  rw [esNext_get hc hp he x k]
  have := he.bd k
  have := off_le c k p x
  split <;> omega
theorem next_law {c : Coding} (hc : CodingOk c) {p : Nat} (hp : p ≤ 10) {es : List Int} (he : Es c p es) (x : Int) :
    c.next p es x = if OkNext c p es x then (((p : Int) + 1, esNext c p es x), (addAt c p x : Int), true) else ((0, [0, 0, 0]), 0, false) := by
  have hok : (List.range c.codes.length).all (c.nextOk p es x) = decide (OkNext c p es x) := by
    rw [Bool.eq_iff_iff, List.all_eq_true, decide_eq_true_eq]
    have key : ∀ k, k < c.codes.length → (c.nextOk p es x k = true ↔ es.getD k 0 + off c k p x ≤ c.wrong.getD k 0) := fun k hk => by
      unfold Coding.nextOk
      rw [decide_eq_true_eq, (nextTo_law hc hp he x (k + 1) hk).1 k, if_pos (by omega)]
    exact ⟨fun h k hk => (key k hk).1 (h k (List.mem_range.2 hk)), fun h k hk => (key k (List.mem_range.1 hk)).2 (h k (List.mem_range.1 hk))⟩
  unfold Coding.next
  rw [hok]
  by_cases h : OkNext c p es x
  · rw [if_pos h, if_pos (decide_eq_true h), (nextTo_law hc hp he x _ (Nat.le_refl _)).2]; rfl
  · rw [if_neg h, if_neg (by simpa using h)]
theorem comp_cons {c : Coding} (hc : CodingOk c) {p : Nat} (hp : p ≤ 10) {es : List Int} (he : Es c p es) {x : Int} {w : List Int} : Comp c p es (x :: w) ↔ (0 ≤ x ∧ x ≤ 9) ∧ OkNext c p es x ∧ Comp c (p + 1) (esNext c p es x) w := by
  constructor
  · rintro ⟨h1, h2, h3⟩
    refine ⟨h2 x List.mem_cons_self, fun k hk => ?_, ?_⟩
    · have := h3 k hk
      simp only [errsAt] at this; omega
    · refine ⟨by rw [List.length_cons] at h1; omega, fun y hy => h2 y (List.mem_cons_of_mem _ hy), fun k hk => ?_⟩
      have := h3 k hk
      simp only [errsAt] at this
      rw [esNext_get hc hp he x k, if_pos hk]; omega
  · rintro ⟨h1, h2, h3⟩
    refine ⟨by rw [List.length_cons]; have := h3.len; omega, fun y hy => ?_, fun k hk => ?_⟩
    · rcases List.mem_cons.1 hy with rfl | hy
      · exact h1
      · exact h3.cod y hy
    · have := h3.few k hk
      rw [esNext_get hc hp he x k, if_pos hk] at this
      simp only [errsAt]; omega
def IsBest (c : Coding) (p : Nat) (es : List Int) (n : Int) : Prop :=
  (n = -1 ∧ ∀ w, ¬ Comp c p es w) ∨ (∃ w, Comp c p es w ∧ n = totAt c p w ∧ ∀ w', Comp c p es w' → n ≤ totAt c p w')
theorem IsBest.nn {c : Coding} {p : Nat} {es : List Int} {n : Int} (h : IsBest c p es n) : -1 ≤ n := by
  rcases h with ⟨rfl, _⟩ | ⟨w, _, rfl, _⟩ <;> omega
theorem IsBest.some {c : Coding} {p : Nat} {es : List Int} {n : Int} (h : IsBest c p es n) : n ≠ -1 ↔ ∃ w, Comp c p es w := by
  rcases h with ⟨rfl, h⟩ | ⟨w, hw, rfl, _⟩
  · exact ⟨fun h2 => absurd rfl h2, fun ⟨w, hw⟩ => absurd hw (h w)⟩
  · exact ⟨fun _ => ⟨w, hw⟩, fun _ => by omega⟩
theorem IsBest.bd {c : Coding} (hc : CodingOk c) {p : Nat} {es : List Int} {n : Int} (h : IsBest c p es n) : n ≤ 30 := by
  rcases h with ⟨rfl, _⟩ | ⟨w, hw, rfl, _⟩
  · omega
  · have h1 : ∀ (w : List Int) (k p : Nat), errsAt c k p w ≤ w.length := by
      intro w
      induction w with
      | nil => intro k p; exact Nat.le_refl _
      | cons x w ih => intro k p; have := ih k (p + 1); have := off_le c k p x; simp only [errsAt, List.length_cons]; omega
    have h2 : ∀ n, sumTo (fun k => errsAt c k p w) n ≤ n * w.length := by
      intro n
      induction n with
      | zero => simp [sumTo]
      | succ n ih => have := h1 w n p; simp only [sumTo, Nat.succ_mul]; omega
    have h3 := h2 c.codes.length
    have h4 := hw.len
    have h5 := hc.c10
    have h6 := hc.n3
    have : c.codes.length * w.length ≤ 3 * 10 := Nat.mul_le_mul h6 (by omega)
    unfold totAt; omega
structure MemOk (c : Coding) (m : Mem) : Prop where
  ok : ∀ p es n, p < c.cols → Es c p es → m.lookup (keyOf p es) = some n → IsBest c p es n
  shut : ∀ p es, p < c.cols → Es c p es → (m.lookup (keyOf p es)).isSome = true → ∀ x : Int, 0 ≤ x → x ≤ 9 → OkNext c p es x → p + 1 = c.cols ∨ (m.lookup (keyOf (p + 1) (esNext c p es x))).isSome = true
def Grows (m m' : Mem) : Prop := ∀ k, (m.lookup k).isSome = true → (m'.lookup k).isSome = true
theorem list3 {l l' : List Int} (h : l.length = 3) (h' : l'.length = 3) (h0 : l.getD 0 0 = l'.getD 0 0) (h1 : l.getD 1 0 = l'.getD 1 0) (h2 : l.getD 2 0 = l'.getD 2 0) : l = l' := by
  obtain ⟨a, b, d, rfl⟩ := three h
  obtain ⟨a', b', d', rfl⟩ := three h'
  simp only [List.getD_cons_zero, List.getD_cons_succ] at h0 h1 h2
  rw [h0, h1, h2]
theorem key_inj {p p' : Nat} {es es' : List Int} (h : es.length = 3) (h' : es'.length = 3) (hk : keyOf p es = keyOf p' es') : p = p' ∧ es = es' := by
  unfold keyOf at hk
  simp only [Prod.mk.injEq] at hk
  exact ⟨by omega, list3 h h' hk.2.1 hk.2.2.1 hk.2.2.2⟩
theorem solve_law {c : Coding} (hc : CodingOk c) : ∀ (f p : Nat) (es : List Int) (m : Mem), p + f = c.cols → Es c p es → (∀ k, k < c.codes.length → es.getD k 0 ≤ c.wrong.getD k 0) → MemOk c m →
    IsBest c p es (c.solveGo f p es m).1 ∧ MemOk c (c.solveGo f p es m).2 ∧ Grows m (c.solveGo f p es m).2 ∧ (p < c.cols → ((c.solveGo f p es m).2.lookup (keyOf p es)).isSome = true)
  | 0, p, es, m, hpf, he, hw, hm => by
    refine ⟨.inr ⟨[], ⟨by simpa using hpf, fun x hx => (by cases hx), fun k hk => by simpa [errsAt] using hw k hk⟩, by rw [tot_nil]; rfl, fun w' _ => by rw [Coding.solveGo]; omega⟩, hm, fun _ h => h, fun h => by omega⟩
  | f + 1, p, es, m, hpf, he, hw, hm => by
    have hp10 : p ≤ 10 := by have := hc.c10; omega
    rw [Coding.solveGo]
    cases hl : m.lookup (keyOf p es) with
    | some n => exact ⟨hm.ok p es n (by omega) he hl, hm, fun _ h => h, fun _ => by show (m.lookup (keyOf p es)).isSome = true; rw [hl]; rfl⟩
    | none =>
      show IsBest c p es ((List.range 10).foldl (solStep c (c.solveGo f (p + 1)) p es) (-1, m)).1 ∧ _
      have key : ∀ n, n ≤ 10 → ∀ x, x = (List.range n).foldl (solStep c (c.solveGo f (p + 1)) p es) (-1, m) →
          MemOk c x.2 ∧ Grows m x.2 ∧ (∀ y : Int, 0 ≤ y → y < n → OkNext c p es y → p + 1 = c.cols ∨ (x.2.lookup (keyOf (p + 1) (esNext c p es y))).isSome = true) ∧
          ((x.1 = -1 ∧ ∀ (y : Int) w, (0 ≤ y ∧ y < n) → ¬ Comp c p es (y :: w)) ∨ (∃ (y : Int) (w : List Int), Comp c p es (y :: w) ∧ x.1 = totAt c p (y :: w) ∧ ∀ (y' : Int) w', (0 ≤ y' ∧ y' < n) → Comp c p es (y' :: w') → x.1 ≤ totAt c p (y' :: w'))) := by
        intro n
        induction n with
        | zero =>
          rintro _ x rfl
          exact ⟨hm, fun _ h => h, fun y h1 h2 => by omega, .inl ⟨rfl, fun y w h => by omega⟩⟩
        | succ n ih =>
          rintro hn x rfl
          rw [List.range_succ, List.foldl_append]
          obtain ⟨a1, a2, a3, a4⟩ := ih (by omega) _ rfl
          generalize (List.range n).foldl (solStep c (c.solveGo f (p + 1)) p es) (-1, m) = x at a1 a2 a3 a4
          simp only [List.foldl_cons, List.foldl_nil]
          unfold solStep
          rw [next_law hc hp10 he (n : Int)]
          by_cases hok : OkNext c p es (n : Int)
          · rw [if_pos hok]
            simp only [if_true]
            have he' := he.next hc hp10 (n : Int)
            obtain ⟨b1, b2, b3, b4⟩ := solve_law hc f (p + 1) (esNext c p es n) x.2 (by omega) he' (fun k hk => by
              rw [esNext_get hc hp10 he, if_pos hk]; exact hok k hk) a1
            generalize c.solveGo f (p + 1) (esNext c p es n) x.2 = y at b1 b2 b3 b4
            have hcc : ∀ w, Comp c p es ((n : Int) :: w) ↔ Comp c (p + 1) (esNext c p es n) w := fun w => by
              rw [comp_cons hc hp10 he]
              exact ⟨fun h => h.2.2, fun h => ⟨by omega, hok, h⟩⟩
            refine ⟨b2, fun k hk => b3 k (a2 k hk), fun z z1 z2 z3 => ?_, ?_⟩
            · by_cases hz : z = n
              · subst hz
                by_cases hl : p + 1 = c.cols
                · exact .inl hl
                · exact .inr (b4 (by omega))
              · rcases a3 z z1 (by omega) z3 with h | h
                · exact .inl h
                · exact .inr (b3 _ h)
            · have hbd := b1.bd hc
              have hnn := b1.nn
              have hsum : addAt c p n ≤ 3 := by
                have : ∀ m, sumTo (fun k => off c k p n) m ≤ m := by
                  intro m
                  induction m with
                  | zero => exact Nat.le_refl _
                  | succ m ih => have := off_le c m p n; simp only [sumTo]; omega
                have := this c.codes.length
                have := hc.n3
                unfold addAt; omega
              rw [wr_id (by omega) (by omega)]
              rcases b1 with ⟨c1, c2⟩ | ⟨w, c1, c2, c3⟩
              · rw [if_neg (by rw [c1]; exact fun h => h.1 rfl)]
                have hno : ∀ w, ¬ Comp c p es ((n : Int) :: w) := fun w h => c2 w ((hcc w).1 h)
                rcases a4 with ⟨d1, d2⟩ | ⟨z, w, d1, d2, d3⟩
                · refine .inl ⟨d1, fun z w hz hcp => ?_⟩
                  by_cases hzn : z = n
                  · subst hzn; exact hno w hcp
                  · exact d2 z w (by omega) hcp
                · refine .inr ⟨z, w, d1, d2, fun z' w' hz hcp => ?_⟩
                  by_cases hzn : z' = n
                  · subst hzn; exact absurd hcp (hno w')
                  · exact d3 z' w' (by omega) hcp
              · have hne : y.1 ≠ -1 := by omega
                have hval : y.1 + (addAt c p n : Int) = totAt c p ((n : Int) :: w) := by rw [tot_cons, c2]; omega
                have hmin : ∀ w', Comp c p es ((n : Int) :: w') → y.1 + (addAt c p n : Int) ≤ totAt c p ((n : Int) :: w') := fun w' h => by
                  have := c3 w' ((hcc w').1 h)
                  rw [tot_cons]; omega
                by_cases hcond : x.1 = -1 ∨ y.1 + (addAt c p n : Int) < x.1
                · rw [if_pos ⟨hne, hcond⟩]
                  refine .inr ⟨n, w, (hcc w).2 c1, hval, fun z' w' hz hcp => ?_⟩
                  by_cases hzn : z' = n
                  · subst hzn; exact hmin w' hcp
                  · rcases a4 with ⟨d1, d2⟩ | ⟨z, w2, d1, d2, d3⟩
                    · exact absurd hcp (d2 z' w' (by omega))
                    · have := d3 z' w' (by omega) hcp
                      rcases hcond with h | h
                      · omega
                      · show y.1 + (addAt c p n : Int) ≤ _; omega
                · rw [if_neg (fun h => hcond h.2)]
                  rcases a4 with ⟨d1, d2⟩ | ⟨z, w2, d1, d2, d3⟩
                  · exact absurd (.inl d1) hcond
                  · refine .inr ⟨z, w2, d1, d2, fun z' w' hz hcp => ?_⟩
                    by_cases hzn : z' = n
                    · subst hzn
                      have := hmin w' hcp
                      have : ¬ (y.1 + (addAt c p n : Int) < x.1) := fun h => hcond (.inr h)
                      show x.1 ≤ _
                      omega
                    · exact d3 z' w' (by omega) hcp
          · rw [if_neg hok]
            simp only [Bool.false_eq_true, if_false]
            have hno : ∀ w, ¬ Comp c p es ((n : Int) :: w) := fun w h => hok ((comp_cons hc hp10 he).1 h).2.1
            refine ⟨a1, a2, fun z z1 z2 z3 => ?_, ?_⟩
            · by_cases hz : z = n
              · subst hz; exact absurd z3 hok
              · exact a3 z z1 (by omega) z3
            · rcases a4 with ⟨d1, d2⟩ | ⟨z, w, d1, d2, d3⟩
              · refine .inl ⟨d1, fun z w hz hcp => ?_⟩
                by_cases hzn : z = n
                · subst hzn; exact hno w hcp
                · exact d2 z w (by omega) hcp
              · refine .inr ⟨z, w, d1, d2, fun z' w' hz hcp => ?_⟩
                by_cases hzn : z' = n
                · subst hzn; exact absurd hcp (hno w')
                · exact d3 z' w' (by omega) hcp
      obtain ⟨a1, a2, a3, a4⟩ := key 10 (Nat.le_refl _) _ rfl
      generalize (List.range 10).foldl (solStep c (c.solveGo f (p + 1)) p es) (-1, m) = x at a1 a2 a3 a4
      have hdone : ∀ w, Comp c p es w → ∃ y v, w = y :: v ∧ 0 ≤ y ∧ y < 10 := fun w hw => by
        cases w with
        | nil => have := hw.len; simp at this; omega
        | cons y v => have := hw.cod y List.mem_cons_self; exact ⟨y, v, rfl, by omega, by omega⟩
      have hbest : IsBest c p es x.1 := by
        rcases a4 with ⟨d1, d2⟩ | ⟨z, w, d1, d2, d3⟩
        · refine .inl ⟨d1, fun w hw => ?_⟩
          obtain ⟨y, v, rfl, h1, h2⟩ := hdone w hw
          exact d2 y v ⟨h1, h2⟩ hw
        · refine .inr ⟨_, d1, d2, fun w' hw' => ?_⟩
          obtain ⟨y, v, rfl, h1, h2⟩ := hdone w' hw'
          exact d3 y v ⟨h1, h2⟩ hw'
      refine ⟨hbest, ⟨fun p' es' n h1 h2 h3 => ?_, fun p' es' h1 h2 h3 y y1 y2 y3 => ?_⟩, fun k hk => ?_, fun _ => ?_⟩
      · rw [aput_look] at h3
        by_cases hk : keyOf p' es' = keyOf p es
        · rw [if_pos hk] at h3
          obtain ⟨rfl, rfl⟩ := key_inj h2.len he.len hk
          obtain rfl := Option.some.inj h3
          exact hbest
        · rw [if_neg hk] at h3
          exact a1.ok p' es' n h1 h2 h3
      · rw [aput_look] at h3
        by_cases hk : keyOf p' es' = keyOf p es
        · obtain ⟨rfl, rfl⟩ := key_inj h2.len he.len hk
          rcases a3 y y1 (by omega) y3 with h | h
          · exact .inl h
          · refine .inr ?_
            rw [aput_look]
            split
            · rfl
            · exact h
        · rw [if_neg hk] at h3
          rcases a1.shut p' es' h1 h2 h3 y y1 y2 y3 with h | h
          · exact .inl h
          · refine .inr ?_
            rw [aput_look]
            split
            · rfl
            · exact h
      · show ((aput x.2 (keyOf p es) x.1).lookup k).isSome = true
        rw [aput_look]
        split
        · rfl
        · exact a2 k hk
      · show ((aput x.2 (keyOf p es) x.1).lookup (keyOf p es)).isSome = true
        rw [aput_look, if_pos rfl]; rfl
end Go.Proofs.YtcnkbdfkjhlbiaaDoor
namespace Go.Proofs.YtcnkbdfkjhlbiaaDoor
open Go.Sy (aput)
set_option maxRecDepth 8000
inductive Pre (c : Coding) : Nat → List Int → List Int → Prop
  | nil : Pre c 0 [] e000
  | snoc {p : Nat} {v es : List Int} {x : Int} (h : Pre c p v es) (h1 : 0 ≤ x ∧ x ≤ 9) (h2 : OkNext c p es x) : Pre c (p + 1) (v ++ [x]) (esNext c p es x)
structure CodingFine (c : Coding) : Prop where
  ok : CodingOk c
  n0 : 0 < c.codes.length
  c0 : 0 < c.cols
  wr : ∀ k, k < c.codes.length → 0 ≤ c.wrong.getD k 0 ∧ c.wrong.getD k 0 ≤ 10
  cd : ∀ k, k < c.codes.length → (c.codes.getD k []).all isCode = true
theorem coding_fine {c : Coding} (h : c.check = 0) : CodingFine c := by
  obtain ⟨h1, h2, h3⟩ := coding_ok h
  have hr : ∀ k, k < c.codes.length → c.row k = true := fun k hk => by
    unfold Coding.check at h
    split at h
    · cases h
    · split at h
      · cases h
      · split at h
        · rename_i g; exact List.all_eq_true.1 g k (List.mem_range.2 hk)
        · cases h
  refine ⟨h1, h2, h3, fun k hk => ?_, fun k hk => ?_⟩
  · have := hr k hk
    simp only [Coding.row, within, Bool.and_eq_true, decide_eq_true_eq] at this
    omega
  · have := hr k hk
    simp only [Coding.row, Bool.and_eq_true] at this
    exact this.1.2
theorem es000 (c : Coding) : Es c 0 e000 := ⟨rfl, fun k => by
  have : e000.getD k 0 = 0 := by
    match k with
    | 0 => rfl
    | 1 => rfl
    | 2 => rfl
    | k + 3 => rfl
  rw [this]; omega⟩
theorem e000_get (k : Nat) : e000.getD k 0 = 0 := by
  match k with
  | 0 => rfl
  | 1 => rfl
  | 2 => rfl
  | k + 3 => rfl
theorem Pre.es {c : Coding} (hf : CodingFine c) {p : Nat} {v es : List Int} (h : Pre c p v es) (hp : p ≤ c.cols) : Es c p es ∧ v.length = p := by
  induction h with
  | nil => exact ⟨es000 c, rfl⟩
  | @snoc p v es x h h1 h2 ih =>
    obtain ⟨a, b⟩ := ih (by omega)
    have := hf.ok.c10
    exact ⟨a.next hf.ok (by omega) x, by rw [List.length_append, b]; rfl⟩
theorem Pre.few {c : Coding} (hf : CodingFine c) {p : Nat} {v es : List Int} (h : Pre c p v es) (hp : p ≤ c.cols) : ∀ k, k < c.codes.length → es.getD k 0 ≤ c.wrong.getD k 0 := by
  intro k hk
  cases h with
  | nil => rw [e000_get]; exact (hf.wr k hk).1
  | @snoc p v es x h h1 h2 =>
    have he := (h.es hf (by omega)).1
    have := hf.ok.c10
    rw [esNext_get hf.ok (by omega) he, if_pos hk]
    exact h2 k hk
theorem comp_split {c : Coding} (hf : CodingFine c) : ∀ (n : Nat) (v w : List Int), v.length = n → n ≤ c.cols → (Comp c 0 e000 (v ++ w) ↔ ∃ es, Pre c n v es ∧ Comp c n es w) := by
  intro n
  induction n with
  | zero =>
    intro v w hv _
    obtain rfl := List.length_eq_zero_iff.1 hv
    constructor
    · intro h; exact ⟨_, .nil, h⟩
    · rintro ⟨es, h1, h2⟩
      cases h1 with
      | nil => exact h2
  | succ n ih =>
    intro v w hv hn
    have h10 := hf.ok.c10
    have hvne : v ≠ [] := fun hc => by rw [hc] at hv; cases hv
    obtain ⟨u, x, rfl⟩ : ∃ u x, v = u ++ [x] := ⟨v.dropLast, v.getLast hvne, (List.dropLast_concat_getLast hvne).symm⟩
    have hu : u.length = n := by simpa using hv
    rw [show u ++ [x] ++ w = u ++ (x :: w) by simp, ih u (x :: w) hu (by omega)]
    constructor
    · rintro ⟨es, h1, h2⟩
      have he := (h1.es hf (by omega)).1
      obtain ⟨a, b, d⟩ := (comp_cons hf.ok (by omega) he).1 h2
      exact ⟨_, .snoc h1 a b, d⟩
    · rintro ⟨es, h1, h2⟩
      generalize hz : u ++ [x] = z at h1
      generalize hm : n + 1 = m at h1
      cases h1 with
      | nil => cases hm
      | @snoc p v' es' y g1 g2 g3 =>
        obtain ⟨rfl, h3⟩ := List.append_inj' hz rfl
        simp only [List.cons.injEq, and_true] at h3
        subst h3
        have : p = n := by omega
        subst this
        have he := (g1.es hf (by omega)).1
        exact ⟨es', g1, (comp_cons hf.ok (by omega) he).2 ⟨g2, g3, by rw [← hm] at h2; exact h2⟩⟩
theorem root_law {c : Coding} (hf : CodingFine c) : IsBest c 0 e000 c.root.1 ∧ MemOk c c.root.2 ∧ (c.root.2.lookup (keyOf 0 e000)).isSome = true := by
  have h := solve_law hf.ok c.cols 0 e000 [] (by omega) (es000 c) (fun k hk => by rw [e000_get]; exact (hf.wr k hk).1)
    ⟨fun p es n _ _ h => (by cases h), fun p es _ _ h => (by cases h)⟩
  exact ⟨h.1, h.2.1, h.2.2.2 hf.c0⟩
theorem Pre.known {c : Coding} (hf : CodingFine c) {p : Nat} {v es : List Int} (h : Pre c p v es) (hp : p < c.cols) : (c.root.2.lookup (keyOf p es)).isSome = true := by
  obtain ⟨_, r2, r3⟩ := root_law hf
  induction h with
  | nil => exact r3
  | @snoc p v es x h h1 h2 ih =>
    rcases r2.shut p es (by omega) (h.es hf (by omega)).1 (ih (by omega)) x h1.1 h1.2 h2 with h3 | h3
    · omega
    · exact h3
theorem goes_iff {c : Coding} (hf : CodingFine c) {p : Nat} {v es : List Int} (h : Pre c p v es) (hp : p ≤ c.cols) : c.goes c.root.2 p es = true ↔ ∃ w, Comp c p es w := by
  unfold Coding.goes
  by_cases hl : p = c.cols
  · rw [decide_eq_true hl, Bool.true_or]
    exact ⟨fun _ => ⟨[], by simpa using hl, fun x hx => (by cases hx), fun k hk => by simpa [errsAt] using h.few hf hp k hk⟩, fun _ => rfl⟩
  · rw [decide_eq_false hl, Bool.false_or]
    obtain ⟨n, hn⟩ := Option.isSome_iff_exists.1 (h.known hf (by omega))
    have := (root_law hf).2.1.ok p es n (by omega) (h.es hf hp).1 hn
    rw [hn]
    simp only [bne_iff_ne]
    exact this.some
theorem next_pre {c : Coding} (hf : CodingFine c) {p : Nat} {v es : List Int} (h : Pre c p v es) (hp : p < c.cols) {x : Int} (hx : 0 ≤ x ∧ x ≤ 9) : ((c.next p es x).2.2 && c.goes c.root.2 (p + 1) (c.next p es x).1.2) = true ↔ OkNext c p es x ∧ ∃ w, Comp c (p + 1) (esNext c p es x) w := by
  have he := (h.es hf (by omega)).1
  have h10 := hf.ok.c10
  rw [next_law hf.ok (by omega) he]
  by_cases ho : OkNext c p es x
  · rw [if_pos ho]
    show (true && c.goes c.root.2 (p + 1) (esNext c p es x)) = true ↔ _
    rw [Bool.true_and, goes_iff hf (.snoc h hx ho) (by omega)]
    exact ⟨fun h => ⟨ho, h⟩, fun h => h.2⟩
  · rw [if_neg ho]
    simp [ho]
theorem next_pre2 {c : Coding} (hf : CodingFine c) {p : Nat} {v es : List Int} (h : Pre c p v es) (hp : p < c.cols) {x : Int} (ho : (c.next p es x).2.2 = true) : (c.next p es x).1.2 = esNext c p es x := by
  have he := (h.es hf (by omega)).1
  have h10 := hf.ok.c10
  rw [next_law hf.ok (by omega) he] at ho ⊢
  by_cases ho2 : OkNext c p es x
  · rw [if_pos ho2]
  · rw [if_neg ho2] at ho; cases ho
theorem mem_stTo {c : Coding} (hf : CodingFine c) (hs : ∃ w, Comp c 0 e000 w) : ∀ p, p ≤ c.cols → ∀ es, es ∈ c.stTo c.root.2 p ↔ ∃ v, Pre c p v es ∧ ∃ w, Comp c p es w
  | 0, _, es => by
    unfold Coding.stTo
    rw [List.mem_singleton]
    constructor
    · rintro rfl; exact ⟨[], .nil, hs⟩
    · rintro ⟨v, h, _⟩
      cases h with
      | nil => rfl
  | p + 1, hp, es => by
    have ih := mem_stTo hf hs p (by omega)
    unfold Coding.stTo
    rw [List.mem_flatMap]
    constructor
    · rintro ⟨es0, h1, h2⟩
      obtain ⟨v, h3, w, h4⟩ := (ih es0).1 h1
      obtain ⟨code, h5, h6⟩ := List.mem_filterMap.1 h2
      rw [List.mem_range] at h5
      split at h6
      · rename_i hg
        have hx : (0 : Int) ≤ (code : Int) ∧ (code : Int) ≤ 9 := by omega
        obtain ⟨a, b⟩ := (next_pre hf h3 (by omega) hx).1 hg
        rw [Bool.and_eq_true] at hg
        rw [next_pre2 hf h3 (by omega) hg.1] at h6
        obtain rfl := Option.some.inj h6
        exact ⟨_, .snoc h3 hx a, b⟩
      · cases h6
    · rintro ⟨v, h, w, hw⟩
      generalize hm : p + 1 = m at h
      cases h with
      | nil => cases hm
      | @snoc p' v' es' x g1 g2 g3 =>
        have : p' = p := by omega
        subst this
        have hn := (next_pre hf g1 (by omega) g2).2 ⟨g3, w, hw⟩
        refine ⟨es', (ih es').2 ⟨v', g1, x :: w, (comp_cons hf.ok (by have := hf.ok.c10; omega) (g1.es hf (by omega)).1).2 ⟨g2, g3, hw⟩⟩, List.mem_filterMap.2 ⟨x.toNat, List.mem_range.2 (by omega), ?_⟩⟩
        have ex : ((x.toNat : Nat) : Int) = x := by omega
        rw [ex, if_pos hn]
        rw [Bool.and_eq_true] at hn
        rw [next_pre2 hf g1 (by omega) hn.1]
theorem canAt_iff {c : Coding} (hf : CodingFine c) (hs : ∃ w, Comp c 0 e000 w) {p : Nat} (hp : p < c.cols) {x : Nat} (hx : x < 10) : c.canAt c.root.2 p x = true ↔ ∃ u, Comp c 0 e000 u ∧ u.getD p 0 = (x : Int) := by
  unfold Coding.canAt
  rw [List.any_eq_true]
  have hx9 : (0 : Int) ≤ (x : Int) ∧ (x : Int) ≤ 9 := by omega
  have h10 := hf.ok.c10
  constructor
  · rintro ⟨es, h1, h2⟩
    obtain ⟨v, h3, _⟩ := (mem_stTo hf hs p (by omega) es).1 h1
    obtain ⟨a, w, b⟩ := (next_pre hf h3 hp hx9).1 h2
    obtain ⟨he, hv⟩ := h3.es hf (by omega)
    refine ⟨v ++ ((x : Int) :: w), (comp_split hf p v _ hv (by omega)).2 ⟨es, h3, (comp_cons hf.ok (by omega) he).2 ⟨hx9, a, b⟩⟩, ?_⟩
    rw [getD_app_r (by omega), hv, Nat.sub_self]; rfl
  · rintro ⟨u, h1, h2⟩
    have hl := h1.len
    have hu : u = u.take p ++ u.drop p := (List.take_append_drop p u).symm
    have hd : u.drop p = u.getD p 0 :: u.drop (p + 1) := drop_cons (by omega)
    have htl : (u.take p).length = p := by rw [List.length_take]; omega
    rw [hu, hd, h2] at h1
    obtain ⟨es, h3, h4⟩ := (comp_split hf p _ _ htl (by omega)).1 h1
    obtain ⟨_, a, b⟩ := (comp_cons hf.ok (by omega) (h3.es hf (by omega)).1).1 h4
    exact ⟨es, (mem_stTo hf hs p (by omega) es).2 ⟨_, h3, _, h4⟩, (next_pre hf h3 hp hx9).2 ⟨a, _, b⟩⟩
theorem ctried_iff {c : Coding} (hf : CodingFine c) : c.goes c.root.2 0 e000 = true ↔ ∃ w, Comp c 0 e000 w := goes_iff hf .nil (by omega)
theorem errors_law {c : Coding} (hf : CodingFine c) (hs : ∃ w, Comp c 0 e000 w) : ∃ w, Comp c 0 e000 w ∧ (c.root.2.lookup (keyOf 0 e000)).getD 0 = totAt c 0 w ∧ ∀ w', Comp c 0 e000 w' → totAt c 0 w ≤ totAt c 0 w' := by
  obtain ⟨_, r2, r3⟩ := root_law hf
  obtain ⟨n, hn⟩ := Option.isSome_iff_exists.1 r3
  rw [hn]
  rcases r2.ok 0 e000 n hf.c0 (es000 c) hn with ⟨_, h⟩ | ⟨w, h1, h2, h3⟩
  · obtain ⟨w, hw⟩ := hs; exact absurd hw (h w)
  · exact ⟨w, h1, h2, fun w' hw' => by have := h3 w' hw'; omega⟩
theorem runTo_law {c : Coding} (hf : CodingFine c) (v : List Int) (hv : v.length = c.cols) (hc : ∀ x ∈ v, 0 ≤ x ∧ x ≤ 9) : ∀ n, n ≤ c.cols → ((∃ es, c.runTo v n = some es ∧ Pre c n (v.take n) es) ∨ (c.runTo v n = none ∧ ¬ ∃ es, Pre c n (v.take n) es))
  | 0, _ => .inl ⟨e000, rfl, by simpa using Pre.nil⟩
  | n + 1, hn => by
    have h10 := hf.ok.c10
    have ht : v.take (n + 1) = v.take n ++ [v.getD n 0] := by
      rw [List.take_succ_eq_append_getElem (by omega)]
      simp [List.getD_eq_getElem?_getD, show n < v.length by omega]
    have hx := hc (v.getD n 0) (getD_mem (by omega))
    have hinv : ∀ es, Pre c (n + 1) (v.take (n + 1)) es → ∃ es', Pre c n (v.take n) es' ∧ OkNext c n es' (v.getD n 0) := fun es h => by
      rw [ht] at h
      generalize hz : v.take n ++ [v.getD n 0] = z at h
      generalize hm : n + 1 = m at h
      cases h with
      | nil => cases hm
      | @snoc p v' es' y g1 g2 g3 =>
        obtain ⟨h5, h6⟩ := List.append_inj' hz rfl
        simp only [List.cons.injEq, and_true] at h6
        have : p = n := by omega
        subst this
        subst h5
        exact ⟨es', g1, by rw [h6]; exact g3⟩
    have huniq : ∀ (m : Nat) (u a b : List Int), Pre c m u a → Pre c m u b → a = b := by
      intro m u a b ha
      induction ha generalizing b with
      | nil => intro hb; cases hb with | nil => rfl
      | @snoc p u es x h h1 h2 ih =>
        intro hb
        generalize hz : u ++ [x] = z at hb
        generalize hm : p + 1 = m at hb
        cases hb with
        | nil => cases hm
        | @snoc p' u' es' y g1 g2 g3 =>
          obtain ⟨h5, h6⟩ := List.append_inj' hz rfl
          simp only [List.cons.injEq, and_true] at h6
          have : p' = p := by omega
          subst this
          subst h5
          rw [ih es' g1, h6]
    rcases runTo_law hf v hv hc n (by omega) with ⟨es, h1, h2⟩ | ⟨h1, h2⟩
    · have he := (h2.es hf (by omega)).1
      have hnx := next_law hf.ok (show n ≤ 10 by omega) he (v.getD n 0)
      by_cases ho : OkNext c n es (v.getD n 0)
      · rw [if_pos ho] at hnx
        refine .inl ⟨esNext c n es (v.getD n 0), ?_, by rw [ht]; exact .snoc h2 hx ho⟩
        rw [Coding.runTo, h1]
        simp only [hnx, if_true]
      · rw [if_neg ho] at hnx
        refine .inr ⟨?_, fun ⟨es', h⟩ => ?_⟩
        · rw [Coding.runTo, h1]
          simp only [hnx, Bool.false_eq_true, if_false]
        · obtain ⟨es2, g1, g2⟩ := hinv es' h
          rw [huniq _ _ _ _ g1 h2] at g2
          exact ho g2
    · refine .inr ⟨by rw [Coding.runTo, h1], fun ⟨es', h⟩ => ?_⟩
      obtain ⟨es2, g1, _⟩ := hinv es' h
      exact h2 ⟨es2, g1⟩
theorem proves_law {c : Coding} {v : List Int} : c.proves v = true ↔ c.check = 0 ∧ Comp c 0 e000 v := by
  unfold Coding.proves
  by_cases h : c.check = 0 ∧ v.length = c.cols ∧ v.all isCode = true
  · rw [if_pos h]
    have hf := coding_fine h.1
    have hcd : ∀ x ∈ v, 0 ≤ x ∧ x ≤ 9 := fun x hx => by
      have := List.all_eq_true.1 h.2.2 x hx
      simpa [isCode] using this
    have hsp := comp_split hf c.cols v [] h.2.1 (Nat.le_refl _)
    rw [List.append_nil] at hsp
    have hrun := runTo_law hf v h.2.1 hcd c.cols (Nat.le_refl _)
    rw [List.take_of_length_le (by omega)] at hrun
    rw [h.2.1]
    rcases hrun with ⟨es, h1, h2⟩ | ⟨h1, h2⟩
    · rw [h1]
      refine ⟨fun _ => ⟨h.1, hsp.2 ⟨es, h2, by simp, fun x hx => (by cases hx), fun k hk => by simpa [errsAt] using h2.few hf (Nat.le_refl _) k hk⟩⟩, fun _ => rfl⟩
    · rw [h1]
      refine ⟨fun hc => (by cases hc), fun hc => ?_⟩
      obtain ⟨es, g1, _⟩ := hsp.1 hc.2
      exact absurd ⟨es, g1⟩ h2
  · rw [if_neg h]
    refine ⟨fun hc => (by cases hc), fun hc => absurd ⟨hc.1, by have := hc.2.len; omega, ?_⟩ h⟩
    rw [List.all_eq_true]
    intro x hx
    have := hc.2.cod x hx
    simpa [isCode] using this
end Go.Proofs.YtcnkbdfkjhlbiaaDoor
namespace Go.Proofs.YtcnkbdfkjhlbiaaDoor
open Go.Sy
set_option maxRecDepth 8000
theorem getD_memI {l : List (List Int)} {i : Nat} (h : i < l.length) : l.getD i [] ∈ l := getD_mem h
theorem allI_getD {p : Int → Bool} {l : List Int} (h : ∀ j, j < l.length → p (l.getD j 0) = true) : l.all p = true := by
  rw [List.all_eq_true]
  intro x hx
  obtain ⟨j, hj, rfl⟩ := List.getElem_of_mem hx
  have := h j hj
  rwa [show l.getD j 0 = l[j] by simp [List.getD_eq_getElem?_getD, hj]] at this
def shortB (l : List (List Int)) : Bool := decide (l.length ≤ 13) && l.all fun x => decide (x.length ≤ 13)
theorem short_iff {l : List (List Int)} : shortB l = true ↔ l.length ≤ 13 ∧ ∀ x ∈ l, x.length ≤ 13 := by
  simp [shortB]
abbrev tysW31_35 := And.intro ty.sz0 <| And.intro ty.agg0 <| And.intro ty.elem0 <| And.intro ty.sz3 <| And.intro ty.agg3 <| And.intro ty.elem3 <| And.intro ty.zero3 <| And.intro ty.und3 <| And.intro ty.sz4 <| And.intro ty.agg4 <| And.intro ty.elem4 <| And.intro ty.zero4 <| And.intro ty.und4 <| And.intro ty.sz39 <| And.intro ty.agg39 <| And.intro ty.elem39 <| And.intro ty.by39 <| And.intro ty.ez39 <| And.intro ty.zero39 <| And.intro ty.und39 <| And.intro ty.sz43 <| And.intro ty.agg43 <| And.intro ty.elem43 <| And.intro ty.by43 <| And.intro ty.ez43 <| And.intro ty.zero43 <| ty.und43
theorem short_c (l : List (List Int)) : CallP Tryd.prog G0 35 [SL l] (B (shortB l)) := by
  refine CallP.body 23 [.tmp 2] Tryd.func35 (by kernel_rfl) rfl rfl rfl (by repeat' (first | exact Pure.d _ | exact Pure.dx _ | exact Pure.dp _ | exact fa_nil | refine fa_cons ?_ ?_ | refine Pure.agg ?_ | refine Pure.tup ?_ | refine Pure.clo ?_ ?_ | refine Pure.fp ?_ | exact Pure.mapd _ | assumption)) (by repeat' (first | exact Pure.d _ | exact Pure.dx _ | exact Pure.dp _ | exact fa_nil | refine fa_cons ?_ ?_ | refine Pure.agg ?_ | refine Pure.tup ?_ | refine Pure.clo ?_ ?_ | refine Pure.fp ?_ | exact Pure.mapd _ | assumption)) ?_
  refine Tr.reg [0] (by
      simp only [↓sxd, sxu, ↓zE, ↓exq, St.keep, Nat.reduceBEq, Nat.reduceLT]
      (repeat' (first | rfl | exact trivial | exact fun h => h | exact fun h => (by rw [h]; rfl) | apply And.intro | omega | exact Nat.le_of_ble_eq_true rfl))) ?_
  refine Tr.seq ?_
  refine Tr.reg [0, 3] (by
      simp only [↓sxd, sxu, ↓zE, ↓exq, St.keep, Nat.reduceBEq, Nat.reduceLT]
      (repeat' (first | rfl | exact trivial | exact fun h => h | exact fun h => (by rw [h]; rfl) | apply And.intro | omega | exact Nat.le_of_ble_eq_true rfl))) ?_
  refine Tr.imp (st' := ⟨[(0, SL l), (3, I 0)], [], 0, 23, [], 0⟩) (Imp.keepAll) (Tr.block (Tr.loopI (fun mm ss => ∃ (i : Nat), (i ≤ l.length ∧ i ≤ 14 ∧ ∀ j, j < i → (l.getD j []).length ≤ 13) ∧ l.length - i = mm ∧ ss = ⟨[(0, SL l), (3, I i)], [], 0, 23, [], 0⟩) _ ⟨0, ?_, rfl, rfl⟩ ?_))
  · exact ⟨Nat.zero_le _, by omega, fun j hj => absurd hj (Nat.not_lt_zero _)⟩
  rintro mm ss ⟨i, hI, rfl, rfl⟩
  obtain ⟨hI, hi14, hall⟩ := hI
  refine Tr.seq ?_
  refine Tr.reg [0, 3, 11] (by
      simp only [↓sxd, sxu, ↓zE, ↓exq, ↓zB, St.keep, ↓zJ, Nat.reduceBEq, Nat.reduceLT, sxe, tysW31_35]
      iterate 2
        (repeat ((with_reducible refine And.intro ?_ ?_); (focus (first | with_reducible rfl | trivial | exact fun h => h | exact fun h => (by rw [h]; rfl) | omega | assumption))))
        refine GdO.mk _ (fun hg => by simp only [↓sxd, sxu, ↓exq, Nat.reduceBEq, hg]; (repeat' (first | rfl | exact trivial | exact fun h => h | exact fun h => (by rw [h]; rfl) | apply And.intro | omega | exact Nat.le_of_ble_eq_true rfl))) ?_
        simp only [↓sxd, sxu, ↓zE, ↓exq, ↓zH, Nat.reduceBEq, Nat.reduceLT]
      (repeat' (first | rfl | exact trivial | exact fun h => h | exact fun h => (by rw [h]; rfl) | apply And.intro | omega | exact Nat.le_of_ble_eq_true rfl))) ?_
  refine Tr.cond rfl (fun h11 => ?_) (fun h11 => ?_)
  · have hlt : i < l.length := by simp at h11; omega
    have hi13 : i < 14 := by simp at h11; omega
    refine Tr.skip ?_
    refine Tr.seq ?_
    refine Tr.block ?_
    refine Tr.reg [0, 3, 19] (by
        simp only [↓sxd, sxu, ↓zE, ↓exq, ↓zB, St.keep, ↓zJ, ↓zD, Nat.reduceBEq, Nat.reduceLT, sxe, tysW31_35, hlt]
        (repeat' (first | rfl | exact trivial | exact fun h => h | exact fun h => (by rw [h]; rfl) | apply And.intro | omega | exact Nat.le_of_ble_eq_true rfl))) ?_
    refine Tr.cond rfl (fun h19 => ?_) (fun h19 => ?_)
    · have hgt : 13 < (l.getD i []).length := by have := of_decide_eq_true h19; omega
      have hf : shortB l = false := by
        rw [← Bool.not_eq_true, short_iff]
        exact fun h => absurd (h.2 _ (getD_memI hlt)) (by omega)
      rw [hf]
      refine Tr.reg [2] (by
          simp only [↓sxd, sxu, ↓zE, ↓exq, St.keep, Nat.reduceLT]
          (repeat' (first | rfl | exact trivial | exact fun h => h | exact fun h => (by rw [h]; rfl) | apply And.intro | omega | exact Nat.le_of_ble_eq_true rfl))) ?_
      refine Tr.ret ?_
      (refine ⟨.inr rfl, ?_⟩; first | rfl | exact ⟨rfl, rfl, trivial⟩ | exact ⟨rfl, rfl, rfl, trivial⟩ | (simp only [Res, ResL, ResOK, ↓sxd, sxu, ↓zE, ↓zC, zK, ↓exP, ↓exq, ↓zB, St.keep, ↓zH, ↓zL, ↓zJ, ↓zD, Nat.reduceBEq, Nat.reduceAdd, Nat.reduceLT, Nat.reduceMul, Nat.reduceSub, Nat.reduceLeDiff, Nat.reduceEqDiff, Int.reduceLE, Int.reduceLT, Int.reduceToNat, reduceIte, implies_true, sxe, tysW31_35]; (repeat' (first | rfl | exact trivial | exact fun h => h | exact fun h => (by rw [h]; rfl) | apply And.intro | omega | exact Nat.le_of_ble_eq_true rfl))))
    · have hle : (l.getD i []).length ≤ 13 := by have := of_decide_eq_false h19; omega
      refine Tr.skip ?_
      have w1 : IntKind.i64.wrap ((i : Int) + 1) = ((i + 1 : Nat) : Int) := by rw [wr (by omega) (by omega)]; rfl
      refine Tr.reg1 [0, 3] (by
          simp only [↓sxd, sxu, ↓zE, ↓exq, St.keep, Nat.reduceBEq, Nat.reduceLT, w1]
          (repeat' (first | rfl | exact trivial | exact fun h => h | exact fun h => (by rw [h]; rfl) | apply And.intro | omega | exact Nat.le_of_ble_eq_true rfl))) ?_
      exact ⟨_, _, by omega, Imp.keepAll, ⟨i + 1, ⟨hlt, by omega, fun j hj => by
        by_cases hji : j = i
        · subst hji; exact hle
        · exact hall j (by omega)⟩, rfl, rfl⟩⟩
  · have hend : i = l.length ∨ i = 14 := by simp at h11; omega
    have hfin : shortB l = decide ((l.length : Int) ≤ 13) := by
      rw [Bool.eq_iff_iff, short_iff, decide_eq_true_eq]
      refine ⟨fun h => by omega, fun h => ⟨by omega, fun x hx => ?_⟩⟩
      obtain ⟨j, hj, rfl⟩ := List.getElem_of_mem hx
      have := hall j (by omega)
      simpa [List.getD_eq_getElem?_getD, hj] using this
    rw [hfin]
    refine Tr.exit ?_
    refine Tr.reg [2] (by
        simp only [↓sxd, sxu, ↓zE, ↓exq, ↓zB, St.keep, ↓zJ, Nat.reduceLT, sxe, tysW31_35]
        (repeat' (first | rfl | exact trivial | exact fun h => h | exact fun h => (by rw [h]; rfl) | apply And.intro | omega | exact Nat.le_of_ble_eq_true rfl))) ?_
    refine Tr.ret ?_
    (refine ⟨.inr rfl, ?_⟩; first | rfl | exact ⟨rfl, rfl, trivial⟩ | exact ⟨rfl, rfl, rfl, trivial⟩ | (simp only [Res, ResL, ResOK, ↓sxd, sxu, ↓zE, ↓zC, zK, ↓exP, ↓exq, ↓zB, St.keep, ↓zH, ↓zL, ↓zJ, ↓zD, Nat.reduceBEq, Nat.reduceAdd, Nat.reduceLT, Nat.reduceMul, Nat.reduceSub, Nat.reduceLeDiff, Nat.reduceEqDiff, Int.reduceLE, Int.reduceLT, Int.reduceToNat, reduceIte, implies_true, sxe, tysW31_35]; (repeat' (first | rfl | exact trivial | exact fun h => h | exact fun h => (by rw [h]; rfl) | apply And.intro | omega | exact Nat.le_of_ble_eq_true rfl))))
theorem cfault_three {c : Coding} {k : Nat} (hk : k < c.codes.length) (h : 10 < (c.codes.getD k []).length) : c.check = 3 := by
  unfold Coding.check
  rw [if_pos]
  rw [Bool.or_eq_true]
  right
  rw [Bool.not_eq_true', ← Bool.not_eq_true, List.all_eq_true]
  intro hc
  have := hc _ (getD_memI hk)
  rw [decide_eq_true_eq] at this
  omega
theorem cfault_row {c : Coding} (h : ¬ (decide ((c.codes.length : Int) > 3) || !(c.codes.all fun l => decide ((l.length : Int) ≤ 10))) = true) {k : Nat} (hk : k < c.codes.length) (hr : c.row k = false ∨ c.cols = 0) : c.check = 1 := by
  unfold Coding.check
  rw [if_neg h]
  split
  · rfl
  · rename_i h2
    rcases hr with hr | hr
    · rw [all_upto hk hr]; rfl
    · exact absurd (.inr (.inr hr)) h2
abbrev tysW31_36 := And.intro ty.sz0 <| And.intro ty.agg0 <| And.intro ty.elem0 <| And.intro ty.sz3 <| And.intro ty.agg3 <| And.intro ty.elem3 <| And.intro ty.zero3 <| And.intro ty.und3 <| And.intro ty.sz4 <| And.intro ty.agg4 <| And.intro ty.elem4 <| And.intro ty.zero4 <| And.intro ty.und4 <| And.intro ty.sz39 <| And.intro ty.agg39 <| And.intro ty.elem39 <| And.intro ty.by39 <| And.intro ty.ez39 <| And.intro ty.zero39 <| And.intro ty.und39 <| And.intro ty.sz43 <| And.intro ty.agg43 <| And.intro ty.elem43 <| And.intro ty.by43 <| And.intro ty.ez43 <| And.intro ty.zero43 <| And.intro ty.und43 <| And.intro ty.sz55 <| And.intro ty.agg55 <| And.intro ty.fld55_0 <| And.intro ty.fld55_1 <| And.intro ty.elem55 <| And.intro ty.zero55 <| ty.pl55
theorem CodingFault_c (c : Coding) (hs : c.codes.length < 4611686018427387904) (hw : c.wrong.length < 4611686018427387904) (hl : ∀ x ∈ c.codes, x.length < 4611686018427387904) : CallP Tryd.prog G0 36 [c.s] (I c.check) := by
  refine CallP.body 94 [.tmp 2] Tryd.func36 (by kernel_rfl) rfl rfl rfl (by repeat' (first | exact Pure.d _ | exact Pure.dx _ | exact Pure.dp _ | exact fa_nil | refine fa_cons ?_ ?_ | refine Pure.agg ?_ | refine Pure.tup ?_ | refine Pure.clo ?_ ?_ | refine Pure.fp ?_ | exact Pure.mapd _ | assumption)) (by repeat' (first | exact Pure.d _ | exact Pure.dx _ | exact Pure.dp _ | exact fa_nil | refine fa_cons ?_ ?_ | refine Pure.agg ?_ | refine Pure.tup ?_ | refine Pure.clo ?_ ?_ | refine Pure.fp ?_ | exact Pure.mapd _ | assumption)) ?_
  refine Tr.reg [1] (by
      simp only [↓sxd, sxu, ↓zE, ↓exq, St.keep, ↓zI, Nat.reduceBEq, Nat.reduceAdd, Nat.reduceLT, Nat.reduceEqDiff]
      (repeat' (first | rfl | exact trivial | exact fun h => h | exact fun h => (by rw [h]; rfl) | apply And.intro | omega | exact Nat.le_of_ble_eq_true rfl))) ?_
  refine Tr.seq ?_
  refine Tr.reg [1, 9] (by
      simp only [↓sxd, sxu, ↓zE, ↓exq, ↓zB, St.keep, ↓zJ, ↓zD, ↓zA, Nat.reduceBEq, Nat.reduceAdd, Nat.reduceLT, Nat.reduceEqDiff, sxe, tysW31_36]
      (repeat' (first | rfl | exact trivial | exact fun h => h | exact fun h => (by rw [h]; rfl) | apply And.intro | omega | exact Nat.le_of_ble_eq_true rfl))) ?_
  refine Tr.cond rfl (fun h9 => ?_) (fun h9 => ?_)
  · have hck : c.check = 3 := by
      unfold Coding.check
      rw [if_pos (by rw [Bool.or_eq_true]; exact .inl h9)]
    rw [hck]
    refine Tr.reg [2] (by
        simp only [↓sxd, sxu, ↓zE, ↓exq, St.keep, Nat.reduceLT]
        (repeat' (first | rfl | exact trivial | exact fun h => h | exact fun h => (by rw [h]; rfl) | apply And.intro | omega | exact Nat.le_of_ble_eq_true rfl))) ?_
    refine Tr.ret ?_
    (refine ⟨.inr rfl, ?_⟩; first | rfl | exact ⟨rfl, rfl, trivial⟩ | exact ⟨rfl, rfl, rfl, trivial⟩ | (simp only [Res, ResL, ResOK, ↓sxd, sxu, ↓zE, ↓zC, zK, ↓exP, ↓exq, ↓zB, St.keep, ↓zH, ↓zL, ↓zJ, ↓zD, ↓zI, ↓zA, Nat.reduceBEq, Nat.reduceAdd, Nat.reduceLT, Nat.reduceMul, Nat.reduceSub, Nat.reduceLeDiff, Nat.reduceEqDiff, Int.reduceLE, Int.reduceLT, Int.reduceToNat, reduceIte, implies_true, sxe, tysW31_36]; (repeat' (first | rfl | exact trivial | exact fun h => h | exact fun h => (by rw [h]; rfl) | apply And.intro | omega | exact Nat.le_of_ble_eq_true rfl))))
  · have hn3 : c.codes.length ≤ 3 := by simp at h9; omega
    refine Tr.skip ?_
    refine Tr.seq ?_
    refine Tr.reg [1, 3] (by
        simp only [↓sxd, sxu, ↓zE, ↓exq, St.keep, Nat.reduceBEq, Nat.reduceLT]
        (repeat' (first | rfl | exact trivial | exact fun h => h | exact fun h => (by rw [h]; rfl) | apply And.intro | omega | exact Nat.le_of_ble_eq_true rfl))) ?_
    refine Tr.imp (st' := ⟨[(1, .ptr 0 0 0), (3, I 0)], [(0, .arr 2 [[SL c.codes, SI c.wrong]])], 1, 94, [], 0⟩) (Imp.keepAll) (Tr.block (Tr.loopI (fun mm ss => ∃ (k : Nat), (k ≤ c.codes.length ∧ ∀ j, j < k → (c.codes.getD j []).length ≤ 10) ∧ c.codes.length - k = mm ∧ ss = ⟨[(1, .ptr 0 0 0), (3, I k)], [(0, .arr 2 [[SL c.codes, SI c.wrong]])], 1, 94, [], 0⟩) _ ⟨0, ?_, rfl, rfl⟩ ?_))
    · exact ⟨Nat.zero_le _, fun j hj => absurd hj (Nat.not_lt_zero _)⟩
    rintro mm ss ⟨k, hI, rfl, rfl⟩
    obtain ⟨hI, hall⟩ := hI
    refine Tr.seq ?_
    refine Tr.reg [1, 3, 14] (by
        simp only [↓sxd, sxu, ↓zE, ↓exq, ↓zB, St.keep, ↓zJ, ↓zD, ↓zA, Nat.reduceBEq, Nat.reduceAdd, Nat.reduceLT, Nat.reduceEqDiff, sxe, tysW31_36]
        (repeat' (first | rfl | exact trivial | exact fun h => h | exact fun h => (by rw [h]; rfl) | apply And.intro | omega | exact Nat.le_of_ble_eq_true rfl))) ?_
    refine Tr.cond rfl (fun h14 => ?_) (fun h14 => ?_)
    · have hlt : k < c.codes.length := by simpa using h14
      refine Tr.skip ?_
      refine Tr.seq ?_
      refine Tr.block ?_
      refine Tr.reg [1, 3, 23] (by
          simp only [↓sxd, sxu, ↓zE, ↓exq, ↓zB, St.keep, ↓zJ, ↓zD, ↓zA, Nat.reduceBEq, Nat.reduceAdd, Nat.reduceLT, Nat.reduceEqDiff, sxe, tysW31_36, hlt]
          (repeat' (first | rfl | exact trivial | exact fun h => h | exact fun h => (by rw [h]; rfl) | apply And.intro | omega | exact Nat.le_of_ble_eq_true rfl))) ?_
      refine Tr.cond rfl (fun h23 => ?_) (fun h23 => ?_)
      · have hck : c.check = 3 := cfault_three hlt (by have := of_decide_eq_true h23; omega)
        rw [hck]
        refine Tr.reg [2] (by
            simp only [↓sxd, sxu, ↓zE, ↓exq, St.keep, Nat.reduceLT]
            (repeat' (first | rfl | exact trivial | exact fun h => h | exact fun h => (by rw [h]; rfl) | apply And.intro | omega | exact Nat.le_of_ble_eq_true rfl))) ?_
        refine Tr.ret ?_
        (refine ⟨.inr rfl, ?_⟩; first | rfl | exact ⟨rfl, rfl, trivial⟩ | exact ⟨rfl, rfl, rfl, trivial⟩ | (simp only [Res, ResL, ResOK, ↓sxd, sxu, ↓zE, ↓zC, zK, ↓exP, ↓exq, ↓zB, St.keep, ↓zH, ↓zL, ↓zJ, ↓zD, ↓zI, ↓zA, Nat.reduceBEq, Nat.reduceAdd, Nat.reduceLT, Nat.reduceMul, Nat.reduceSub, Nat.reduceLeDiff, Nat.reduceEqDiff, Int.reduceLE, Int.reduceLT, Int.reduceToNat, reduceIte, implies_true, sxe, tysW31_36]; (repeat' (first | rfl | exact trivial | exact fun h => h | exact fun h => (by rw [h]; rfl) | apply And.intro | omega | exact Nat.le_of_ble_eq_true rfl))))
      · have hle : (c.codes.getD k []).length ≤ 10 := by have := of_decide_eq_false h23; omega
        refine Tr.skip ?_
        have w1 : IntKind.i64.wrap ((k : Int) + 1) = ((k + 1 : Nat) : Int) := by rw [wr (by omega) (by omega)]; rfl
        refine Tr.reg1 [1, 3] (by
            simp only [↓sxd, sxu, ↓zE, ↓exq, St.keep, Nat.reduceBEq, Nat.reduceLT, w1]
            (repeat' (first | rfl | exact trivial | exact fun h => h | exact fun h => (by rw [h]; rfl) | apply And.intro | omega | exact Nat.le_of_ble_eq_true rfl))) ?_
        exact ⟨_, _, by omega, Imp.keepAll, ⟨k + 1, ⟨hlt, fun j hj => by
          by_cases hji : j = k
          · subst hji; exact hle
          · exact hall j (by omega)⟩, rfl, rfl⟩⟩
    · have hge : k = c.codes.length := by simp at h14; omega
      have hz : ¬ (decide ((c.codes.length : Int) > 3) || !(c.codes.all fun l => decide ((l.length : Int) ≤ 10))) = true := by
        rw [Bool.or_eq_true, not_or]
        refine ⟨fun hc => by have := of_decide_eq_true hc; omega, ?_⟩
        rw [Bool.not_eq_true', Bool.not_eq_false, List.all_eq_true]
        intro x hx
        obtain ⟨j, hj, rfl⟩ := List.getElem_of_mem hx
        have := hall j (by omega)
        rw [decide_eq_true_eq]
        have e : c.codes.getD j [] = c.codes[j] := by simp [List.getD_eq_getElem?_getD, hj]
        rw [e] at this; omega
      refine Tr.exit ?_
      refine Tr.seq ?_
      refine Tr.reg [1, 36] (by
          simp only [↓sxd, sxu, ↓zE, ↓exq, ↓zB, St.keep, ↓zJ, ↓zD, ↓zA, Nat.reduceAdd, Nat.reduceLT, Nat.reduceEqDiff, sxe, tysW31_36]
          iterate 7
            (repeat ((with_reducible refine And.intro ?_ ?_); (focus (first | with_reducible rfl | trivial | exact fun h => h | exact fun h => (by rw [h]; rfl) | omega | assumption))))
            refine GdO.mk _ (fun hg => by simp only [↓sxd, sxu, ↓exq, ↓zB, ↓zJ, ↓zD, ↓zA, Nat.reduceBEq, Nat.reduceAdd, Nat.reduceLT, Nat.reduceEqDiff, sxe, tysW31_36, hg]; (repeat' (first | rfl | exact trivial | exact fun h => h | exact fun h => (by rw [h]; rfl) | apply And.intro | omega | exact Nat.le_of_ble_eq_true rfl))) ?_
            simp only [↓sxd, sxu, ↓zE, ↓exq, ↓zH, Nat.reduceBEq, Nat.reduceLT]
          (repeat' (first | rfl | exact trivial | exact fun h => h | exact fun h => (by rw [h]; rfl) | apply And.intro | omega | exact Nat.le_of_ble_eq_true rfl))) ?_
      refine Tr.cond rfl (fun h36 => ?_) (fun h36 => ?_)
      · have hck : c.check = 1 := by
          unfold Coding.check
          rw [if_neg hz, if_pos]
          simp only [Bool.or_eq_true, beq_iff_eq, bne_iff_ne, ne_eq] at h36
          omega
        rw [hck]
        refine Tr.reg [2] (by
            simp only [↓sxd, sxu, ↓zE, ↓exq, St.keep, Nat.reduceLT]
            (repeat' (first | rfl | exact trivial | exact fun h => h | exact fun h => (by rw [h]; rfl) | apply And.intro | omega | exact Nat.le_of_ble_eq_true rfl))) ?_
        refine Tr.ret ?_
        (refine ⟨.inr rfl, ?_⟩; first | rfl | exact ⟨rfl, rfl, trivial⟩ | exact ⟨rfl, rfl, rfl, trivial⟩ | (simp only [Res, ResL, ResOK, ↓sxd, sxu, ↓zE, ↓zC, zK, ↓exP, ↓exq, ↓zB, St.keep, ↓zH, ↓zL, ↓zJ, ↓zD, ↓zI, ↓zA, Nat.reduceBEq, Nat.reduceAdd, Nat.reduceLT, Nat.reduceMul, Nat.reduceSub, Nat.reduceLeDiff, Nat.reduceEqDiff, Int.reduceLE, Int.reduceLT, Int.reduceToNat, reduceIte, implies_true, sxe, tysW31_36]; (repeat' (first | rfl | exact trivial | exact fun h => h | exact fun h => (by rw [h]; rfl) | apply And.intro | omega | exact Nat.le_of_ble_eq_true rfl))))
      · have hn0 : c.codes.length ≠ 0 ∧ c.wrong.length = c.codes.length := by
          simp only [Bool.or_eq_false_iff, beq_eq_false_iff_ne, bne_eq_false_iff_eq, ne_eq] at h36
          omega
        have h0 : 0 < c.codes.length := by omega
        have hwl := hn0.2
        refine Tr.skip ?_
        refine Tr.seq ?_
        refine Tr.reg [1, 4] (by
            simp only [↓sxd, sxu, ↓zE, ↓exq, St.keep, Nat.reduceBEq, Nat.reduceLT]
            (repeat' (first | rfl | exact trivial | exact fun h => h | exact fun h => (by rw [h]; rfl) | apply And.intro | omega | exact Nat.le_of_ble_eq_true rfl))) ?_
        refine Tr.imp (st' := ⟨[(1, .ptr 0 0 0), (4, I 0)], [(0, .arr 2 [[SL c.codes, SI c.wrong]])], 1, 94, [], 0⟩) (Imp.keepAll) (Tr.block (Tr.loopI (fun mm ss => ∃ (k : Nat), (k ≤ c.codes.length ∧ ∀ j, j < k → c.row j = true ∧ c.cols ≠ 0) ∧ c.codes.length - k = mm ∧ ss = ⟨[(1, .ptr 0 0 0), (4, I k)], [(0, .arr 2 [[SL c.codes, SI c.wrong]])], 1, 94, [], 0⟩) _ ⟨0, ?_, rfl, rfl⟩ ?_))
        · exact ⟨Nat.zero_le _, fun j hj => absurd hj (Nat.not_lt_zero _)⟩
        rintro mm ss ⟨k, hI, rfl, rfl⟩
        obtain ⟨hI2, hrows⟩ := hI
        refine Tr.seq ?_
        refine Tr.reg [1, 4, 41] (by
            simp only [↓sxd, sxu, ↓zE, ↓exq, ↓zB, St.keep, ↓zJ, ↓zD, ↓zA, Nat.reduceBEq, Nat.reduceAdd, Nat.reduceLT, Nat.reduceEqDiff, sxe, tysW31_36]
            (repeat' (first | rfl | exact trivial | exact fun h => h | exact fun h => (by rw [h]; rfl) | apply And.intro | omega | exact Nat.le_of_ble_eq_true rfl))) ?_
        refine Tr.cond rfl (fun h41 => ?_) (fun h41 => ?_)
        · have hlt2 : k < c.codes.length := by simpa using h41
          have hlw : k < c.wrong.length := by omega
          have hll := hl _ (getD_memI hlt2)
          refine Tr.skip ?_
          refine Tr.seq ?_
          refine Tr.block ?_
          refine Tr.seq ?_
          refine Tr.regD [0, 1, 2, 3, 4, 5, 6, 7, 8, 9, 10, 11, 12, 13, 14, 15, 16, 17, 18, 19, 20, 21, 22, 23, 24, 25, 26, 27, 28, 29] [] [] [1, 4, 73] mix (by kernel_rfl) (by
              simp only [↓sxd, sxu, ↓zC, zK, ↓exq, ↓zB, St.keep, ↓zJ, ↓zD, ↓zA, Nat.reduceBEq, Nat.reduceAdd, Nat.reduceLT, Nat.reduceEqDiff, sxe, tysW31_36, hlt2]
              iterate 17
                (repeat ((with_reducible refine And.intro ?_ ?_); (focus (first | with_reducible rfl | trivial | exact fun h => h | exact fun h => (by rw [h]; rfl) | omega | assumption))))
                refine GdD.mk _ (fun hg => by simp only [↓sxd, sxu, ↓exP, ↓exq, ↓zB, ↓zJ, ↓zD, ↓zA, Nat.reduceBEq, Nat.reduceAdd, Nat.reduceLT, Nat.reduceEqDiff, Int.reduceLE, sxe, tysW31_36, hlt2, hlw, h0, hg]; (repeat' (first | rfl | exact trivial | exact fun h => h | exact fun h => (by rw [h]; rfl) | apply And.intro | omega | exact Nat.le_of_ble_eq_true rfl))) ?_
                simp only [↓sxd, sxu, ↓zC, zK, ↓exq, ↓zH, Nat.reduceBEq, Nat.reduceLT]
              (repeat ((with_reducible refine And.intro ?_ ?_); (focus (first | with_reducible rfl | trivial | exact fun h => h | exact fun h => (by rw [h]; rfl) | omega | assumption))))
              refine GdD.mk _ (fun hg => by simp only [sxu, ↓exP, hg]; first | exact In_c _ _ _ _ | exact ⟨In_c _ _ _ _, rfl, rfl⟩ | exact ⟨In_c _ _ _ _, trivial⟩ | exact ⟨In_c _ _ _ _, trivial, trivial⟩) ?_
              simp only [↓sxd, sxu, ↓zC, zK, Nat.reduceBEq, Nat.reduceLT]
              (repeat ((with_reducible refine And.intro ?_ ?_); (focus (first | with_reducible rfl | trivial | exact fun h => h | exact fun h => (by rw [h]; rfl) | omega | assumption))))
              refine GdD.mk _ (fun hg => by simp only [sxu, ↓exP, ↓exq, ↓zL, hg]; (repeat' (first | rfl | exact trivial | exact fun h => h | exact fun h => (by rw [h]; rfl) | apply And.intro | omega | exact Nat.le_of_ble_eq_true rfl))) ?_
              simp only [↓sxd, sxu, ↓zC, ↓exq, ↓zH, Nat.reduceBEq, Nat.reduceLT]
              (repeat' (first | rfl | exact trivial | exact fun h => h | exact fun h => (by rw [h]; rfl) | apply And.intro | omega | exact Nat.le_of_ble_eq_true rfl))) ?_
          refine Tr.cond rfl (fun h73 => ?_) (fun h73 => ?_)
          · have hck : c.check = 1 := cfault_row hz hlt2 (by
              have hh : _ := h73
              simp only [Bool.or_eq_true, beq_iff_eq, bne_iff_ne, ne_eq, Bool.not_eq_true'] at hh
              rcases hh with (hh | hh) | hh
              · by_cases hc0 : c.cols = 0
                · exact .inr hc0
                · left; unfold Coding.row; rw [decide_eq_false (by omega)]; rfl
              · left; unfold Coding.row Coding.cols; rw [decide_eq_false (by omega)]; rfl
              · left
                unfold Coding.row within
                rw [show (decide (0 ≤ c.wrong.getD k 0) && decide (c.wrong.getD k 0 ≤ 10)) = false from hh]
                simp)
            rw [hck]
            refine Tr.reg [2] (by
                simp only [↓sxd, sxu, ↓zE, ↓exq, St.keep, Nat.reduceLT]
                (repeat' (first | rfl | exact trivial | exact fun h => h | exact fun h => (by rw [h]; rfl) | apply And.intro | omega | exact Nat.le_of_ble_eq_true rfl))) ?_
            refine Tr.ret ?_
            (refine ⟨.inr rfl, ?_⟩; first | rfl | exact ⟨rfl, rfl, trivial⟩ | exact ⟨rfl, rfl, rfl, trivial⟩ | (simp only [Res, ResL, ResOK, ↓sxd, sxu, ↓zE, ↓zC, zK, ↓exP, ↓exq, ↓zB, St.keep, ↓zH, ↓zL, ↓zJ, ↓zD, ↓zI, ↓zA, Nat.reduceBEq, Nat.reduceAdd, Nat.reduceLT, Nat.reduceMul, Nat.reduceSub, Nat.reduceLeDiff, Nat.reduceEqDiff, Int.reduceLE, Int.reduceLT, Int.reduceToNat, reduceIte, implies_true, sxe, tysW31_36]; (repeat' (first | rfl | exact trivial | exact fun h => h | exact fun h => (by rw [h]; rfl) | apply And.intro | omega | exact Nat.le_of_ble_eq_true rfl))))
          · skip
            refine Tr.skip ?_
            refine Tr.reg [1, 4, 5] (by
                simp only [↓sxd, sxu, ↓zE, ↓exq, St.keep, Nat.reduceBEq, Nat.reduceLT]
                (repeat' (first | rfl | exact trivial | exact fun h => h | exact fun h => (by rw [h]; rfl) | apply And.intro | omega | exact Nat.le_of_ble_eq_true rfl))) ?_
            refine Tr.imp (st' := ⟨[(1, .ptr 0 0 0), (4, I k), (5, I 0)], [(0, .arr 2 [[SL c.codes, SI c.wrong]])], 1, 94, [], 0⟩) (Imp.keepAll) (Tr.block (Tr.loopI (fun mm ss => ∃ (i : Nat), (i ≤ (c.codes.getD k []).length ∧ ∀ j, j < i → isCode ((c.codes.getD k []).getD j 0) = true) ∧ (c.codes.getD k []).length - i = mm ∧ ss = ⟨[(1, .ptr 0 0 0), (4, I k), (5, I i)], [(0, .arr 2 [[SL c.codes, SI c.wrong]])], 1, 94, [], 0⟩) _ ⟨0, ?_, rfl, rfl⟩ ?_))
            · exact ⟨Nat.zero_le _, fun j hj => absurd hj (Nat.not_lt_zero _)⟩
            rintro mm ss ⟨i, hI, rfl, rfl⟩
            obtain ⟨hI3, hcd⟩ := hI
            refine Tr.seq ?_
            refine Tr.reg [1, 4, 5, 81] (by
                simp only [↓sxd, sxu, ↓zE, ↓exq, ↓zB, St.keep, ↓zJ, ↓zD, ↓zA, Nat.reduceBEq, Nat.reduceAdd, Nat.reduceLT, Nat.reduceEqDiff, sxe, tysW31_36, hlt2]
                (repeat' (first | rfl | exact trivial | exact fun h => h | exact fun h => (by rw [h]; rfl) | apply And.intro | omega | exact Nat.le_of_ble_eq_true rfl))) ?_
            refine Tr.cond rfl (fun h81 => ?_) (fun h81 => ?_)
            · have hlt3 : i < (c.codes.getD k []).length := by have := of_decide_eq_true h81; omega
              refine Tr.skip ?_
              refine Tr.seq ?_
              refine Tr.block ?_
              refine Tr.reg [1, 4, 5, 93] (by
                  simp only [↓sxd, sxu, ↓zE, ↓exq, St.keep, ↓zD, ↓zA, Nat.reduceBEq, Nat.reduceAdd, Nat.reduceLT, Nat.reduceEqDiff, sxe, tysW31_36, hlt2, hlt3]
                  (repeat ((with_reducible refine And.intro ?_ ?_); (focus (first | with_reducible rfl | trivial | exact fun h => h | exact fun h => (by rw [h]; rfl) | omega | assumption))))
                  refine CallO.use (In_c _ _ _ _) ?_
                  try simp only [↓sxd, sxu, ↓zE, ↓exq, ↓zL, Nat.reduceBEq, Nat.reduceLT]
                  (repeat' (first | rfl | exact trivial | exact fun h => h | exact fun h => (by rw [h]; rfl) | apply And.intro | omega | exact Nat.le_of_ble_eq_true rfl))) ?_
              refine Tr.cond rfl (fun h93 => ?_) (fun h93 => ?_)
              · have hck : c.check = 1 := cfault_row hz hlt2 (.inl (by
                  have hh : isCode ((c.codes.getD k []).getD i 0) = false := by simpa only [isCode, ge_iff_le, Bool.not_eq_true'] using h93
                  unfold Coding.row
                  have : (c.codes.getD k []).all isCode = false := by
                    rw [← Bool.not_eq_true, List.all_eq_true]
                    intro hc
                    rw [hc _ (getD_mem hlt3)] at hh; cases hh
                  rw [this]; simp))
                rw [hck]
                refine Tr.reg [2] (by
                    simp only [↓sxd, sxu, ↓zE, ↓exq, St.keep, Nat.reduceLT]
                    (repeat' (first | rfl | exact trivial | exact fun h => h | exact fun h => (by rw [h]; rfl) | apply And.intro | omega | exact Nat.le_of_ble_eq_true rfl))) ?_
                refine Tr.ret ?_
                (refine ⟨.inr rfl, ?_⟩; first | rfl | exact ⟨rfl, rfl, trivial⟩ | exact ⟨rfl, rfl, rfl, trivial⟩ | (simp only [Res, ResL, ResOK, ↓sxd, sxu, ↓zE, ↓zC, zK, ↓exP, ↓exq, ↓zB, St.keep, ↓zH, ↓zL, ↓zJ, ↓zD, ↓zI, ↓zA, Nat.reduceBEq, Nat.reduceAdd, Nat.reduceLT, Nat.reduceMul, Nat.reduceSub, Nat.reduceLeDiff, Nat.reduceEqDiff, Int.reduceLE, Int.reduceLT, Int.reduceToNat, reduceIte, implies_true, sxe, tysW31_36]; (repeat' (first | rfl | exact trivial | exact fun h => h | exact fun h => (by rw [h]; rfl) | apply And.intro | omega | exact Nat.le_of_ble_eq_true rfl))))
              · have hcode : isCode ((c.codes.getD k []).getD i 0) = true := by simpa only [isCode, ge_iff_le, Bool.not_eq_false'] using h93
                refine Tr.skip ?_
                have w2 : IntKind.i64.wrap ((i : Int) + 1) = ((i + 1 : Nat) : Int) := by rw [wr (by omega) (by omega)]; rfl
                refine Tr.reg1 [1, 4, 5] (by
                    simp only [↓sxd, sxu, ↓zE, ↓exq, St.keep, Nat.reduceBEq, Nat.reduceLT, w2]
                    (repeat' (first | rfl | exact trivial | exact fun h => h | exact fun h => (by rw [h]; rfl) | apply And.intro | omega | exact Nat.le_of_ble_eq_true rfl))) ?_
                exact ⟨_, _, by omega, Imp.keepAll, ⟨i + 1, ⟨hlt3, fun j hj => by
                  by_cases hji : j = i
                  · subst hji; exact hcode
                  · exact hcd j (by omega)⟩, rfl, rfl⟩⟩
            · have hge3 : i = (c.codes.getD k []).length := by have := of_decide_eq_false h81; omega
              have hrow : c.row k = true ∧ c.cols ≠ 0 := by
                have hh : _ := h73
                simp only [Bool.or_eq_false_iff, beq_eq_false_iff_ne, bne_eq_false_iff_eq, ne_eq, Bool.not_eq_false'] at hh
                refine ⟨?_, ?_⟩
                · unfold Coding.row Coding.cols within
                  rw [Bool.and_eq_true, Bool.and_eq_true, decide_eq_true_eq]
                  exact ⟨⟨by omega, allI_getD fun j hj => hcd j (by omega)⟩, hh.2⟩
                · unfold Coding.cols; omega
              refine Tr.exit ?_
              have w3 : IntKind.i64.wrap ((k : Int) + 1) = ((k + 1 : Nat) : Int) := by rw [wr (by omega) (by omega)]; rfl
              refine Tr.reg1 [1, 4] (by
                  simp only [↓sxd, sxu, ↓zE, ↓exq, St.keep, Nat.reduceBEq, Nat.reduceLT, w3]
                  (repeat' (first | rfl | exact trivial | exact fun h => h | exact fun h => (by rw [h]; rfl) | apply And.intro | omega | exact Nat.le_of_ble_eq_true rfl))) ?_
              exact ⟨_, _, by omega, Imp.keepAll, ⟨k + 1, ⟨hlt2, fun j hj => by
                by_cases hji : j = k
                · subst hji; exact hrow
                · exact hrows j (by omega)⟩, rfl, rfl⟩⟩
        · have hge2 : k = c.codes.length := by simp at h41; omega
          have hck : c.check = 0 := by
            unfold Coding.check
            rw [if_neg hz, if_neg, if_pos]
            · rw [List.all_eq_true]
              intro j hj
              exact (hrows j (by rw [hge2]; exact List.mem_range.1 hj)).1
            · have := (hrows 0 (by omega)).2
              omega
          rw [hck]
          refine Tr.exit ?_
          refine Tr.reg [2] (by
              simp only [↓sxd, sxu, ↓zE, ↓exq, St.keep, Nat.reduceLT]
              (repeat' (first | rfl | exact trivial | exact fun h => h | exact fun h => (by rw [h]; rfl) | apply And.intro | omega | exact Nat.le_of_ble_eq_true rfl))) ?_
          refine Tr.ret ?_
          (refine ⟨.inr rfl, ?_⟩; first | rfl | exact ⟨rfl, rfl, trivial⟩ | exact ⟨rfl, rfl, rfl, trivial⟩ | (simp only [Res, ResL, ResOK, ↓sxd, sxu, ↓zE, ↓zC, zK, ↓exP, ↓exq, ↓zB, St.keep, ↓zH, ↓zL, ↓zJ, ↓zD, ↓zI, ↓zA, Nat.reduceBEq, Nat.reduceAdd, Nat.reduceLT, Nat.reduceMul, Nat.reduceSub, Nat.reduceLeDiff, Nat.reduceEqDiff, Int.reduceLE, Int.reduceLT, Int.reduceToNat, reduceIte, implies_true, sxe, tysW31_36]; (repeat' (first | rfl | exact trivial | exact fun h => h | exact fun h => (by rw [h]; rfl) | apply And.intro | omega | exact Nat.le_of_ble_eq_true rfl))))
theorem errsAt_snoc (c : Coding) (k : Nat) (x : Int) : ∀ (u : List Int) (p : Nat), errsAt c k p (u ++ [x]) = errsAt c k p u + off c k (p + u.length) x
  | [], p => by simp [errsAt]
  | y :: u, p => by
    simp only [List.cons_append, errsAt, errsAt_snoc c k x u (p + 1), List.length_cons]
    rw [show p + 1 + u.length = p + (u.length + 1) by omega]; omega
theorem errsAt_take {c : Coding} {k i : Nat} {v : List Int} (h : i < v.length) : errsAt c k 0 (v.take (i + 1)) = errsAt c k 0 (v.take i) + off c k i (v.getD i 0) := by
  rw [List.take_succ_eq_append_getElem h, errsAt_snoc, List.length_take, Nat.min_eq_left (by omega), Nat.zero_add]
  simp [List.getD_eq_getElem?_getD, h]
theorem errsAt_le (c : Coding) (k : Nat) : ∀ (u : List Int) (p : Nat), errsAt c k p u ≤ u.length
  | [], p => Nat.le_refl _
  | y :: u, p => by
    have := off_le c k p y
    have := errsAt_le c k u (p + 1)
    simp only [errsAt, List.length_cons]; omega
abbrev tysW31_76 := And.intro ty.sz0 <| And.intro ty.agg0 <| And.intro ty.elem0 <| And.intro ty.sz3 <| And.intro ty.agg3 <| And.intro ty.elem3 <| And.intro ty.zero3 <| And.intro ty.und3 <| And.intro ty.sz4 <| And.intro ty.agg4 <| And.intro ty.elem4 <| And.intro ty.zero4 <| And.intro ty.und4 <| And.intro ty.sz39 <| And.intro ty.agg39 <| And.intro ty.elem39 <| And.intro ty.by39 <| And.intro ty.ez39 <| And.intro ty.zero39 <| And.intro ty.und39 <| And.intro ty.sz43 <| And.intro ty.agg43 <| And.intro ty.elem43 <| And.intro ty.by43 <| And.intro ty.ez43 <| And.intro ty.zero43 <| And.intro ty.und43 <| And.intro ty.sz55 <| And.intro ty.agg55 <| And.intro ty.fld55_0 <| And.intro ty.fld55_1 <| And.intro ty.elem55 <| And.intro ty.zero55 <| ty.pl55
theorem RErrors_c (c : Coding) (k : Nat) (v : List Int) (hk : k < c.codes.length) (hv : v.length ≤ (c.codes.getD k []).length) (hl : v.length ≤ 1000) : CallP Tryd.prog G0 76 [c.s, I k, SI v] (I (errsAt c k 0 v : Nat)) := by
  refine CallP.body 31 [.tmp 6] Tryd.func76 (by kernel_rfl) rfl rfl rfl (by repeat' (first | exact Pure.d _ | exact Pure.dx _ | exact Pure.dp _ | exact fa_nil | refine fa_cons ?_ ?_ | refine Pure.agg ?_ | refine Pure.tup ?_ | refine Pure.clo ?_ ?_ | refine Pure.fp ?_ | exact Pure.mapd _ | assumption)) (by repeat' (first | exact Pure.d _ | exact Pure.dx _ | exact Pure.dp _ | exact fa_nil | refine fa_cons ?_ ?_ | refine Pure.agg ?_ | refine Pure.tup ?_ | refine Pure.clo ?_ ?_ | refine Pure.fp ?_ | exact Pure.mapd _ | assumption)) ?_
  refine Tr.reg [1, 2, 3] (by
      simp only [↓sxd, sxu, ↓zE, ↓exq, St.keep, ↓zI, Nat.reduceBEq, Nat.reduceAdd, Nat.reduceLT, Nat.reduceEqDiff]
      (repeat' (first | rfl | exact trivial | exact fun h => h | exact fun h => (by rw [h]; rfl) | apply And.intro | omega | exact Nat.le_of_ble_eq_true rfl))) ?_
  refine Tr.reg [1, 2, 3, 7] (by
      simp only [↓sxd, sxu, ↓zE, ↓exq, St.keep, Nat.reduceBEq, Nat.reduceLT]
      (repeat' (first | rfl | exact trivial | exact fun h => h | exact fun h => (by rw [h]; rfl) | apply And.intro | omega | exact Nat.le_of_ble_eq_true rfl))) ?_
  refine Tr.seq ?_
  refine Tr.reg [1, 2, 3, 7, 8] (by
      simp only [↓sxd, sxu, ↓zE, ↓exq, St.keep, Nat.reduceBEq, Nat.reduceLT]
      (repeat' (first | rfl | exact trivial | exact fun h => h | exact fun h => (by rw [h]; rfl) | apply And.intro | omega | exact Nat.le_of_ble_eq_true rfl))) ?_
  refine Tr.imp (st' := ⟨[(1, I k), (2, SI v), (3, .ptr 0 0 0), (7, I (errsAt c k 0 (v.take 0) : Nat)), (8, I 0)], [(0, .arr 2 [[SL c.codes, SI c.wrong]])], 1, 31, [], 0⟩) (Imp.keepAll) (Tr.block (Tr.loopI (fun mm ss => ∃ (i : Nat), (i ≤ v.length) ∧ v.length - i = mm ∧ ss = ⟨[(1, I k), (2, SI v), (3, .ptr 0 0 0), (7, I (errsAt c k 0 (v.take i) : Nat)), (8, I i)], [(0, .arr 2 [[SL c.codes, SI c.wrong]])], 1, 31, [], 0⟩) _ ⟨0, ?_, rfl, rfl⟩ ?_))
  · (repeat' (first | rfl | exact trivial | exact fun h => h | exact fun h => (by rw [h]; rfl) | apply And.intro | omega | exact Nat.le_of_ble_eq_true rfl))
  rintro mm ss ⟨i, hI, rfl, rfl⟩
  refine Tr.seq ?_
  refine Tr.reg [1, 2, 3, 7, 8, 12] (by
      simp only [↓sxd, sxu, ↓zE, ↓exq, ↓zB, St.keep, ↓zJ, Nat.reduceBEq, Nat.reduceLT, sxe, tysW31_76]
      (repeat' (first | rfl | exact trivial | exact fun h => h | exact fun h => (by rw [h]; rfl) | apply And.intro | omega | exact Nat.le_of_ble_eq_true rfl))) ?_
  refine Tr.cond rfl (fun h12 => ?_) (fun h12 => ?_)
  · have hlt : i < v.length := by simpa using h12
    have hlc : i < (c.codes.getD k []).length := by omega
    have hle := errsAt_le c k (v.take i) 0
    have hle2 : (v.take i).length ≤ 1000 := by rw [List.length_take]; omega
    have htk := errsAt_take (c := c) (k := k) hlt
    refine Tr.skip ?_
    refine Tr.seq ?_
    refine Tr.block ?_
    refine Tr.regD [0, 1, 2, 3, 4, 5, 6, 7, 8, 9, 10, 11, 12] [] [] [1, 2, 3, 7, 8, 27] mix (by kernel_rfl) (by
        simp only [↓sxd, sxu, ↓zC, zK, ↓exq, St.keep, ↓zD, ↓zA, Nat.reduceBEq, Nat.reduceAdd, Nat.reduceLT, Nat.reduceEqDiff, sxe, tysW31_76, hk, hlt, hlc]
        (repeat' (first | rfl | exact trivial | exact fun h => h | exact fun h => (by rw [h]; rfl) | apply And.intro | omega | exact Nat.le_of_ble_eq_true rfl))) ?_
    refine Tr.cond rfl (fun h27 => ?_) (fun h27 => ?_)
    · have ho : off c k i (v.getD i 0) = 1 := if_pos (by simpa using h27)
      have w2 : IntKind.i64.wrap ((errsAt c k 0 (v.take i) : Int) + 1) = ((errsAt c k 0 (v.take i) + 1 : Nat) : Int) := by rw [wr (by omega) (by omega)]; rfl
      refine Tr.reg1 [1, 2, 3, 7, 8] (by
          simp only [↓sxd, sxu, ↓zE, ↓exq, St.keep, Nat.reduceBEq, Nat.reduceLT, w2]
          (repeat' (first | rfl | exact trivial | exact fun h => h | exact fun h => (by rw [h]; rfl) | apply And.intro | omega | exact Nat.le_of_ble_eq_true rfl))) ?_
      have w1 : IntKind.i64.wrap ((i : Int) + 1) = ((i + 1 : Nat) : Int) := by rw [wr (by omega) (by omega)]; rfl
      refine Tr.reg1 [1, 2, 3, 7, 8] (by
          simp only [↓sxd, sxu, ↓zE, ↓exq, St.keep, Nat.reduceBEq, Nat.reduceLT, w1]
          (repeat' (first | rfl | exact trivial | exact fun h => h | exact fun h => (by rw [h]; rfl) | apply And.intro | omega | exact Nat.le_of_ble_eq_true rfl))) ?_
      refine ⟨_, _, ?_, ?_, ⟨i + 1, hlt, rfl, rfl⟩⟩
      · omega
      · rw [htk, ho]
        exact Imp.keepAll
    · have ho : off c k i (v.getD i 0) = 0 := if_neg (by simpa using h27)
      refine Tr.skip ?_
      have w1 : IntKind.i64.wrap ((i : Int) + 1) = ((i + 1 : Nat) : Int) := by rw [wr (by omega) (by omega)]; rfl
      refine Tr.reg1 [1, 2, 3, 7, 8] (by
          simp only [↓sxd, sxu, ↓zE, ↓exq, St.keep, Nat.reduceBEq, Nat.reduceLT, w1]
          (repeat' (first | rfl | exact trivial | exact fun h => h | exact fun h => (by rw [h]; rfl) | apply And.intro | omega | exact Nat.le_of_ble_eq_true rfl))) ?_
      refine ⟨_, _, ?_, ?_, ⟨i + 1, hlt, rfl, rfl⟩⟩
      · omega
      · rw [htk, ho]
        exact Imp.keepAll
  · have hge : i = v.length := by simp at h12; omega
    subst hge
    rw [List.take_length]
    refine Tr.exit ?_
    refine Tr.reg [6] (by
        simp only [↓sxd, sxu, ↓zE, ↓exq, St.keep, Nat.reduceBEq, Nat.reduceLT]
        (repeat' (first | rfl | exact trivial | exact fun h => h | exact fun h => (by rw [h]; rfl) | apply And.intro | omega | exact Nat.le_of_ble_eq_true rfl))) ?_
    refine Tr.ret ?_
    (refine ⟨.inr rfl, ?_⟩; first | rfl | exact ⟨rfl, rfl, trivial⟩ | exact ⟨rfl, rfl, rfl, trivial⟩ | (simp only [Res, ResL, ResOK, ↓sxd, sxu, ↓zE, ↓zC, zK, ↓exP, ↓exq, ↓zB, St.keep, ↓zL, ↓zJ, ↓zD, ↓zI, ↓zA, Nat.reduceBEq, Nat.reduceAdd, Nat.reduceLT, Nat.reduceMul, Nat.reduceSub, Nat.reduceLeDiff, Nat.reduceEqDiff, Int.reduceLE, Int.reduceLT, Int.reduceToNat, reduceIte, implies_true, sxe, tysW31_76]; (repeat' (first | rfl | exact trivial | exact fun h => h | exact fun h => (by rw [h]; rfl) | apply And.intro | omega | exact Nat.le_of_ble_eq_true rfl))))
abbrev uL (l : List (List Int)) : List (List SV) := l.map fun u => [SI u]
abbrev vI (v : List Int) : List (List SV) := v.map fun n => [I n]
theorem src_vI (v : List Int) : ((dI v).map fun e => e.map SV.d) = vI v := by simp [dI, vI]
theorem vI_all (v : List Int) : (∀ e ∈ vI v, e.length = 1 ∧ e.all SV.one = true) = True := by simp [SV.one]
theorem vI_fz {r : Nat → Nat} {hp hp' : HpT} (v : List Int) : F2 (F2 fun s x => TnS r hp hp' s (.d x)) (vI v) (dI v) := by
  rw [dI]; exact F2.map fun n _ => .cons (TnS.d _) .nil
theorem uL_fz {r : Nat → Nat} {hp hp' : HpT} (l : List (List Int)) : F2 (F2 fun s x => TnS r hp hp' s (.d x)) (uL l) (dL l) := by
  rw [dL]; exact F2.map fun n _ => .cons (TnS.d _) .nil
theorem uL_tn {r : Nat → Nat} {hp hp' : HpT} (l : List (List Int)) : F2 (F2 (TnS r hp hp')) (uL l) (uL l) := F2.map fun n _ => .cons (TnS.d _) .nil
theorem uL_take {l : List (List Int)} {k : Nat} (h : k < l.length) : uL (l.take (k + 1)) = uL (l.take k) ++ [[SI (l.getD k [])]] := by
  unfold uL
  rw [List.take_succ_eq_append_getElem h, List.map_append]
  simp [List.getD_eq_getElem?_getD, h]
end Go.Proofs.YtcnkbdfkjhlbiaaDoor
namespace Go.Sy
section
variable {P : Program} {G : Nat → Option (List D)} {ro : Option Nat} {ops : Array Oper} {ul louds : List Nat}
theorem Tr.regV1 {id : Nat} {st : St} {Q : Exit → St → Prop} (louds ul ks : List Nat) {st' : St} (hmix : P.follows .mixedOrders = true) (hc : dChk (Region.before ops).toList ops ul (mkV louds ops.toList 0) = true)
    (h : exV P G ul louds ops.toList 0 [] st [] fun s => s.keep ks = st') (hq : Q .normal st') : Tr P G ro (.region id ops true) st Q := by
  refine Tr.post ((Tr.drawV (Q := fun x s => match x with | .normal => s.keep ks = st' | _ => False) hmix hc h).mono ?_)
  intro x s hx
  cases x with
  | normal => exact ⟨st', hx ▸ Imp.keep ks, hq⟩
  | _ => exact hx.elim
end
end Go.Sy
namespace Go.Proofs.YtcnkbdfkjhlbiaaDoor
open Go.Sy
set_option maxRecDepth 8000
abbrev tysW32_50 := And.intro ty.sz0 <| And.intro ty.agg0 <| And.intro ty.elem0 <| And.intro ty.sz3 <| And.intro ty.agg3 <| And.intro ty.elem3 <| And.intro ty.zero3 <| And.intro ty.und3 <| And.intro ty.sz4 <| And.intro ty.agg4 <| And.intro ty.elem4 <| And.intro ty.zero4 <| And.intro ty.und4 <| And.intro ty.sz39 <| And.intro ty.agg39 <| And.intro ty.elem39 <| And.intro ty.by39 <| And.intro ty.ez39 <| And.intro ty.zero39 <| And.intro ty.und39 <| And.intro ty.sz43 <| And.intro ty.agg43 <| And.intro ty.elem43 <| And.intro ty.by43 <| And.intro ty.ez43 <| And.intro ty.zero43 <| ty.und43
theorem rows_c (l : List (List Int)) (hl : l.length ≤ 1000) (hls : ∀ x ∈ l, x.length ≤ 1000) : CallP Tryd.prog G0 50 [SL l] (SL l) := by
  refine CallP.body 21 [.tmp 2] Tryd.func50 (by kernel_rfl) rfl rfl rfl (by repeat' (first | exact Pure.d _ | exact Pure.dx _ | exact Pure.dp _ | exact fa_nil | refine fa_cons ?_ ?_ | refine Pure.agg ?_ | refine Pure.tup ?_ | refine Pure.clo ?_ ?_ | refine Pure.fp ?_ | exact Pure.mapd _ | assumption)) (by repeat' (first | exact Pure.d _ | exact Pure.dx _ | exact Pure.dp _ | exact fa_nil | refine fa_cons ?_ ?_ | refine Pure.agg ?_ | refine Pure.tup ?_ | refine Pure.clo ?_ ?_ | refine Pure.fp ?_ | exact Pure.mapd _ | assumption)) ?_
  refine Tr.reg [0] (by
      simp only [↓sxd, sxu, ↓zE, ↓exq, St.keep, Nat.reduceBEq, Nat.reduceLT]
      (repeat' (first | rfl | exact trivial | exact fun h => h | exact fun h => (by rw [h]; rfl) | apply And.intro | omega | exact Nat.le_of_ble_eq_true rfl))) ?_
  refine Tr.reg [0, 3] (by
      simp only [↓sxd, sxu, ↓zE, ↓exq, St.keep, Nat.reduceBEq, Nat.reduceLT]
      (repeat' (first | rfl | exact trivial | exact fun h => h | exact fun h => (by rw [h]; rfl) | apply And.intro | omega | exact Nat.le_of_ble_eq_true rfl))) ?_
  refine Tr.seq ?_
  refine Tr.reg [0, 3, 4] (by
      simp only [↓sxd, sxu, ↓zE, ↓exq, St.keep, Nat.reduceBEq, Nat.reduceLT]
      (repeat' (first | rfl | exact trivial | exact fun h => h | exact fun h => (by rw [h]; rfl) | apply And.intro | omega | exact Nat.le_of_ble_eq_true rfl))) ?_
  refine Tr.imp (st' := ⟨[(0, SL l), (3, .slc 0 1 0 0 0), (4, I 0)], [(0, .arr 1 (uL (l.take 0)))], 1, 21, [], 0⟩) (Imp.goV 1 rfl rfl rfl rfl (by repeat' (first | exact trivial | exact F2.nil | refine F2.cons ?_ ?_ | refine TmV.cons rfl VnS.nil ?_ | refine TmV.cons rfl VnS.same ?_ | refine ⟨rfl, ?_⟩ | exact VnO.same _ | refine VnO.arr ?_ | exact VnS.nil | exact VnS.same | exact F2.refl fun _ _ => VnS.same)) (by repeat' (first | exact trivial | exact F2.nil | refine F2.cons ?_ ?_ | refine TmV.cons rfl VnS.nil ?_ | refine TmV.cons rfl VnS.same ?_ | refine ⟨rfl, ?_⟩ | exact VnO.same _ | refine VnO.arr ?_ | exact VnS.nil | exact VnS.same | exact F2.refl fun _ _ => VnS.same))) (Tr.block (Tr.loopI (fun mm ss => ∃ (k : Nat), (k ≤ l.length) ∧ l.length - k = mm ∧ ss = ⟨[(0, SL l), (3, .slc 0 1 0 k k), (4, I k)], [(0, .arr 1 (uL (l.take k)))], 1, 21, [], 0⟩) _ ⟨0, ?_, rfl, rfl⟩ ?_))
  · (repeat' (first | rfl | exact trivial | exact fun h => h | exact fun h => (by rw [h]; rfl) | apply And.intro | omega | exact Nat.le_of_ble_eq_true rfl))
  rintro mm ss ⟨k, hI, rfl, rfl⟩
  refine Tr.seq ?_
  refine Tr.reg [0, 3, 4, 8] (by
      simp only [↓sxd, sxu, ↓zE, ↓exq, ↓zB, St.keep, ↓zJ, Nat.reduceBEq, Nat.reduceLT, sxe, tysW32_50]
      (repeat' (first | rfl | exact trivial | exact fun h => h | exact fun h => (by rw [h]; rfl) | apply And.intro | omega | exact Nat.le_of_ble_eq_true rfl))) ?_
  refine Tr.cond rfl (fun h8 => ?_) (fun h8 => ?_)
  · have hlt : k < l.length := by simpa using h8
    have hx := hls _ (getD_memI hlt)
    have htl : (l.take k).length = k := by rw [List.length_take]; omega
    refine Tr.skip ?_
    refine Tr.seq ?_
    refine Tr.block ?_
    have hx2 : ((l.getD k []).length ≤ 1073741824) = True := eq_true (by omega)
    have hk2 : (k + 1 ≤ 1073741824) = True := by simp; omega
    refine Tr.reg1 [0, 3, 4] (by
        simp only [↓sxd, sxu, ↓zE, ↓exq, ↓zB, St.keep, ↓zD, ↓zG, ↓zQ, Nat.reduceBEq, Nat.reduceAdd, Nat.reduceLT, Nat.reduceLeDiff, Nat.reduceEqDiff, sxe, tysW32_50, hlt, src_vI, vI_all, hx2, hk2, htl]
        (repeat' (first | rfl | exact trivial | exact fun h => h | exact fun h => (by rw [h]; rfl) | apply And.intro | omega | exact Nat.le_of_ble_eq_true rfl))) ?_
    have w1 : IntKind.i64.wrap ((k : Int) + 1) = ((k + 1 : Nat) : Int) := by rw [wr (by omega) (by omega)]; rfl
    refine Tr.reg1 [0, 3, 4] (by
        simp only [↓sxd, sxu, ↓zE, ↓exq, St.keep, Nat.reduceBEq, Nat.reduceLT, w1]
        (repeat' (first | rfl | exact trivial | exact fun h => h | exact fun h => (by rw [h]; rfl) | apply And.intro | omega | exact Nat.le_of_ble_eq_true rfl))) ?_
    refine ⟨_, _, ?_, ?_, ⟨k + 1, hlt, rfl, rfl⟩⟩
    · omega
    · rw [uL_take hlt]
      exact Imp.go (fun i => i + 3) [(3, .arr 1 (uL (l.take k) ++ [[.slc 1 1 0 (l.getD k []).length (l.getD k []).length]]))] rfl rfl (.cons_cons _ (.cons _ (.cons _ .slnil))) (fun _ h => absurd h (Nat.not_lt_zero _)) (fun id h => Nat.add_le_add_right h 3) (by repeat' (first | exact TmT.cons rfl (TnS.d _) ?_ | exact trivial | exact F2.nil | refine F2.append ?_ ?_ | refine F2.map fun _ _ => ?_ | refine F2.cons ?_ ?_ | refine TmT.cons rfl ?_ ?_ | exact TnS.d _ | exact TnS.dx _ | exact TnS.dp _ | exact TnS.slc rfl | exact TnS.ptr rfl | refine TnS.frzf rfl (by simp) (by simp) (by simp) ?_ | refine TnS.frz0 rfl (by simp) (by simp) (by simp) ?_ | refine TnS.frzm rfl (by simp) ?_ | exact TnS.mapr rfl | exact TnS.yld rfl | refine ⟨rfl, ?_⟩ | refine TnO.arr ?_ | refine TnO.map ?_ | exact TnO.raw _ | exact TnO.iter _ _ | refine TnS.agg ?_ | refine TnS.tup ?_ | exact TnS.pure (Pure.clo (by assumption) (by assumption)) | refine TnS.clo ?_ ?_ | exact TnS.unk _ | exact TnS.pure (Pure.clo (by assumption) (by assumption)))) (.cons ⟨rfl, TnO.arr (F2.append (uL_tn _) (.cons (.cons (TnS.frz0 (id := 1) (sz := 1) (len := (l.getD k []).length) (es := vI (l.getD k [])) rfl (by simp) (by simp) (by simp) (vI_fz _)) .nil) .nil))⟩ .nil) (fun h => h)
  · have hge : k = l.length := by simp at h8; omega
    subst hge
    rw [List.take_length]
    refine Tr.exit ?_
    refine Tr.reg [2] (by
        simp only [↓sxd, sxu, ↓zE, ↓exq, St.keep, Nat.reduceBEq, Nat.reduceLT]
        (repeat' (first | rfl | exact trivial | exact fun h => h | exact fun h => (by rw [h]; rfl) | apply And.intro | omega | exact Nat.le_of_ble_eq_true rfl))) ?_
    refine Tr.imp (Imp.fin (tm' := [(2, SL l)]) ?_) ?_
    · exact .cons rfl (TnS.frz0 (es := uL l) rfl (by simp) (by simp) (by simp) (uL_fz _)) trivial
    refine Tr.ret ?_
    (refine ⟨.inr rfl, ?_⟩; first | rfl | exact ⟨rfl, rfl, trivial⟩ | exact ⟨rfl, rfl, rfl, trivial⟩ | (simp only [Res, ResL, ResOK, ↓sxd, sxu, ↓zE, ↓zC, zK, ↓exP, ↓exq, ↓zB, St.keep, ↓zL, ↓zJ, ↓zD, ↓zG, ↓zQ, Nat.reduceBEq, Nat.reduceAdd, Nat.reduceLT, Nat.reduceMul, Nat.reduceSub, Nat.reduceLeDiff, Nat.reduceEqDiff, Int.reduceLE, Int.reduceLT, Int.reduceToNat, reduceIte, implies_true, sxe, tysW32_50]; (repeat' (first | rfl | exact trivial | exact fun h => h | exact fun h => (by rw [h]; rfl) | apply And.intro | omega | exact Nat.le_of_ble_eq_true rfl))))
abbrev tysW32_38 := And.intro ty.sz0 <| And.intro ty.agg0 <| And.intro ty.elem0 <| And.intro ty.sz39 <| And.intro ty.agg39 <| And.intro ty.elem39 <| And.intro ty.by39 <| And.intro ty.ez39 <| And.intro ty.zero39 <| And.intro ty.und39 <| And.intro ty.sz43 <| And.intro ty.agg43 <| And.intro ty.elem43 <| And.intro ty.by43 <| And.intro ty.ez43 <| And.intro ty.zero43 <| And.intro ty.und43 <| And.intro ty.sz55 <| And.intro ty.agg55 <| And.intro ty.fld55_0 <| And.intro ty.fld55_1 <| And.intro ty.elem55 <| And.intro ty.zero55 <| And.intro ty.pl55 <| And.intro ty.sz59 <| And.intro ty.agg59 <| And.intro ty.fld59_0 <| And.intro ty.fld59_1 <| And.intro ty.elem59 <| And.intro ty.zero59 <| ty.pl59
theorem Coding_c (c : Coding) (hl : c.codes.length ≤ 1000) (hls : ∀ x ∈ c.codes, x.length ≤ 1000) (hw : c.wrong.length ≤ 1000) : CallP Tryd.prog G0 38 [c.s] c.s := by
  refine CallP.body 11 [.cell 2 59] Tryd.func38 (by kernel_rfl) rfl rfl rfl (by repeat' (first | exact Pure.d _ | exact Pure.dx _ | exact Pure.dp _ | exact fa_nil | refine fa_cons ?_ ?_ | refine Pure.agg ?_ | refine Pure.tup ?_ | refine Pure.clo ?_ ?_ | refine Pure.fp ?_ | exact Pure.mapd _ | assumption)) (by repeat' (first | exact Pure.d _ | exact Pure.dx _ | exact Pure.dp _ | exact fa_nil | refine fa_cons ?_ ?_ | refine Pure.agg ?_ | refine Pure.tup ?_ | refine Pure.clo ?_ ?_ | refine Pure.fp ?_ | exact Pure.mapd _ | assumption)) ?_
  refine Tr.reg [1, 2] (by
      simp only [↓sxd, sxu, ↓zE, ↓exq, St.keep, ↓zM, ↓zI, Nat.reduceBEq, Nat.reduceAdd, Nat.reduceLT, Nat.reduceEqDiff, tysW32_38]
      (repeat' (first | rfl | exact trivial | exact fun h => h | exact fun h => (by rw [h]; rfl) | apply And.intro | omega | exact Nat.le_of_ble_eq_true rfl))) ?_
  have hw2 : (c.wrong.length ≤ 1073741824) = True := by simp; omega
  refine Tr.regD [0, 1, 2, 3, 4, 5, 6, 7, 8] [6, 8] [] [2] mix (by kernel_rfl) (by
      simp only [↓sxd, sxu, ↓zC, zK, ↓exq, St.keep, ↓zD, ↓zA, Nat.reduceBEq, Nat.reduceAdd, Nat.reduceLT, Nat.reduceEqDiff, tysW32_38]
      (repeat ((with_reducible refine And.intro ?_ ?_); (focus (first | with_reducible rfl | trivial | exact fun h => h | exact fun h => (by rw [h]; rfl) | omega | assumption))))
      refine CallD.use (rows_c c.codes hl hls) ?_
      try simp only [↓sxd, sxu, ↓zC, zK, ↓exq, ↓zB, ↓zD, ↓zO, ↓zG, ↓zQ, ↓zA, Nat.reduceBEq, Nat.reduceAdd, Nat.reduceLT, Nat.reduceLeDiff, Nat.reduceEqDiff, tysW32_38, src_vI, vI_all, hw2]
      (repeat' (first | rfl | exact trivial | exact fun h => h | exact fun h => (by rw [h]; rfl) | apply And.intro | omega | exact Nat.le_of_ble_eq_true rfl))) ?_
  refine Tr.imp (st' := ⟨[(2, .ptr 1 0 0)], [(1, .arr 2 [[SL c.codes, SI c.wrong]])], _, _, [], _⟩) (Imp.go (fun i => i) [(1, _)] rfl rfl (.cons _ (.cons_cons _ (.cons _ .slnil))) (fun _ _ => rfl) (fun _ h => h) (by repeat' (first | exact TmT.cons rfl (TnS.d _) ?_ | exact trivial | exact F2.nil | refine F2.append ?_ ?_ | refine F2.map fun _ _ => ?_ | refine F2.cons ?_ ?_ | refine TmT.cons rfl ?_ ?_ | exact TnS.d _ | exact TnS.dx _ | exact TnS.dp _ | exact TnS.slc rfl | exact TnS.ptr rfl | refine TnS.frzf rfl (by simp) (by simp) (by simp) ?_ | refine TnS.frz0 rfl (by simp) (by simp) (by simp) ?_ | refine TnS.frzm rfl (by simp) ?_ | exact TnS.mapr rfl | exact TnS.yld rfl | refine ⟨rfl, ?_⟩ | refine TnO.arr ?_ | refine TnO.map ?_ | exact TnO.raw _ | exact TnO.iter _ _ | refine TnS.agg ?_ | refine TnS.tup ?_ | exact TnS.pure (Pure.clo (by assumption) (by assumption)) | refine TnS.clo ?_ ?_ | exact TnS.unk _ | exact TnS.pure (Pure.clo (by assumption) (by assumption)))) (.cons ⟨rfl, TnO.arr (.cons (.cons (TnS.d _) (.cons (TnS.frz0 (es := vI c.wrong) rfl (by simp) (by simp) (by simp) (vI_fz _)) .nil)) .nil)⟩ .nil) (fun _ => rfl)) ?_
  refine Tr.ret ?_
  (refine ⟨.inr rfl, ?_⟩; first | rfl | exact ⟨rfl, rfl, trivial⟩ | exact ⟨rfl, rfl, rfl, trivial⟩ | (simp only [Res, ResOK, sxu, ↓zD, Nat.reduceAdd, Nat.reduceLT, tysW32_38]; (repeat' (first | rfl | exact trivial | exact fun h => h | exact fun h => (by rw [h]; rfl) | apply And.intro | omega | exact Nat.le_of_ble_eq_true rfl))))
end Go.Proofs.YtcnkbdfkjhlbiaaDoor
namespace Go.Proofs.YtcnkbdfkjhlbiaaDoor
set_option maxRecDepth 8000
def nth : Nat → Nat → List Int
  | _, 0 => []
  | n, l + 1 => ((n % 10 : Nat) : Int) :: nth (n / 10) l
theorem fine_ctried {c : Coding} (h : CodingFine c) (hk : c.check = 0) : c.tried = if c.goes c.root.2 0 e000 then 0 else 9 := by
  unfold Coding.tried
  rw [if_neg (fun hc => hc hk)]
end Go.Proofs.YtcnkbdfkjhlbiaaDoor
namespace Go.Proofs.YtcnkbdfkjhlbiaaDoor
open Go.Sy
set_option maxRecDepth 8000
theorem ib (p q : Nat) : ((p : Int) == (q : Int)) = (p == q) := by
  rw [Bool.eq_iff_iff, beq_iff_eq, beq_iff_eq]; omega
end Go.Proofs.YtcnkbdfkjhlbiaaDoor
namespace Go.Proofs.YtcnkbdfkjhlbiaaDoor
open Go.Sy
set_option maxRecDepth 8000
theorem tmod10 (n : Nat) : (n : Int).tmod 10 = ((n % 10 : Nat) : Int) := by
  rw [Int.natCast_emod, Int.tmod_eq_emod_of_nonneg (Int.natCast_nonneg _)]; rfl
theorem tdiv10 (n : Nat) : (n : Int).tdiv 10 = ((n / 10 : Nat) : Int) := by
  rw [Int.natCast_ediv, Int.tdiv_eq_ediv_of_nonneg (Int.natCast_nonneg _)]; rfl
abbrev tysW33_40 := And.intro ty.sz3 <| And.intro ty.agg3 <| And.intro ty.elem3 <| And.intro ty.zero3 <| And.intro ty.und3 <| And.intro ty.sz4 <| And.intro ty.agg4 <| And.intro ty.elem4 <| And.intro ty.zero4 <| And.intro ty.und4 <| And.intro ty.sz43 <| And.intro ty.agg43 <| And.intro ty.elem43 <| And.intro ty.by43 <| And.intro ty.ez43 <| And.intro ty.zero43 <| ty.und43
theorem Nth_c (n l : Nat) (hn : n ≤ 1000000) (hl : l ≤ 100) : CallP Tryd.prog G0 40 [I n, I l] (SI (nth n l)) := by
  refine CallP.body 20 [.tmp 4] Tryd.func40 (by kernel_rfl) rfl rfl rfl (by repeat' (first | exact Pure.d _ | exact Pure.dx _ | exact Pure.dp _ | exact fa_nil | refine fa_cons ?_ ?_ | refine Pure.agg ?_ | refine Pure.tup ?_ | refine Pure.clo ?_ ?_ | refine Pure.fp ?_ | exact Pure.mapd _ | assumption)) (by repeat' (first | exact Pure.d _ | exact Pure.dx _ | exact Pure.dp _ | exact fa_nil | refine fa_cons ?_ ?_ | refine Pure.agg ?_ | refine Pure.tup ?_ | refine Pure.clo ?_ ?_ | refine Pure.fp ?_ | exact Pure.mapd _ | assumption)) ?_
  refine Tr.reg [0, 1] (by
      simp only [↓sxd, sxu, ↓zE, ↓exq, St.keep, Nat.reduceBEq, Nat.reduceAdd, Nat.reduceLT]
      (repeat' (first | rfl | exact trivial | exact fun h => h | exact fun h => (by rw [h]; rfl) | apply And.intro | omega | exact Nat.le_of_ble_eq_true rfl))) ?_
  refine Tr.reg [0, 1, 5] (by
      simp only [↓sxd, sxu, ↓zE, ↓exq, St.keep, Nat.reduceBEq, Nat.reduceLT]
      (repeat' (first | rfl | exact trivial | exact fun h => h | exact fun h => (by rw [h]; rfl) | apply And.intro | omega | exact Nat.le_of_ble_eq_true rfl))) ?_
  refine Tr.seq ?_
  refine Tr.reg [0, 1, 5, 6] (by
      simp only [↓sxd, sxu, ↓zE, ↓exq, St.keep, Nat.reduceBEq, Nat.reduceLT]
      (repeat' (first | rfl | exact trivial | exact fun h => h | exact fun h => (by rw [h]; rfl) | apply And.intro | omega | exact Nat.le_of_ble_eq_true rfl))) ?_
  refine Tr.imp (st' := ⟨[(0, I n), (1, I l), (5, .slc 0 1 0 [].length [].length), (6, I 0)], [(0, .arr 1 (vI []))], 1, 20, [], 0⟩) (Imp.goV 1 rfl rfl rfl rfl (by repeat' (first | exact trivial | exact F2.nil | refine F2.cons ?_ ?_ | refine TmV.cons rfl VnS.nil ?_ | refine TmV.cons rfl VnS.same ?_ | refine ⟨rfl, ?_⟩ | exact VnO.same _ | refine VnO.arr ?_ | exact VnS.nil | exact VnS.same | exact F2.refl fun _ _ => VnS.same)) (by repeat' (first | exact trivial | exact F2.nil | refine F2.cons ?_ ?_ | refine TmV.cons rfl VnS.nil ?_ | refine TmV.cons rfl VnS.same ?_ | refine ⟨rfl, ?_⟩ | exact VnO.same _ | refine VnO.arr ?_ | exact VnS.nil | exact VnS.same | exact F2.refl fun _ _ => VnS.same))) (Tr.block (Tr.loopI (fun mm ss => ∃ (m k : Nat) (o : List Int), (k ≤ l ∧ o.length = k ∧ m ≤ 1000000 ∧ o ++ nth m (l - k) = nth n l) ∧ l - k = mm ∧ ss = ⟨[(0, I m), (1, I l), (5, .slc 0 1 0 o.length o.length), (6, I k)], [(0, .arr 1 (vI o))], 1, 20, [], 0⟩) _ ⟨n, 0, [], ?_, rfl, rfl⟩ ?_))
  · exact ⟨Nat.zero_le _, rfl, hn, rfl⟩
  rintro mm ss ⟨m, k, o, hI, rfl, rfl⟩
  obtain ⟨hI, hol, hm, he⟩ := hI
  refine Tr.seq ?_
  refine Tr.reg [0, 1, 5, 6, 9] (by
      simp only [↓sxd, sxu, ↓zE, ↓exq, St.keep, Nat.reduceBEq, Nat.reduceLT, sxe]
      (repeat' (first | rfl | exact trivial | exact fun h => h | exact fun h => (by rw [h]; rfl) | apply And.intro | omega | exact Nat.le_of_ble_eq_true rfl))) ?_
  refine Tr.cond rfl (fun h9 => ?_) (fun h9 => ?_)
  · have hlt : k < l := by simpa using h9
    have hst : nth m (l - k) = ((m % 10 : Nat) : Int) :: nth (m / 10) (l - (k + 1)) := by
      rw [show l - k = (l - (k + 1)) + 1 by omega]; rfl
    refine Tr.skip ?_
    refine Tr.seq ?_
    refine Tr.block ?_
    have ho1 : (o.length + 1 ≤ 1073741824) = True := by simp; omega
    refine Tr.reg [0, 1, 5, 6] (by
        simp only [↓sxd, sxu, ↓zE, ↓exq, ↓zB, St.keep, ↓zG, ↓zQ, Nat.reduceBEq, Nat.reduceAdd, Nat.reduceLT, Nat.reduceLeDiff, Nat.reduceEqDiff, tysW33_40, tmod10, ho1]
        (repeat' (first | rfl | exact trivial | exact fun h => h | exact fun h => (by rw [h]; rfl) | apply And.intro | omega | exact Nat.le_of_ble_eq_true rfl))) ?_
    have wd : IntKind.i64.wrap ((m / 10 : Nat) : Int) = ((m / 10 : Nat) : Int) := wr (by omega) (by omega)
    refine Tr.reg1 [0, 1, 5, 6] (by
        simp only [↓sxd, sxu, ↓zE, ↓exq, St.keep, Nat.reduceBEq, Nat.reduceLT, tdiv10, wd]
        (repeat' (first | rfl | exact trivial | exact fun h => h | exact fun h => (by rw [h]; rfl) | apply And.intro | omega | exact Nat.le_of_ble_eq_true rfl))) ?_
    have w1 : IntKind.i64.wrap ((k : Int) + 1) = ((k + 1 : Nat) : Int) := by rw [wr (by omega) (by omega)]; rfl
    refine Tr.reg1 [0, 1, 5, 6] (by
        simp only [↓sxd, sxu, ↓zE, ↓exq, St.keep, Nat.reduceBEq, Nat.reduceLT, w1]
        (repeat' (first | rfl | exact trivial | exact fun h => h | exact fun h => (by rw [h]; rfl) | apply And.intro | omega | exact Nat.le_of_ble_eq_true rfl))) ?_
    exact ⟨_, _, by omega, Imp.go (fun i => i + 1) _ rfl rfl (List.Sublist.refl _) (by simp) (by simp) (by simp only [List.length_append, List.length_cons, List.length_nil, Nat.zero_add, Int.natCast_add, Int.natCast_one]; repeat' (first | exact TmT.cons rfl (TnS.d _) ?_ | exact trivial | exact F2.nil | refine F2.append ?_ ?_ | refine F2.map fun _ _ => ?_ | refine F2.cons ?_ ?_ | refine TmT.cons rfl ?_ ?_ | exact TnS.d _ | exact TnS.dx _ | exact TnS.dp _ | exact TnS.slc rfl | exact TnS.ptr rfl | refine TnS.frzf rfl (by simp) (by simp) (by simp) ?_ | refine TnS.frz0 rfl (by simp) (by simp) (by simp) ?_ | refine TnS.frzm rfl (by simp) ?_ | exact TnS.mapr rfl | exact TnS.yld rfl | refine ⟨rfl, ?_⟩ | refine TnO.arr ?_ | refine TnO.map ?_ | exact TnO.raw _ | exact TnO.iter _ _ | refine TnS.agg ?_ | refine TnS.tup ?_ | exact TnS.pure (Pure.clo (by assumption) (by assumption)) | refine TnS.clo ?_ ?_ | exact TnS.unk _ | exact TnS.pure (Pure.clo (by assumption) (by assumption)))) (by simp only [List.map_append, List.map_cons, List.map_nil]; repeat' (first | exact TmT.cons rfl (TnS.d _) ?_ | exact trivial | exact F2.nil | refine F2.append ?_ ?_ | refine F2.map fun _ _ => ?_ | refine F2.cons ?_ ?_ | refine TmT.cons rfl ?_ ?_ | exact TnS.d _ | exact TnS.dx _ | exact TnS.dp _ | exact TnS.slc rfl | exact TnS.ptr rfl | refine TnS.frzf rfl (by simp) (by simp) (by simp) ?_ | refine TnS.frz0 rfl (by simp) (by simp) (by simp) ?_ | refine TnS.frzm rfl (by simp) ?_ | exact TnS.mapr rfl | exact TnS.yld rfl | refine ⟨rfl, ?_⟩ | refine TnO.arr ?_ | refine TnO.map ?_ | exact TnO.raw _ | exact TnO.iter _ _ | refine TnS.agg ?_ | refine TnS.tup ?_ | exact TnS.pure (Pure.clo (by assumption) (by assumption)) | refine TnS.clo ?_ ?_ | exact TnS.unk _ | exact TnS.pure (Pure.clo (by assumption) (by assumption)))) (fun _ => rfl), ⟨m / 10, k + 1, o ++ [((m % 10 : Nat) : Int)], ⟨by omega, by simp; omega, by omega, by rw [← he, hst, List.append_assoc]; rfl⟩, rfl, rfl⟩⟩
  · have hge : k = l := by simp at h9; omega
    rw [hge, Nat.sub_self, nth, List.append_nil] at he
    refine Tr.exit ?_
    refine Tr.reg [4] (by
        simp only [↓sxd, sxu, ↓zE, ↓exq, St.keep, Nat.reduceBEq, Nat.reduceLT]
        (repeat' (first | rfl | exact trivial | exact fun h => h | exact fun h => (by rw [h]; rfl) | apply And.intro | omega | exact Nat.le_of_ble_eq_true rfl))) ?_
    refine Tr.imp (Imp.fin (tm' := [(4, SI (nth n l))]) ?_) ?_
    · rw [← he]
      exact TmT.cons rfl (TnS.frz0 (es := vI o) rfl (by simp) (by simp) (by simp) (vI_fz _)) trivial
    refine Tr.ret ?_
    (refine ⟨.inr rfl, ?_⟩; first | rfl | exact ⟨rfl, rfl, trivial⟩ | exact ⟨rfl, rfl, rfl, trivial⟩ | (simp only [Res, ResL, ResOK, ↓sxd, sxu, ↓zE, ↓zC, zK, ↓exP, ↓exq, ↓zB, St.keep, ↓zL, ↓zG, ↓zQ, Nat.reduceBEq, Nat.reduceAdd, Nat.reduceLT, Nat.reduceMul, Nat.reduceSub, Nat.reduceLeDiff, Nat.reduceEqDiff, Int.reduceLE, Int.reduceLT, Int.reduceToNat, reduceIte, implies_true, sxe, tysW33_40]; (repeat' (first | rfl | exact trivial | exact fun h => h | exact fun h => (by rw [h]; rfl) | apply And.intro | omega | exact Nat.le_of_ble_eq_true rfl))))
theorem sumTo_le {f : Nat → Nat} {b : Nat} (h : ∀ k, f k ≤ b) : ∀ n, sumTo f n ≤ n * b
  | 0 => Nat.zero_le _
  | n + 1 => by
    have := sumTo_le h n
    have := h n
    simp only [sumTo, Nat.succ_mul]; omega
abbrev tysW33_42 := And.intro ty.sz0 <| And.intro ty.agg0 <| And.intro ty.elem0 <| And.intro ty.sz3 <| And.intro ty.agg3 <| And.intro ty.elem3 <| And.intro ty.zero3 <| And.intro ty.und3 <| And.intro ty.sz4 <| And.intro ty.agg4 <| And.intro ty.elem4 <| And.intro ty.zero4 <| And.intro ty.und4 <| And.intro ty.sz39 <| And.intro ty.agg39 <| And.intro ty.elem39 <| And.intro ty.by39 <| And.intro ty.ez39 <| And.intro ty.zero39 <| And.intro ty.und39 <| And.intro ty.sz43 <| And.intro ty.agg43 <| And.intro ty.elem43 <| And.intro ty.by43 <| And.intro ty.ez43 <| And.intro ty.zero43 <| And.intro ty.und43 <| And.intro ty.sz55 <| And.intro ty.agg55 <| And.intro ty.fld55_0 <| And.intro ty.fld55_1 <| And.intro ty.elem55 <| And.intro ty.zero55 <| ty.pl55
theorem Total_c (c : Coding) (h : CodingFine c) (v : List Int) (hl : v.length = c.cols) : CallP Tryd.prog G0 42 [c.s, SI v] (I (totAt c 0 v : Nat)) := by
  have hc10 := h.ok.c10
  have hn3 := h.ok.n3
  obtain ⟨T, hT⟩ : ∃ T : Nat → Nat, ∀ n, T n = sumTo (fun k => errsAt c k 0 v) n := ⟨_, fun _ => rfl⟩
  have hTs : ∀ n, T (n + 1) = T n + errsAt c n 0 v := fun n => by rw [hT, hT]; rfl
  have hTb : ∀ n, T n ≤ n * 10 := fun n => by rw [hT]; exact sumTo_le (fun k => by have := errsAt_le c k v 0; omega) n
  rw [show totAt c 0 v = T c.codes.length from (hT _).symm]
  refine CallP.body 21 [.tmp 4] Tryd.func42 (by kernel_rfl) rfl rfl rfl (by repeat' (first | exact Pure.d _ | exact Pure.dx _ | exact Pure.dp _ | exact fa_nil | refine fa_cons ?_ ?_ | refine Pure.agg ?_ | refine Pure.tup ?_ | refine Pure.clo ?_ ?_ | refine Pure.fp ?_ | exact Pure.mapd _ | assumption)) (by repeat' (first | exact Pure.d _ | exact Pure.dx _ | exact Pure.dp _ | exact fa_nil | refine fa_cons ?_ ?_ | refine Pure.agg ?_ | refine Pure.tup ?_ | refine Pure.clo ?_ ?_ | refine Pure.fp ?_ | exact Pure.mapd _ | assumption)) ?_
  refine Tr.reg [1, 2] (by
      simp only [↓sxd, sxu, ↓zE, ↓exq, St.keep, ↓zI, Nat.reduceBEq, Nat.reduceAdd, Nat.reduceLT, Nat.reduceEqDiff]
      (repeat' (first | rfl | exact trivial | exact fun h => h | exact fun h => (by rw [h]; rfl) | apply And.intro | omega | exact Nat.le_of_ble_eq_true rfl))) ?_
  refine Tr.reg [1, 2, 5] (by
      simp only [↓sxd, sxu, ↓zE, ↓exq, St.keep, Nat.reduceBEq, Nat.reduceLT]
      (repeat' (first | rfl | exact trivial | exact fun h => h | exact fun h => (by rw [h]; rfl) | apply And.intro | omega | exact Nat.le_of_ble_eq_true rfl))) ?_
  refine Tr.seq ?_
  refine Tr.reg [1, 2, 5, 6] (by
      simp only [↓sxd, sxu, ↓zE, ↓exq, St.keep, Nat.reduceBEq, Nat.reduceLT]
      (repeat' (first | rfl | exact trivial | exact fun h => h | exact fun h => (by rw [h]; rfl) | apply And.intro | omega | exact Nat.le_of_ble_eq_true rfl))) ?_
  refine Tr.imp (st' := ⟨[(1, SI v), (2, .ptr 0 0 0), (5, I (T 0 : Nat)), (6, I 0)], [(0, .arr 2 [[SL c.codes, SI c.wrong]])], 1, 21, [], 0⟩) (by rw [show T 0 = 0 from hT 0]; exact Imp.keepAll) (Tr.block (Tr.loopI (fun mm ss => ∃ (k : Nat), (k ≤ c.codes.length) ∧ c.codes.length - k = mm ∧ ss = ⟨[(1, SI v), (2, .ptr 0 0 0), (5, I (T k : Nat)), (6, I k)], [(0, .arr 2 [[SL c.codes, SI c.wrong]])], 1, 21, [], 0⟩) _ ⟨0, ?_, rfl, rfl⟩ ?_))
  · (repeat' (first | rfl | exact trivial | exact fun h => h | exact fun h => (by rw [h]; rfl) | apply And.intro | omega | exact Nat.le_of_ble_eq_true rfl))
  rintro mm ss ⟨k, hI, rfl, rfl⟩
  refine Tr.seq ?_
  refine Tr.reg [1, 2, 5, 6, 11] (by
      simp only [↓sxd, sxu, ↓zE, ↓exq, ↓zB, St.keep, ↓zJ, ↓zD, ↓zA, Nat.reduceBEq, Nat.reduceAdd, Nat.reduceLT, Nat.reduceEqDiff, sxe, tysW33_42]
      (repeat' (first | rfl | exact trivial | exact fun h => h | exact fun h => (by rw [h]; rfl) | apply And.intro | omega | exact Nat.le_of_ble_eq_true rfl))) ?_
  refine Tr.cond rfl (fun h11 => ?_) (fun h11 => ?_)
  · have hlt : k < c.codes.length := by simpa using h11
    have hck := h.ok.cols k hlt
    have hb := hTb k
    have he := errsAt_le c k v 0
    refine Tr.skip ?_
    refine Tr.seq ?_
    refine Tr.block ?_
    have w2 : IntKind.i64.wrap ((T k : Int) + (errsAt c k 0 v : Int)) = ((T (k + 1) : Nat) : Int) := by rw [hTs, wr (by omega) (by omega)]; rfl
    refine Tr.reg1 [1, 2, 5, 6] (by
        simp only [↓sxd, sxu, ↓zE, ↓exq, St.keep, ↓zD, Nat.reduceBEq, Nat.reduceAdd, Nat.reduceLT, tysW33_42]
        (repeat ((with_reducible refine And.intro ?_ ?_); (focus (first | with_reducible rfl | trivial | exact fun h => h | exact fun h => (by rw [h]; rfl) | omega | assumption))))
        refine CallO.use (RErrors_c c k v hlt (by omega) (by omega)) ?_
        try simp only [↓sxd, sxu, ↓zE, ↓exq, Nat.reduceBEq, Nat.reduceLT, w2]
        (repeat' (first | rfl | exact trivial | exact fun h => h | exact fun h => (by rw [h]; rfl) | apply And.intro | omega | exact Nat.le_of_ble_eq_true rfl))) ?_
    have w1 : IntKind.i64.wrap ((k : Int) + 1) = ((k + 1 : Nat) : Int) := by rw [wr (by omega) (by omega)]; rfl
    refine Tr.reg1 [1, 2, 5, 6] (by
        simp only [↓sxd, sxu, ↓zE, ↓exq, St.keep, Nat.reduceBEq, Nat.reduceLT, w1]
        (repeat' (first | rfl | exact trivial | exact fun h => h | exact fun h => (by rw [h]; rfl) | apply And.intro | omega | exact Nat.le_of_ble_eq_true rfl))) ?_
    exact ⟨_, _, by omega, Imp.keepAll, ⟨k + 1, hlt, rfl, rfl⟩⟩
  · have hge : k = c.codes.length := by simp at h11; omega
    subst hge
    refine Tr.exit ?_
    refine Tr.reg [4] (by
        simp only [↓sxd, sxu, ↓zE, ↓exq, St.keep, Nat.reduceBEq, Nat.reduceLT]
        (repeat' (first | rfl | exact trivial | exact fun h => h | exact fun h => (by rw [h]; rfl) | apply And.intro | omega | exact Nat.le_of_ble_eq_true rfl))) ?_
    refine Tr.ret ?_
    (refine ⟨.inr rfl, ?_⟩; first | rfl | exact ⟨rfl, rfl, trivial⟩ | exact ⟨rfl, rfl, rfl, trivial⟩ | (simp only [Res, ResL, ResOK, ↓sxd, sxu, ↓zE, ↓zC, zK, ↓exP, ↓exq, ↓zB, St.keep, ↓zL, ↓zJ, ↓zD, ↓zI, ↓zA, Nat.reduceBEq, Nat.reduceAdd, Nat.reduceLT, Nat.reduceMul, Nat.reduceSub, Nat.reduceLeDiff, Nat.reduceEqDiff, Int.reduceLE, Int.reduceLT, Int.reduceToNat, reduceIte, implies_true, sxe, tysW33_42]; (repeat' (first | rfl | exact trivial | exact fun h => h | exact fun h => (by rw [h]; rfl) | apply And.intro | omega | exact Nat.le_of_ble_eq_true rfl))))
abbrev cells (f : Nat → Nat → Bool) : List SV := (List.range 30).map fun q => B (f (q / 10) (q % 10))
end Go.Proofs.YtcnkbdfkjhlbiaaDoor
namespace Go.Proofs.YtcnkbdfkjhlbiaaDoor
set_option maxRecDepth 8000
structure Says (c x : Census) : Prop where
  len : x.entries.length = c.entries.length
  ent : ∀ i, i < c.entries.length → (x.entry i).sched = (c.entry i).sched ∧ (x.entry i).sex = (c.entry i).sex ∧ (x.entry i).key = (c.entry i).key ∧ (c.entry i).ages.lo ≤ (x.entry i).ages.lo ∧ (x.entry i).ages.hi ≤ (c.entry i).ages.hi
  same : ∀ p ∈ c.same, p ∈ x.same
  apart : ∀ p ∈ c.apart, p ∈ x.apart
  om : c.omitted.lo ≤ x.omitted.lo ∧ x.omitted.hi ≤ c.omitted.hi
  nu : c.number.lo ≤ x.number.lo ∧ x.number.hi ≤ c.number.hi
structure Moves (c x : Census) (s : Nat → Nat) : Prop where
  len : x.entries.length = c.entries.length
  to : ∀ i, i < c.entries.length → s i < c.entries.length
  inj : ∀ i k, i < c.entries.length → k < c.entries.length → s i = s k → i = k
  sur : ∀ j, j < c.entries.length → ∃ i, i < c.entries.length ∧ s i = j
  ent : ∀ i, i < c.entries.length → x.entry i = c.entry (s i)
  same : ∀ p ∈ x.same, ∃ q ∈ c.same, s p.fst.toNat = q.fst.toNat ∧ s p.snd.toNat = q.snd.toNat
  apart : ∀ p ∈ x.apart, ∃ q ∈ c.apart, s p.fst.toNat = q.fst.toNat ∧ s p.snd.toNat = q.snd.toNat
end Go.Proofs.YtcnkbdfkjhlbiaaDoor
namespace Go.Proofs.YtcnkbdfkjhlbiaaDoor
open Go.Sy
set_option maxRecDepth 8000
theorem wi {n : Nat} (h : n < 9223372036854775808) : IntKind.i64.wrap (n : Int) = n := wr (by omega) (by omega)
end Go.Proofs.YtcnkbdfkjhlbiaaDoor
namespace Go.Proofs.YtcnkbdfkjhlbiaaDoor
open Go.Sy
set_option maxRecDepth 8000
theorem tmod_n (a n : Nat) : ((a : Nat) : Int).tmod (n : Int) = ((a % n : Nat) : Int) := by
  rw [Int.natCast_emod, Int.tmod_eq_emod_of_nonneg (Int.natCast_nonneg _)]
end Go.Proofs.YtcnkbdfkjhlbiaaDoor
namespace Go.Proofs.YtcnkbdfkjhlbiaaDoor
open Go.Sy
set_option maxRecDepth 8000
theorem tmod4 (n : Nat) : (n : Int).tmod 4 = ((n % 4 : Nat) : Int) := tmod_n n 4
structure Nar (c : Census) (E : List Entry) (O N : Rng) : Prop where
  len : E.length = c.entries.length
  val : ∀ e ∈ E, Entry.valid e = true
  ent : ∀ i, i < c.entries.length → (E.getD i default).sched = (c.entry i).sched ∧ (E.getD i default).sex = (c.entry i).sex ∧ (E.getD i default).key = (c.entry i).key ∧ (c.entry i).ages.lo ≤ (E.getD i default).ages.lo ∧ (E.getD i default).ages.hi ≤ (c.entry i).ages.hi
  om : c.omitted.lo ≤ O.lo ∧ O.lo ≤ O.hi ∧ O.hi ≤ c.omitted.hi
  nu : c.number.lo ≤ N.lo ∧ N.lo ≤ N.hi ∧ N.hi ≤ c.number.hi
end Go.Proofs.YtcnkbdfkjhlbiaaDoor
namespace Go.Sy
section
variable {P : Program} {G : Nat → Option (List D)} {ro : Option Nat} {ops : Array Oper} {ul louds : List Nat}
def crossB (m : List Nat) (L1 L2 : List (Nat × Oper × Bool)) : Bool := L1.all fun x => L2.all fun y => !(y.2.2 && isRd x.2.1) || Bf m x.1 y.1
theorem RunL_append : ∀ {e1 e2 : List Ev} {a b c : St}, RunL a e1 b → RunL b e2 c → RunL a (e1 ++ e2) c
  | [], _, _, _, _, h1, h2 => by
    have h1 : _ = _ := h1
    subst h1; exact h2
  | _ :: _, _, _, _, _, ⟨h1, h2, h3⟩, h => ⟨h1, h2, RunL_append h3 h⟩
theorem mkL_append (ops : List Oper) : ∀ (a b : List Nat), mkL louds ops (a ++ b) = mkL louds ops a ++ mkL louds ops b
  | [], _ => rfl
  | i :: a, b => by
    simp only [List.cons_append, mkL, mkL_append ops a b]
    cases ops[i]? <;> rfl
theorem Tr.draw2 {id : Nat} {L1 L2 : List (Nat × Oper × Bool)} {st : St} {Q : Exit → St → Prop} (hmix : P.follows .mixedOrders = true) (hc : dChk (Region.before ops).toList ops ul (L1 ++ L2) = true) (hx : crossB (Region.before ops).toList L1 L2 = true)
    (hg : ∀ x ∈ L1 ++ L2, ops[x.1]? = some x.2.1) (h : exD P G ops ul L1 st [] fun s => exD P G ops ul L2 s [] (Q .normal)) : Tr P G ro (.region id ops true) st Q := by
  intro O M pb pl a w hR
  obtain ⟨ev1, st1, a1, a2, a3, a4, a5, a6⟩ := vV L1 st [] h
  obtain ⟨ev2, stf, b1, b2, b3, b4, b5, b6⟩ := vV L2 st1 [] a6
  have h1 := RunL_append a1 b1
  have h2 : (ev1 ++ ev2).map (fun e => (e.i, e.o, e.ld)) = L1 ++ L2 := by rw [List.map_append, a2, b2]
  have h3 : ∀ e ∈ ev1 ++ ev2, EvAt P G ops e.ld e.o e.st e.r e.hp e.nx := fun e he => by
    rcases List.mem_append.1 he with he | he
    · exact a3 e he
    · exact b3 e he
  obtain ⟨d1, d2, d3, d4⟩ := DOk_of hc hg h2
  refine wpIn_region_any hmix ?_
  have hst : Step (ownOf pl st.hp) (ownOf pl st.hp) w { w with drawn := w.drawn + 1 } := ⟨Nat.le_refl _, fun _ _ _ => rfl, rfl, rfl, fun _ h => .inl h⟩
  have hadd : Add w { w with drawn := w.drawn + 1 } := ⟨Nat.le_refl _, fun _ _ => rfl, rfl, rfl⟩
  have h5 : (ev1 ++ ev2).Pairwise (fun x y => y.ld = true → isRd x.o = true → Bf (Region.before ops).toList x.i y.i = true ∨ (ul.contains x.i = true → ∀ id, rdEv G x.o x.st = some id → y.hp.lookup id = y.st.hp.lookup id)) := by
    refine List.pairwise_append.2 ⟨a5.imp fun h hl _ => .inr (h hl), b5.imp fun h hl _ => .inr (h hl), fun x hx1 y hy1 hl hr => .inl ?_⟩
    have hx2 : (x.i, x.o, x.ld) ∈ L1 := by rw [← a2]; exact List.mem_map_of_mem (f := fun e : Ev => (e.i, e.o, e.ld)) hx1
    have hy2 : (y.i, y.o, y.ld) ∈ L2 := by rw [← b2]; exact List.mem_map_of_mem (f := fun e : Ev => (e.i, e.o, e.ld)) hy1
    have := List.all_eq_true.1 (List.all_eq_true.1 hx _ hx2) _ hy2
    simpa [hl, hr] using this
  refine draw_sim (own0 := ownOf pl st.hp) (w0 := w) d1 h1 (fun e he => ⟨h3 e he, d2 e he⟩) ?_ ?_ (fun pl' a' w' hR' hs' => ⟨pl', stf, b6, hR', hs'⟩) ops.size (Array.replicate ops.size false) pl st a _ ?_ ?_
  · refine (d4.and h5).imp fun {x y} ⟨h1, h2⟩ hl => ?_
    by_cases hr : isRd x.o = true
    · rcases h1 hl hr with h | h
      · exact .inl h
      · rcases h2 hl hr with h' | h'
        · exact .inl h'
        · exact .inr fun id hid => h' h id hid
    · exact .inr fun id hid => absurd (rdEv_isRd (by rw [hid]; rfl)) hr
  · exact d3.imp fun h hl hr => h hl (rdEv_isRd hr)
  · have hlen : (L1 ++ L2).length = ops.size := by
      simp only [dChk, Bool.and_eq_true] at hc
      simpa using hc.1.1.1.1
    have : ∀ e : Ev, (!(Array.replicate ops.size false).getD e.i false) = true := fun e => by
      by_cases hlt : e.i < ops.size <;> simp [hlt]
    rw [List.filter_eq_self.2 fun e _ => this e, ← hlen, ← h2, List.length_map]
  · have h0 : ∀ i, (Array.replicate ops.size false).getD i false = false := fun i => by
      by_cases hlt : i < ops.size <;> simp [hlt]
    refine ⟨by simp, fun i o hi => ?_, ⟨hR.hs.add hadd, hR.tm.ext hadd.ext (fun _ _ h => h), hR.nt, hR.dfStep hst, hR.bd⟩, hst, fun t => ?_, ?_, rfl, rfl, rfl⟩
    · rw [h0] at hi; cases hi
    · rw [foldT_none (ev1 ++ ev2) _ fun e _ _ => h0 e.i]
    · rw [foldH_none (ev1 ++ ev2) _ fun e _ _ => h0 e.i]
theorem Tr.regD2 {id : Nat} {y : Code} {st : St} {Q : Exit → St → Prop} (is1 is2 louds ul ks : List Nat) {st' : St} (hmix : P.follows .mixedOrders = true)
    (hc : (dChk (Region.before ops).toList ops ul (mkL louds ops.toList (is1 ++ is2)) && crossB (Region.before ops).toList (mkL louds ops.toList is1) (mkL louds ops.toList is2)) = true)
    (h : exY P G ops ul louds is1 st [] fun s1 => exY P G ops ul louds is2 s1 [] fun s => s.keep ks = st') (hy : Tr P G ro y st' Q) : Tr P G ro (.seq (.region id ops true) y) st Q := by
  rw [Bool.and_eq_true, mkL_append] at hc
  refine Tr.seq ((Tr.draw2 (Q := fun x s => match x with | .normal => s.keep ks = st' | _ => False) hmix hc.1 hc.2 (fun x hx => ?_) h).mono ?_)
  · rw [← mkL_append] at hx
    have := mkL_get hx
    simpa using this
  · intro x s hx
    cases x with
    | normal => exact Tr.imp (hx ▸ Imp.keep ks) hy
    | _ => exact hx.elim
theorem Tr.regD21 {id : Nat} {st : St} {Q : Exit → St → Prop} (is1 is2 louds ul ks : List Nat) {st' : St} (hmix : P.follows .mixedOrders = true)
    (hc : (dChk (Region.before ops).toList ops ul (mkL louds ops.toList (is1 ++ is2)) && crossB (Region.before ops).toList (mkL louds ops.toList is1) (mkL louds ops.toList is2)) = true)
    (h : exY P G ops ul louds is1 st [] fun s1 => exY P G ops ul louds is2 s1 [] fun s => s.keep ks = st') (hq : Q .normal st') : Tr P G ro (.region id ops true) st Q := by
  rw [Bool.and_eq_true, mkL_append] at hc
  refine Tr.post ((Tr.draw2 (Q := fun x s => match x with | .normal => s.keep ks = st' | _ => False) hmix hc.1 hc.2 (fun x hx => ?_) h).mono ?_)
  · rw [← mkL_append] at hx
    have := mkL_get hx
    simpa using this
  · intro x s hx
    cases x with
    | normal => exact ⟨st', hx ▸ Imp.keep ks, hq⟩
    | _ => exact hx.elim
end
end Go.Sy
namespace Go.Proofs.YtcnkbdfkjhlbiaaDoor
open Go.Sy
set_option maxRecDepth 8000
def wordOf (ws : List Nat) (a : Nat) : Nat := if ws.length = 0 then 0 else ws.getD (a % ws.length) 0
theorem wordOf_lt {ws : List Nat} (hw : ∀ n ∈ ws, n < 65536) (a : Nat) : wordOf ws a < 65536 := by
  unfold wordOf
  split
  · omega
  · exact hw _ (getD_mem (Nat.mod_lt _ (by omega)))
abbrev tysW37_45 := And.intro ty.sz0 <| And.intro ty.agg0 <| And.intro ty.elem0 <| And.intro ty.sz3 <| And.intro ty.agg3 <| And.intro ty.elem3 <| And.intro ty.zero3 <| And.intro ty.und3 <| And.intro ty.sz4 <| And.intro ty.agg4 <| And.intro ty.elem4 <| And.intro ty.zero4 <| And.intro ty.und4 <| And.intro ty.sz77 <| And.intro ty.agg77 <| And.intro ty.elem77 <| And.intro ty.zero77 <| And.intro ty.und77 <| And.intro ty.sz79 <| And.intro ty.agg79 <| And.intro ty.elem79 <| And.intro ty.by79 <| And.intro ty.ez79 <| And.intro ty.zero79 <| ty.und79
theorem word_c (ws : List Nat) (hw : ∀ n ∈ ws, n < 65536) (a : Nat) : CallP Tryd.prog G0 45 [SW ws, I a] (I (wordOf ws a : Nat)) := by
  refine CallP.body 16 [.tmp 4] Tryd.func45 (by kernel_rfl) rfl rfl rfl (by repeat' (first | exact Pure.d _ | exact Pure.dx _ | exact Pure.dp _ | exact fa_nil | refine fa_cons ?_ ?_ | refine Pure.agg ?_ | refine Pure.tup ?_ | refine Pure.clo ?_ ?_ | refine Pure.fp ?_ | exact Pure.mapd _ | assumption)) (by repeat' (first | exact Pure.d _ | exact Pure.dx _ | exact Pure.dp _ | exact fa_nil | refine fa_cons ?_ ?_ | refine Pure.agg ?_ | refine Pure.tup ?_ | refine Pure.clo ?_ ?_ | refine Pure.fp ?_ | exact Pure.mapd _ | assumption)) ?_
  refine Tr.reg [0, 1] (by
      simp only [↓sxd, sxu, ↓zE, ↓exq, St.keep, Nat.reduceBEq, Nat.reduceAdd, Nat.reduceLT]
      (repeat' (first | rfl | exact trivial | exact fun h => h | exact fun h => (by rw [h]; rfl) | apply And.intro | omega | exact Nat.le_of_ble_eq_true rfl))) ?_
  refine Tr.seq ?_
  refine Tr.reg [0, 1, 7] (by
      simp only [↓sxd, sxu, ↓zE, ↓exq, ↓zB, St.keep, ↓zJ, Nat.reduceBEq, Nat.reduceLT, sxe, tysW37_45]
      (repeat' (first | rfl | exact trivial | exact fun h => h | exact fun h => (by rw [h]; rfl) | apply And.intro | omega | exact Nat.le_of_ble_eq_true rfl))) ?_
  refine Tr.cond rfl (fun h7 => ?_) (fun h7 => ?_)
  · have h0 : ws.length = 0 := by have := beq_iff_eq.1 h7; omega
    rw [show wordOf ws a = 0 from if_pos h0]
    refine Tr.reg [4] (by
        simp only [↓sxd, sxu, ↓zE, ↓exq, St.keep, Nat.reduceLT]
        (repeat' (first | rfl | exact trivial | exact fun h => h | exact fun h => (by rw [h]; rfl) | apply And.intro | omega | exact Nat.le_of_ble_eq_true rfl))) ?_
    refine Tr.ret ?_
    (refine ⟨.inr rfl, ?_⟩; first | rfl | exact ⟨rfl, rfl, trivial⟩ | exact ⟨rfl, rfl, rfl, trivial⟩ | (simp only [Res, ResL, ResOK, ↓sxd, sxu, ↓zE, ↓zC, zK, ↓exP, ↓exq, ↓zB, St.keep, ↓xB, ↓zL, ↓zJ, ↓zD, Nat.reduceBEq, Nat.reduceAdd, Nat.reduceLT, Nat.reduceMul, Nat.reduceSub, Nat.reduceLeDiff, Nat.reduceEqDiff, Int.reduceLE, Int.reduceLT, Int.reduceToNat, reduceIte, implies_true, sxe, tysW37_45]; (repeat' (first | rfl | exact trivial | exact fun h => h | exact fun h => (by rw [h]; rfl) | apply And.intro | omega | exact Nat.le_of_ble_eq_true rfl))))
  · have h0 : ¬ ws.length = 0 := fun hc => by rw [hc] at h7; cases h7
    have hlt : a % ws.length < ws.length := Nat.mod_lt _ (by omega)
    have hne : ((ws.length : Int) = 0) = False := eq_false (by omega)
    have hb := hw _ (getD_mem (d := 0) hlt)
    rw [show wordOf ws a = ws.getD (a % ws.length) 0 from if_neg h0]
    refine Tr.skip ?_
    refine Tr.reg [4] (by
        simp only [↓sxd, sxu, ↓zE, ↓exq, ↓zB, St.keep, ↓xB, ↓zJ, ↓zD, Nat.reduceBEq, Nat.reduceLT, sxe, tysW37_45, tmod_n, hlt, hne, wi (show ws.getD (a % ws.length) 0 < 9223372036854775808 by omega)]
        (repeat' (first | rfl | exact trivial | exact fun h => h | exact fun h => (by rw [h]; rfl) | apply And.intro | omega | exact Nat.le_of_ble_eq_true rfl))) ?_
    refine Tr.ret ?_
    (refine ⟨.inr rfl, ?_⟩; first | rfl | exact ⟨rfl, rfl, trivial⟩ | exact ⟨rfl, rfl, rfl, trivial⟩ | (simp only [Res, ResL, ResOK, ↓sxd, sxu, ↓zE, ↓zC, zK, ↓exP, ↓exq, ↓zB, St.keep, ↓xB, ↓zL, ↓zJ, ↓zD, Nat.reduceBEq, Nat.reduceAdd, Nat.reduceLT, Nat.reduceMul, Nat.reduceSub, Nat.reduceLeDiff, Nat.reduceEqDiff, Int.reduceLE, Int.reduceLT, Int.reduceToNat, reduceIte, implies_true, sxe, tysW37_45]; (repeat' (first | rfl | exact trivial | exact fun h => h | exact fun h => (by rw [h]; rfl) | apply And.intro | omega | exact Nat.le_of_ble_eq_true rfl))))
def lenC (ws : List Nat) : Nat := 1 + wordOf ws 0 % 10
def cdC (ws : List Nat) (i : Nat) : Nat := wordOf ws (i + 1) % 10
def codeTo (ws : List Nat) (n : Nat) : List Int := (List.range n).map fun i => (cdC ws i : Int)
def rowAt (ws : List Nat) (k i : Nat) : Nat := if wordOf ws (11 * k + i + 2) / 16 % 4 = 0 then wordOf ws (11 * k + i + 2) / 64 % 10 else cdC ws i
def rowTo (ws : List Nat) (k n : Nat) : List Int := (List.range n).map fun i => (rowAt ws k i : Int)
def wrTo (ws : List Nat) (k : Nat) : Nat → Nat
  | 0 => 0
  | i + 1 => wrTo ws k i + if rowAt ws k i = cdC ws i then 0 else 1
def wrongAt (ws : List Nat) (k : Nat) : Nat := min 10 (wrTo ws k (lenC ws) + wordOf ws (5 + k) % 2)
def rowsTo (ws : List Nat) (n : Nat) : List (List Int) := (List.range n).map fun k => rowTo ws k (lenC ws)
def wrongTo (ws : List Nat) (n : Nat) : List Int := (List.range n).map fun k => (wrongAt ws k : Int)
def codersN (ws : List Nat) (m : Nat) : Nat := 1 + wordOf ws 3 % m
def codedC (ws : List Nat) (m : Nat) : Coding := ⟨rowsTo ws (codersN ws m), wrongTo ws (codersN ws m)⟩
def codeV (ws : List Nat) : List Int := codeTo ws (lenC ws)
theorem codeTo_len (ws : List Nat) (n : Nat) : (codeTo ws n).length = n := by simp [codeTo]
theorem rowTo_len (ws : List Nat) (k n : Nat) : (rowTo ws k n).length = n := by simp [rowTo]
theorem rowsTo_len (ws : List Nat) (n : Nat) : (rowsTo ws n).length = n := by simp [rowsTo]
theorem wrongTo_len (ws : List Nat) (n : Nat) : (wrongTo ws n).length = n := by simp [wrongTo]
theorem codeTo_succ (ws : List Nat) (n : Nat) : codeTo ws (n + 1) = codeTo ws n ++ [(cdC ws n : Int)] := by simp [codeTo, List.range_succ]
theorem rowTo_succ (ws : List Nat) (k n : Nat) : rowTo ws k (n + 1) = rowTo ws k n ++ [(rowAt ws k n : Int)] := by simp [rowTo, List.range_succ]
theorem rowsTo_succ (ws : List Nat) (n : Nat) : rowsTo ws (n + 1) = rowsTo ws n ++ [rowTo ws n (lenC ws)] := by simp [rowsTo, List.range_succ]
theorem wrongTo_succ (ws : List Nat) (n : Nat) : wrongTo ws (n + 1) = wrongTo ws n ++ [(wrongAt ws n : Int)] := by simp [wrongTo, List.range_succ]
theorem codeTo_get {ws : List Nat} {n i : Nat} (h : i < n) : (codeTo ws n).getD i 0 = (cdC ws i : Int) := by simp [codeTo, List.getD_eq_getElem?_getD, h]
theorem wrTo_le (ws : List Nat) (k : Nat) : ∀ n, wrTo ws k n ≤ n
  | 0 => Nat.le_refl _
  | n + 1 => by have := wrTo_le ws k n; simp only [wrTo]; split <;> omega
theorem lenC_le (ws : List Nat) : 1 ≤ lenC ws ∧ lenC ws ≤ 10 := by unfold lenC; omega
theorem vI_snoc (v : List Int) (n : Int) : vI (v ++ [n]) = vI v ++ [[I n]] := by simp [vI]
theorem uL_snoc (l : List (List Int)) (x : List Int) : uL (l ++ [x]) = uL l ++ [[SI x]] := by simp [uL]
theorem vI_tn {r : Nat → Nat} {hp hp' : HpT} (v : List Int) : F2 (F2 (TnS r hp hp')) (vI v) (vI v) := F2.map fun n _ => .cons (TnS.d _) .nil
theorem vI_len (v : List Int) : (vI v).length = v.length := by simp
theorem tdiv16 (n : Nat) : (n : Int).tdiv 16 = ((n / 16 : Nat) : Int) := by
  rw [Int.natCast_ediv, Int.tdiv_eq_ediv_of_nonneg (Int.natCast_nonneg _)]; rfl
theorem tdiv64 (n : Nat) : (n : Int).tdiv 64 = ((n / 64 : Nat) : Int) := by
  rw [Int.natCast_ediv, Int.tdiv_eq_ediv_of_nonneg (Int.natCast_nonneg _)]; rfl
theorem tmod2n (n : Nat) : (n : Int).tmod 2 = ((n % 2 : Nat) : Int) := tmod_n n 2
abbrev tysW37_44 := And.intro ty.sz0 <| And.intro ty.agg0 <| And.intro ty.elem0 <| And.intro ty.sz3 <| And.intro ty.agg3 <| And.intro ty.elem3 <| And.intro ty.zero3 <| And.intro ty.und3 <| And.intro ty.sz4 <| And.intro ty.agg4 <| And.intro ty.elem4 <| And.intro ty.zero4 <| And.intro ty.und4 <| And.intro ty.sz39 <| And.intro ty.agg39 <| And.intro ty.elem39 <| And.intro ty.by39 <| And.intro ty.ez39 <| And.intro ty.zero39 <| And.intro ty.und39 <| And.intro ty.sz43 <| And.intro ty.agg43 <| And.intro ty.elem43 <| And.intro ty.by43 <| And.intro ty.ez43 <| And.intro ty.zero43 <| And.intro ty.und43 <| And.intro ty.sz55 <| And.intro ty.agg55 <| And.intro ty.fld55_0 <| And.intro ty.fld55_1 <| And.intro ty.elem55 <| And.intro ty.zero55 <| And.intro ty.pl55 <| And.intro ty.sz79 <| And.intro ty.agg79 <| And.intro ty.elem79 <| And.intro ty.by79 <| And.intro ty.ez79 <| And.intro ty.zero79 <| ty.und79
set_option maxHeartbeats 4000000 in
theorem Coded_c (ws : List Nat) (hw : ∀ n ∈ ws, n < 65536) (m : Nat) (hm : 0 < m) (hm2 : m ≤ 10) : CallP Tryd.prog G0 44 [SW ws, I m] (.tup [(codedC ws m).s, SI (codeV ws)]) := by
  have hlc := lenC_le ws
  have hwo := wordOf_lt hw
  have wL : IntKind.i64.wrap ((1 : Int) + ((wordOf ws 0 % 10 : Nat) : Int)) = ((lenC ws : Nat) : Int) := by unfold lenC; rw [wr (by omega) (by omega)]; rfl
  have hm0 : ((m : Int) = 0) = False := eq_false (by omega)
  have hmm : wordOf ws 3 % m < m := Nat.mod_lt _ hm
  have wM : IntKind.i64.wrap ((1 : Int) + ((wordOf ws 3 % m : Nat) : Int)) = ((codersN ws m : Nat) : Int) := by unfold codersN; rw [wr (by omega) (by omega)]; rfl
  have hcn : codersN ws m ≤ m := by unfold codersN; omega
  refine CallP.body 98 [.cell 4 55, .tmp 5] Tryd.func44 (by kernel_rfl) rfl rfl rfl (by repeat' (first | exact Pure.d _ | exact Pure.dx _ | exact Pure.dp _ | exact fa_nil | refine fa_cons ?_ ?_ | refine Pure.agg ?_ | refine Pure.tup ?_ | refine Pure.clo ?_ ?_ | refine Pure.fp ?_ | exact Pure.mapd _ | assumption)) (by repeat' (first | exact Pure.d _ | exact Pure.dx _ | exact Pure.dp _ | exact fa_nil | refine fa_cons ?_ ?_ | refine Pure.agg ?_ | refine Pure.tup ?_ | refine Pure.clo ?_ ?_ | refine Pure.fp ?_ | exact Pure.mapd _ | assumption)) ?_
  refine Tr.reg [0, 1, 4] (by
      simp only [↓sxd, sxu, ↓zE, ↓exq, St.keep, ↓zM, Nat.reduceBEq, Nat.reduceAdd, Nat.reduceLT, Nat.reduceEqDiff, tysW37_44]
      (repeat' (first | rfl | exact trivial | exact fun h => h | exact fun h => (by rw [h]; rfl) | apply And.intro | omega | exact Nat.le_of_ble_eq_true rfl))) ?_
  refine Tr.reg [0, 1, 4, 6] (by
      simp only [↓sxd, sxu, ↓zE, ↓exq, St.keep, ↓zM, Nat.reduceBEq, Nat.reduceAdd, Nat.reduceLT, Nat.reduceEqDiff, tysW37_44]
      (repeat' (first | rfl | exact trivial | exact fun h => h | exact fun h => (by rw [h]; rfl) | apply And.intro | omega | exact Nat.le_of_ble_eq_true rfl))) ?_
  refine Tr.reg [0, 1, 4, 6, 7] (by
      simp only [↓sxd, sxu, ↓zE, ↓exq, St.keep, Nat.reduceBEq, Nat.reduceLT]
      (repeat' (first | rfl | exact trivial | exact fun h => h | exact fun h => (by rw [h]; rfl) | apply And.intro | omega | exact Nat.le_of_ble_eq_true rfl))) ?_
  refine Tr.reg [0, 1, 4, 6, 7, 8] (by
      simp only [↓sxd, sxu, ↓zE, ↓exq, St.keep, Nat.reduceLT]
      (repeat ((with_reducible refine And.intro ?_ ?_); (focus (first | with_reducible rfl | trivial | exact fun h => h | exact fun h => (by rw [h]; rfl) | omega | assumption))))
      refine CallO.use (word_c ws hw 0) ?_
      try simp only [↓sxd, sxu, ↓zE, ↓exq, Nat.reduceBEq, Nat.reduceLT, tmod10, wL]
      (repeat' (first | rfl | exact trivial | exact fun h => h | exact fun h => (by rw [h]; rfl) | apply And.intro | omega | exact Nat.le_of_ble_eq_true rfl))) ?_
  refine Tr.seq ?_
  refine Tr.reg [0, 1, 4, 6, 7, 8, 9] (by
      simp only [↓sxd, sxu, ↓zE, ↓exq, St.keep, Nat.reduceBEq, Nat.reduceLT]
      (repeat' (first | rfl | exact trivial | exact fun h => h | exact fun h => (by rw [h]; rfl) | apply And.intro | omega | exact Nat.le_of_ble_eq_true rfl))) ?_
  refine Tr.imp (st' := ⟨[(0, SW ws), (1, I m), (4, .ptr 0 0 0), (6, .ptr 1 0 0), (7, .slc 2 1 0 0 0), (8, I (lenC ws : Nat)), (9, I 0)], [(2, .arr 1 (vI (codeTo ws 0))), (1, .arr 2 [[.dx [], .dx []]]), (0, .arr 2 [[.dx [], .dx []]])], 3, 98, [], 0⟩) (Imp.goV 1 rfl rfl rfl rfl (by repeat' (first | exact trivial | exact F2.nil | refine F2.cons ?_ ?_ | refine TmV.cons rfl VnS.nil ?_ | refine TmV.cons rfl VnS.same ?_ | refine ⟨rfl, ?_⟩ | exact VnO.same _ | refine VnO.arr ?_ | exact VnS.nil | exact VnS.same | exact F2.refl fun _ _ => VnS.same)) (by repeat' (first | exact trivial | exact F2.nil | refine F2.cons ?_ ?_ | refine TmV.cons rfl VnS.nil ?_ | refine TmV.cons rfl VnS.same ?_ | refine ⟨rfl, ?_⟩ | exact VnO.same _ | refine VnO.arr ?_ | exact VnS.nil | exact VnS.same | exact F2.refl fun _ _ => VnS.same))) (Tr.block (Tr.loopI (fun mm ss => ∃ (i : Nat), (i ≤ lenC ws) ∧ lenC ws - i = mm ∧ ss = ⟨[(0, SW ws), (1, I m), (4, .ptr 0 0 0), (6, .ptr 1 0 0), (7, .slc 2 1 0 i i), (8, I (lenC ws : Nat)), (9, I i)], [(2, .arr 1 (vI (codeTo ws i))), (1, .arr 2 [[.dx [], .dx []]]), (0, .arr 2 [[.dx [], .dx []]])], 3, 98, [], 0⟩) _ ⟨0, ?_, rfl, rfl⟩ ?_))
  · exact Nat.zero_le _
  rintro mm ss ⟨i, hI, rfl, rfl⟩
  refine Tr.seq ?_
  refine Tr.reg [0, 1, 4, 6, 7, 8, 9, 22] (by
      simp only [↓sxd, sxu, ↓zE, ↓exq, St.keep, Nat.reduceBEq, Nat.reduceLT, sxe]
      (repeat' (first | rfl | exact trivial | exact fun h => h | exact fun h => (by rw [h]; rfl) | apply And.intro | omega | exact Nat.le_of_ble_eq_true rfl))) ?_
  refine Tr.cond rfl (fun h22 => ?_) (fun h22 => ?_)
  · have hlt : i < lenC ws := by have := of_decide_eq_true h22; omega
    have wi1 : IntKind.i64.wrap ((i : Int) + 1) = ((i + 1 : Nat) : Int) := by rw [wr (by omega) (by omega)]; rfl
    refine Tr.skip ?_
    refine Tr.seq ?_
    refine Tr.block ?_
    have hk2 : (i + 1 ≤ 1073741824) = True := eq_true (by omega)
    refine Tr.reg1 [0, 1, 4, 6, 7, 8, 9] (by
        simp only [↓sxd, sxu, ↓zE, ↓exq, St.keep, Nat.reduceBEq, Nat.reduceLT, wi1]
        (repeat ((with_reducible refine And.intro ?_ ?_); (focus (first | with_reducible rfl | trivial | exact fun h => h | exact fun h => (by rw [h]; rfl) | omega | assumption))))
        refine CallO.use (word_c ws hw (i + 1)) ?_
        try simp only [↓sxd, sxu, ↓zE, ↓exq, ↓zB, ↓zG, ↓zQ, Nat.reduceBEq, Nat.reduceAdd, Nat.reduceLT, Nat.reduceLeDiff, Nat.reduceEqDiff, tysW37_44, tmod10, codeTo_len, hk2]
        (repeat' (first | rfl | exact trivial | exact fun h => h | exact fun h => (by rw [h]; rfl) | apply And.intro | omega | exact Nat.le_of_ble_eq_true rfl))) ?_
    refine Tr.reg1 [0, 1, 4, 6, 7, 8, 9] (by
        simp only [↓sxd, sxu, ↓zE, ↓exq, St.keep, Nat.reduceBEq, Nat.reduceLT, wi1]
        (repeat' (first | rfl | exact trivial | exact fun h => h | exact fun h => (by rw [h]; rfl) | apply And.intro | omega | exact Nat.le_of_ble_eq_true rfl))) ?_
    refine ⟨_, _, ?_, ?_, ⟨i + 1, hlt, rfl, rfl⟩⟩
    · omega
    · rw [codeTo_succ, vI_snoc]
      exact Imp.go (fun i => if i = 2 then 3 else if i < 2 then i else i + 1) [(3, _), (1, _), (0, _)] rfl rfl (.refl _) (fun _ h => absurd h (Nat.not_lt_zero _)) (fun id h => by simp only [show ¬ id = 2 by omega, show ¬ id < 2 by omega, if_false]; omega) (by repeat' (first | exact TmT.cons rfl (TnS.d _) ?_ | exact trivial | exact F2.nil | refine F2.append ?_ ?_ | refine F2.map fun _ _ => ?_ | refine F2.cons ?_ ?_ | refine TmT.cons rfl ?_ ?_ | exact TnS.d _ | exact TnS.dx _ | exact TnS.dp _ | exact TnS.slc rfl | exact TnS.ptr rfl | refine TnS.frzf rfl (by simp) (by simp) (by simp) ?_ | refine TnS.frz0 rfl (by simp) (by simp) (by simp) ?_ | refine TnS.frzm rfl (by simp) ?_ | exact TnS.mapr rfl | exact TnS.yld rfl | refine ⟨rfl, ?_⟩ | refine TnO.arr ?_ | refine TnO.map ?_ | exact TnO.raw _ | exact TnO.iter _ _ | refine TnS.agg ?_ | refine TnS.tup ?_ | exact TnS.pure (Pure.clo (by assumption) (by assumption)) | refine TnS.clo ?_ ?_ | exact TnS.unk _ | exact TnS.pure (Pure.clo (by assumption) (by assumption)))) (.cons ⟨rfl, TnO.arr (F2.append (vI_tn _) (.cons (.cons (TnS.d _) .nil) .nil))⟩ (.cons ⟨rfl, TnO.arr (by repeat' (first | exact TmT.cons rfl (TnS.d _) ?_ | exact trivial | exact F2.nil | refine F2.append ?_ ?_ | refine F2.map fun _ _ => ?_ | refine F2.cons ?_ ?_ | refine TmT.cons rfl ?_ ?_ | exact TnS.d _ | exact TnS.dx _ | exact TnS.dp _ | exact TnS.slc rfl | exact TnS.ptr rfl | refine TnS.frzf rfl (by simp) (by simp) (by simp) ?_ | refine TnS.frz0 rfl (by simp) (by simp) (by simp) ?_ | refine TnS.frzm rfl (by simp) ?_ | exact TnS.mapr rfl | exact TnS.yld rfl | refine ⟨rfl, ?_⟩ | refine TnO.arr ?_ | refine TnO.map ?_ | exact TnO.raw _ | exact TnO.iter _ _ | refine TnS.agg ?_ | refine TnS.tup ?_ | exact TnS.pure (Pure.clo (by assumption) (by assumption)) | refine TnS.clo ?_ ?_ | exact TnS.unk _ | exact TnS.pure (Pure.clo (by assumption) (by assumption))))⟩ (.cons ⟨rfl, TnO.arr (by repeat' (first | exact TmT.cons rfl (TnS.d _) ?_ | exact trivial | exact F2.nil | refine F2.append ?_ ?_ | refine F2.map fun _ _ => ?_ | refine F2.cons ?_ ?_ | refine TmT.cons rfl ?_ ?_ | exact TnS.d _ | exact TnS.dx _ | exact TnS.dp _ | exact TnS.slc rfl | exact TnS.ptr rfl | refine TnS.frzf rfl (by simp) (by simp) (by simp) ?_ | refine TnS.frz0 rfl (by simp) (by simp) (by simp) ?_ | refine TnS.frzm rfl (by simp) ?_ | exact TnS.mapr rfl | exact TnS.yld rfl | refine ⟨rfl, ?_⟩ | refine TnO.arr ?_ | refine TnO.map ?_ | exact TnO.raw _ | exact TnO.iter _ _ | refine TnS.agg ?_ | refine TnS.tup ?_ | exact TnS.pure (Pure.clo (by assumption) (by assumption)) | refine TnS.clo ?_ ?_ | exact TnS.unk _ | exact TnS.pure (Pure.clo (by assumption) (by assumption))))⟩ .nil))) (fun h => h)
  · have hge : i = lenC ws := by have := of_decide_eq_false h22; omega
    subst hge
    refine Tr.exit ?_
    refine Tr.seq ?_
    refine Tr.imp (st' := ⟨[(0, SW ws), (1, I m), (4, .ptr 0 0 0), (6, .ptr 1 0 0), (7, SI (codeV ws)), (8, I (lenC ws : Nat))], [(1, .arr 2 [[.dx [], .dx []]]), (0, .arr 2 [[.dx [], .dx []]])], 3, 98, [], 0⟩) (Imp.go (fun i => i) [(1, _), (0, _)] rfl rfl (.cons _ (.refl _)) (fun _ _ => rfl) (fun _ h => h) (.cons rfl (TnS.d _) (.cons rfl (TnS.d _) (.cons rfl (TnS.ptr rfl) (.cons rfl (TnS.ptr rfl) (.cons rfl (TnS.frz0 (id := 2) (sz := 1) (es := vI (codeTo ws (lenC ws))) rfl (by simp) (by simp) (by rw [vI_len, codeTo_len]) (vI_fz _)) (.cons rfl (TnS.d _) trivial)))))) (by repeat' (first | exact TmT.cons rfl (TnS.d _) ?_ | exact trivial | exact F2.nil | refine F2.append ?_ ?_ | refine F2.map fun _ _ => ?_ | refine F2.cons ?_ ?_ | refine TmT.cons rfl ?_ ?_ | exact TnS.d _ | exact TnS.dx _ | exact TnS.dp _ | exact TnS.slc rfl | exact TnS.ptr rfl | refine TnS.frzf rfl (by simp) (by simp) (by simp) ?_ | refine TnS.frz0 rfl (by simp) (by simp) (by simp) ?_ | refine TnS.frzm rfl (by simp) ?_ | exact TnS.mapr rfl | exact TnS.yld rfl | refine ⟨rfl, ?_⟩ | refine TnO.arr ?_ | refine TnO.map ?_ | exact TnO.raw _ | exact TnO.iter _ _ | refine TnS.agg ?_ | refine TnS.tup ?_ | exact TnS.pure (Pure.clo (by assumption) (by assumption)) | refine TnS.clo ?_ ?_ | exact TnS.unk _ | exact TnS.pure (Pure.clo (by assumption) (by assumption)))) (fun _ => rfl)) ?_
    refine Tr.reg [0, 1, 4, 6, 7, 8, 10] (by
        simp only [↓sxd, sxu, ↓zE, ↓exq, St.keep, Nat.reduceBEq, Nat.reduceLT]
        (repeat' (first | rfl | exact trivial | exact fun h => h | exact fun h => (by rw [h]; rfl) | apply And.intro | omega | exact Nat.le_of_ble_eq_true rfl))) ?_
    refine Tr.imp (st' := ⟨[(0, SW ws), (1, I m), (4, .ptr 0 0 0), (6, .ptr 1 0 0), (7, SI (codeV ws)), (8, I (lenC ws : Nat)), (10, I 0)], [(4, .arr 1 (vI (wrongTo ws 0))), (3, .arr 1 (uL (rowsTo ws 0))), (1, .arr 2 [[.slc 3 1 0 0 0, .slc 4 1 0 0 0]]), (0, .arr 2 [[.dx [], .dx []]])], 5, 98, [], 0⟩) (Imp.trans (b := ⟨[(0, SW ws), (1, I m), (4, .ptr 0 0 0), (6, .ptr 1 0 0), (7, SI (codeV ws)), (8, I (lenC ws : Nat)), (10, I 0)], [(3, .arr 1 []), (1, .arr 2 [[.slc 3 1 0 0 0, .dx []]]), (0, .arr 2 [[.dx [], .dx []]])], 4, 98, [], 0⟩) (Imp.goV 1 rfl rfl rfl rfl (by repeat' (first | exact trivial | exact F2.nil | refine F2.cons ?_ ?_ | refine TmV.cons rfl VnS.nil ?_ | refine TmV.cons rfl VnS.same ?_ | refine ⟨rfl, ?_⟩ | exact VnO.same _ | refine VnO.arr ?_ | exact VnS.nil | exact VnS.same | exact F2.refl fun _ _ => VnS.same)) (by repeat' (first | exact trivial | exact F2.nil | refine F2.cons ?_ ?_ | refine TmV.cons rfl VnS.nil ?_ | refine TmV.cons rfl VnS.same ?_ | refine ⟨rfl, ?_⟩ | exact VnO.same _ | refine VnO.arr ?_ | exact VnS.nil | exact VnS.same | exact F2.refl fun _ _ => VnS.same))) (Imp.goV 1 rfl rfl rfl rfl (by repeat' (first | exact trivial | exact F2.nil | refine F2.cons ?_ ?_ | refine TmV.cons rfl VnS.nil ?_ | refine TmV.cons rfl VnS.same ?_ | refine ⟨rfl, ?_⟩ | exact VnO.same _ | refine VnO.arr ?_ | exact VnS.nil | exact VnS.same | exact F2.refl fun _ _ => VnS.same)) (by repeat' (first | exact trivial | exact F2.nil | refine F2.cons ?_ ?_ | refine TmV.cons rfl VnS.nil ?_ | refine TmV.cons rfl VnS.same ?_ | refine ⟨rfl, ?_⟩ | exact VnO.same _ | refine VnO.arr ?_ | exact VnS.nil | exact VnS.same | exact F2.refl fun _ _ => VnS.same)))) (Tr.block (Tr.loopI (fun mm ss => ∃ (k : Nat), (k ≤ codersN ws m) ∧ codersN ws m - k = mm ∧ ss = ⟨[(0, SW ws), (1, I m), (4, .ptr 0 0 0), (6, .ptr 1 0 0), (7, SI (codeV ws)), (8, I (lenC ws : Nat)), (10, I k)], [(4, .arr 1 (vI (wrongTo ws k))), (3, .arr 1 (uL (rowsTo ws k))), (1, .arr 2 [[.slc 3 1 0 k k, .slc 4 1 0 k k]]), (0, .arr 2 [[.dx [], .dx []]])], 5, 98, [], 0⟩) _ ⟨0, ?_, rfl, rfl⟩ ?_))
    · exact Nat.zero_le _
    rintro mm ss ⟨k, hI, rfl, rfl⟩
    refine Tr.seq ?_
    refine Tr.reg [0, 1, 4, 6, 7, 8, 10, 39] (by
        simp only [↓sxd, sxu, ↓zE, ↓exq, St.keep, Nat.reduceBEq, Nat.reduceLT]
        (repeat ((with_reducible refine And.intro ?_ ?_); (focus (first | with_reducible rfl | trivial | exact fun h => h | exact fun h => (by rw [h]; rfl) | omega | assumption))))
        refine CallO.use (word_c ws hw 3) ?_
        try simp only [↓sxd, sxu, ↓zE, ↓exq, Nat.reduceBEq, Nat.reduceLT, sxe, tmod_n, hm0, wM]
        (repeat' (first | rfl | exact trivial | exact fun h => h | exact fun h => (by rw [h]; rfl) | apply And.intro | omega | exact Nat.le_of_ble_eq_true rfl))) ?_
    refine Tr.cond rfl (fun h39 => ?_) (fun h39 => ?_)
    · have hkl : k < codersN ws m := by have := of_decide_eq_true h39; omega
      refine Tr.skip ?_
      refine Tr.seq ?_
      refine Tr.block ?_
      refine Tr.reg [0, 1, 4, 6, 7, 8, 10, 11] (by
          simp only [↓sxd, sxu, ↓zE, ↓exq, St.keep, Nat.reduceBEq, Nat.reduceLT]
          (repeat' (first | rfl | exact trivial | exact fun h => h | exact fun h => (by rw [h]; rfl) | apply And.intro | omega | exact Nat.le_of_ble_eq_true rfl))) ?_
      refine Tr.reg [0, 1, 4, 6, 7, 8, 10, 11, 12] (by
          simp only [↓sxd, sxu, ↓zE, ↓exq, St.keep, Nat.reduceBEq, Nat.reduceLT]
          (repeat' (first | rfl | exact trivial | exact fun h => h | exact fun h => (by rw [h]; rfl) | apply And.intro | omega | exact Nat.le_of_ble_eq_true rfl))) ?_
      refine Tr.seq ?_
      refine Tr.reg [0, 1, 4, 6, 7, 8, 10, 11, 12, 13] (by
          simp only [↓sxd, sxu, ↓zE, ↓exq, St.keep, Nat.reduceBEq, Nat.reduceLT]
          (repeat' (first | rfl | exact trivial | exact fun h => h | exact fun h => (by rw [h]; rfl) | apply And.intro | omega | exact Nat.le_of_ble_eq_true rfl))) ?_
      refine Tr.imp (st' := ⟨[(0, SW ws), (1, I m), (4, .ptr 0 0 0), (6, .ptr 1 0 0), (7, SI (codeV ws)), (8, I (lenC ws : Nat)), (10, I k), (11, .slc 5 1 0 0 0), (12, I (wrTo ws k 0 : Nat)), (13, I 0)], [(5, .arr 1 (vI (rowTo ws k 0))), (4, .arr 1 (vI (wrongTo ws k))), (3, .arr 1 (uL (rowsTo ws k))), (1, .arr 2 [[.slc 3 1 0 k k, .slc 4 1 0 k k]]), (0, .arr 2 [[.dx [], .dx []]])], 6, 98, [], 0⟩) (Imp.goV 1 rfl rfl rfl rfl (by repeat' (first | exact trivial | exact F2.nil | refine F2.cons ?_ ?_ | refine TmV.cons rfl VnS.nil ?_ | refine TmV.cons rfl VnS.same ?_ | refine ⟨rfl, ?_⟩ | exact VnO.same _ | refine VnO.arr ?_ | exact VnS.nil | exact VnS.same | exact F2.refl fun _ _ => VnS.same)) (by repeat' (first | exact trivial | exact F2.nil | refine F2.cons ?_ ?_ | refine TmV.cons rfl VnS.nil ?_ | refine TmV.cons rfl VnS.same ?_ | refine ⟨rfl, ?_⟩ | exact VnO.same _ | refine VnO.arr ?_ | exact VnS.nil | exact VnS.same | exact F2.refl fun _ _ => VnS.same))) (Tr.block (Tr.loopI (fun mm ss => ∃ (i : Nat), (i ≤ lenC ws) ∧ lenC ws - i = mm ∧ ss = ⟨[(0, SW ws), (1, I m), (4, .ptr 0 0 0), (6, .ptr 1 0 0), (7, SI (codeV ws)), (8, I (lenC ws : Nat)), (10, I k), (11, .slc 5 1 0 i i), (12, I (wrTo ws k i : Nat)), (13, I i)], [(5, .arr 1 (vI (rowTo ws k i))), (4, .arr 1 (vI (wrongTo ws k))), (3, .arr 1 (uL (rowsTo ws k))), (1, .arr 2 [[.slc 3 1 0 k k, .slc 4 1 0 k k]]), (0, .arr 2 [[.dx [], .dx []]])], 6, 98, [], 0⟩) _ ⟨0, ?_, rfl, rfl⟩ ?_))
      · exact Nat.zero_le _
      rintro mm ss ⟨i, hI, rfl, rfl⟩
      refine Tr.seq ?_
      refine Tr.reg [0, 1, 4, 6, 7, 8, 10, 11, 12, 13, 44] (by
          simp only [↓sxd, sxu, ↓zE, ↓exq, St.keep, Nat.reduceBEq, Nat.reduceLT, sxe]
          (repeat' (first | rfl | exact trivial | exact fun h => h | exact fun h => (by rw [h]; rfl) | apply And.intro | omega | exact Nat.le_of_ble_eq_true rfl))) ?_
      refine Tr.cond rfl (fun h44 => ?_) (fun h44 => ?_)
      · have hlt : i < lenC ws := by have := of_decide_eq_true h44; omega
        have hwl := wrTo_le ws k i
        have hx := hwo (11 * k + i + 2)
        have w11 : IntKind.i64.wrap ((11 : Int) * (k : Int)) = ((11 * k : Nat) : Int) := by rw [wr (by omega) (by omega)]; rfl
        have w12 : IntKind.i64.wrap (((11 * k : Nat) : Int) + (i : Int)) = ((11 * k + i : Nat) : Int) := by rw [wr (by omega) (by omega)]; rfl
        have w13 : IntKind.i64.wrap (((11 * k + i : Nat) : Int) + 2) = ((11 * k + i + 2 : Nat) : Int) := by rw [wr (by omega) (by omega)]; rfl
        have hcl : i < (codeV ws).length := by rw [codeV, codeTo_len]; exact hlt
        have hcg : (codeV ws).getD i 0 = (cdC ws i : Int) := codeTo_get hlt
        refine Tr.skip ?_
        refine Tr.seq ?_
        refine Tr.block ?_
        refine Tr.reg [0, 1, 4, 6, 7, 8, 10, 11, 12, 13, 14] (by
            simp only [↓sxd, sxu, ↓zE, ↓exq, St.keep, Nat.reduceBEq, Nat.reduceLT, w11, w12, w13]
            (repeat ((with_reducible refine And.intro ?_ ?_); (focus (first | with_reducible rfl | trivial | exact fun h => h | exact fun h => (by rw [h]; rfl) | omega | assumption))))
            refine CallO.use (word_c ws hw (11 * k + i + 2)) ?_
            try simp only [↓sxd, sxu, ↓zE, ↓exq, Nat.reduceBEq, Nat.reduceLT]
            (repeat' (first | rfl | exact trivial | exact fun h => h | exact fun h => (by rw [h]; rfl) | apply And.intro | omega | exact Nat.le_of_ble_eq_true rfl))) ?_
        refine Tr.reg [0, 1, 4, 6, 7, 8, 10, 11, 12, 13, 14, 15] (by
            simp only [↓sxd, sxu, ↓zE, ↓exq, St.keep, ↓zD, Nat.reduceBEq, Nat.reduceLT, sxe, tysW37_44, hcl, hcg]
            (repeat' (first | rfl | exact trivial | exact fun h => h | exact fun h => (by rw [h]; rfl) | apply And.intro | omega | exact Nat.le_of_ble_eq_true rfl))) ?_
        refine Tr.seq ?_
        refine Tr.reg [0, 1, 4, 6, 7, 8, 10, 11, 12, 13, 14, 15, 61] (by
            simp only [↓sxd, sxu, ↓zE, ↓exq, St.keep, Nat.reduceBEq, Nat.reduceLT, tdiv16, tmod4, wi (show wordOf ws (11 * k + i + 2) / 16 < 9223372036854775808 by omega)]
            (repeat' (first | rfl | exact trivial | exact fun h => h | exact fun h => (by rw [h]; rfl) | apply And.intro | omega | exact Nat.le_of_ble_eq_true rfl))) ?_
        refine Tr.join2 (st' := ⟨[(0, SW ws), (1, I m), (4, .ptr 0 0 0), (6, .ptr 1 0 0), (7, SI (codeV ws)), (8, I (lenC ws : Nat)), (10, I k), (11, .slc 5 1 0 i i), (12, I (wrTo ws k i : Nat)), (13, I i), (15, I (rowAt ws k i : Nat))], [(5, .arr 1 (vI (rowTo ws k i))), (4, .arr 1 (vI (wrongTo ws k))), (3, .arr 1 (uL (rowsTo ws k))), (1, .arr 2 [[.slc 3 1 0 k k, .slc 4 1 0 k k]]), (0, .arr 2 [[.dx [], .dx []]])], 6, 98, [], 0⟩) ?_ ?_
        ·
          refine Tr.cond rfl (fun h61 => ?_) (fun h61 => ?_)
          · have hq : wordOf ws (11 * k + i + 2) / 16 % 4 = 0 := by have := beq_iff_eq.1 h61; omega
            have hra : rowAt ws k i = wordOf ws (11 * k + i + 2) / 64 % 10 := if_pos hq
            refine Tr.reg1 [0, 1, 4, 6, 7, 8, 10, 11, 12, 13, 15] (by
                simp only [↓sxd, sxu, ↓zE, ↓exq, St.keep, Nat.reduceBEq, Nat.reduceLT, tdiv64, tmod10, wi (show wordOf ws (11 * k + i + 2) / 64 < 9223372036854775808 by omega)]
                (repeat' (first | rfl | exact trivial | exact fun h => h | exact fun h => (by rw [h]; rfl) | apply And.intro | omega | exact Nat.le_of_ble_eq_true rfl))) ?_
            exact ⟨_, by rw [hra]; exact Imp.keep [0, 1, 4, 6, 7, 8, 10, 11, 12, 13, 15], rfl⟩
          · have hq : ¬ wordOf ws (11 * k + i + 2) / 16 % 4 = 0 := fun hc => by rw [hc] at h61; cases h61
            have hra : rowAt ws k i = cdC ws i := if_neg hq
            refine Tr.skip ?_
            exact ⟨_, by rw [hra]; exact Imp.keep [0, 1, 4, 6, 7, 8, 10, 11, 12, 13, 15], rfl⟩
        refine Tr.seq ?_
        refine Tr.reg [0, 1, 4, 6, 7, 8, 10, 11, 12, 13, 15, 70] (by
            simp only [↓sxd, sxu, ↓zE, ↓exq, St.keep, ↓zD, Nat.reduceBEq, Nat.reduceLT, sxe, tysW37_44, hcl, hcg]
            (repeat' (first | rfl | exact trivial | exact fun h => h | exact fun h => (by rw [h]; rfl) | apply And.intro | omega | exact Nat.le_of_ble_eq_true rfl))) ?_
        refine Tr.join2 (st' := ⟨[(0, SW ws), (1, I m), (4, .ptr 0 0 0), (6, .ptr 1 0 0), (7, SI (codeV ws)), (8, I (lenC ws : Nat)), (10, I k), (11, .slc 5 1 0 i i), (12, I (wrTo ws k (i + 1) : Nat)), (13, I i), (15, I (rowAt ws k i : Nat))], [(5, .arr 1 (vI (rowTo ws k i))), (4, .arr 1 (vI (wrongTo ws k))), (3, .arr 1 (uL (rowsTo ws k))), (1, .arr 2 [[.slc 3 1 0 k k, .slc 4 1 0 k k]]), (0, .arr 2 [[.dx [], .dx []]])], 6, 98, [], 0⟩) ?_ ?_
        ·
          refine Tr.cond rfl (fun h70 => ?_) (fun h70 => ?_)
          · have hq : ¬ rowAt ws k i = cdC ws i := fun hc => by rw [hc] at h70; simp at h70
            have hwt : wrTo ws k (i + 1) = wrTo ws k i + 1 := by rw [wrTo, if_neg hq]
            have w20 : IntKind.i64.wrap (((wrTo ws k i : Nat) : Int) + 1) = ((wrTo ws k i + 1 : Nat) : Int) := by rw [wr (by omega) (by omega)]; rfl
            refine Tr.reg1 [0, 1, 4, 6, 7, 8, 10, 11, 12, 13, 15] (by
                simp only [↓sxd, sxu, ↓zE, ↓exq, St.keep, Nat.reduceBEq, Nat.reduceLT, w20]
                (repeat' (first | rfl | exact trivial | exact fun h => h | exact fun h => (by rw [h]; rfl) | apply And.intro | omega | exact Nat.le_of_ble_eq_true rfl))) ?_
            exact ⟨_, by rw [hwt]; exact Imp.keep [0, 1, 4, 6, 7, 8, 10, 11, 12, 13, 15], rfl⟩
          · have hq : rowAt ws k i = cdC ws i := by
              have h : ((rowAt ws k i : Nat) : Int) = ((cdC ws i : Nat) : Int) := by simpa using h70
              omega
            have hwt : wrTo ws k (i + 1) = wrTo ws k i := by rw [wrTo, if_pos hq]; rfl
            refine Tr.skip ?_
            exact ⟨_, by rw [hwt]; exact Imp.keep [0, 1, 4, 6, 7, 8, 10, 11, 12, 13, 15], rfl⟩
        have hk3 : (i + 1 ≤ 1073741824) = True := eq_true (by omega)
        refine Tr.reg1 [0, 1, 4, 6, 7, 8, 10, 11, 12, 13] (by
            simp only [↓sxd, sxu, ↓zE, ↓exq, ↓zB, St.keep, ↓zG, ↓zQ, Nat.reduceBEq, Nat.reduceAdd, Nat.reduceLT, Nat.reduceLeDiff, Nat.reduceEqDiff, tysW37_44, rowTo_len, hk3]
            (repeat' (first | rfl | exact trivial | exact fun h => h | exact fun h => (by rw [h]; rfl) | apply And.intro | omega | exact Nat.le_of_ble_eq_true rfl))) ?_
        have w1 : IntKind.i64.wrap ((i : Int) + 1) = ((i + 1 : Nat) : Int) := by rw [wr (by omega) (by omega)]; rfl
        refine Tr.reg1 [0, 1, 4, 6, 7, 8, 10, 11, 12, 13] (by
            simp only [↓sxd, sxu, ↓zE, ↓exq, St.keep, Nat.reduceBEq, Nat.reduceLT, w1]
            (repeat' (first | rfl | exact trivial | exact fun h => h | exact fun h => (by rw [h]; rfl) | apply And.intro | omega | exact Nat.le_of_ble_eq_true rfl))) ?_
        refine ⟨_, _, ?_, ?_, ⟨i + 1, hlt, rfl, rfl⟩⟩
        · omega
        · rw [rowTo_succ, vI_snoc]
          exact Imp.go (fun i => if i = 5 then 6 else if i < 5 then i else i + 1) [(6, _), (4, _), (3, _), (1, _), (0, _)] rfl rfl (.refl _) (fun _ h => absurd h (Nat.not_lt_zero _)) (fun id h => by simp only [show ¬ id = 5 by omega, show ¬ id < 5 by omega, if_false]; omega) (by repeat' (first | exact TmT.cons rfl (TnS.d _) ?_ | exact trivial | exact F2.nil | refine F2.append ?_ ?_ | refine F2.map fun _ _ => ?_ | refine F2.cons ?_ ?_ | refine TmT.cons rfl ?_ ?_ | exact TnS.d _ | exact TnS.dx _ | exact TnS.dp _ | exact TnS.slc rfl | exact TnS.ptr rfl | refine TnS.frzf rfl (by simp) (by simp) (by simp) ?_ | refine TnS.frz0 rfl (by simp) (by simp) (by simp) ?_ | refine TnS.frzm rfl (by simp) ?_ | exact TnS.mapr rfl | exact TnS.yld rfl | refine ⟨rfl, ?_⟩ | refine TnO.arr ?_ | refine TnO.map ?_ | exact TnO.raw _ | exact TnO.iter _ _ | refine TnS.agg ?_ | refine TnS.tup ?_ | exact TnS.pure (Pure.clo (by assumption) (by assumption)) | refine TnS.clo ?_ ?_ | exact TnS.unk _ | exact TnS.pure (Pure.clo (by assumption) (by assumption)))) (.cons ⟨rfl, TnO.arr (F2.append (vI_tn _) (.cons (.cons (TnS.d _) .nil) .nil))⟩ (.cons ⟨rfl, TnO.arr (vI_tn _)⟩ (.cons ⟨rfl, TnO.arr (uL_tn _)⟩ (.cons ⟨rfl, TnO.arr (.cons (.cons (TnS.slc (r := fun i => if i = 5 then 6 else if i < 5 then i else i + 1) (id := 3) (id' := 3) rfl) (.cons (TnS.slc (r := fun i => if i = 5 then 6 else if i < 5 then i else i + 1) (id := 4) (id' := 4) rfl) .nil)) .nil)⟩ (.cons ⟨rfl, TnO.arr (by repeat' (first | exact TmT.cons rfl (TnS.d _) ?_ | exact trivial | exact F2.nil | refine F2.append ?_ ?_ | refine F2.map fun _ _ => ?_ | refine F2.cons ?_ ?_ | refine TmT.cons rfl ?_ ?_ | exact TnS.d _ | exact TnS.dx _ | exact TnS.dp _ | exact TnS.slc rfl | exact TnS.ptr rfl | refine TnS.frzf rfl (by simp) (by simp) (by simp) ?_ | refine TnS.frz0 rfl (by simp) (by simp) (by simp) ?_ | refine TnS.frzm rfl (by simp) ?_ | exact TnS.mapr rfl | exact TnS.yld rfl | refine ⟨rfl, ?_⟩ | refine TnO.arr ?_ | refine TnO.map ?_ | exact TnO.raw _ | exact TnO.iter _ _ | refine TnS.agg ?_ | refine TnS.tup ?_ | exact TnS.pure (Pure.clo (by assumption) (by assumption)) | refine TnS.clo ?_ ?_ | exact TnS.unk _ | exact TnS.pure (Pure.clo (by assumption) (by assumption))))⟩ .nil))))) (fun h => h)
      · have hge : i = lenC ws := by have := of_decide_eq_false h44; omega
        subst hge
        refine Tr.exit ?_
        have hwl := wrTo_le ws k (lenC ws)
        have w5 : IntKind.i64.wrap ((5 : Int) + (k : Int)) = ((5 + k : Nat) : Int) := by rw [wr (by omega) (by omega)]; rfl
        have w6 : IntKind.i64.wrap (((wrTo ws k (lenC ws) : Nat) : Int) + ((wordOf ws (5 + k) % 2 : Nat) : Int)) = ((wrTo ws k (lenC ws) + wordOf ws (5 + k) % 2 : Nat) : Int) := by rw [wr (by omega) (by omega)]; rfl
        have hmin : min (10 : Int) ((wrTo ws k (lenC ws) + wordOf ws (5 + k) % 2 : Nat) : Int) = ((wrongAt ws k : Nat) : Int) := by unfold wrongAt; omega
        have hk4 : (k + 1 ≤ 1073741824) = True := eq_true (by omega)
        refine Tr.imp (st' := ⟨[(0, SW ws), (1, I m), (4, .ptr 0 0 0), (6, .ptr 1 0 0), (7, SI (codeV ws)), (8, I (lenC ws : Nat)), (10, I k), (11, SI (rowTo ws k (lenC ws))), (12, I (wrTo ws k (lenC ws) : Nat))], [(4, .arr 1 (vI (wrongTo ws k))), (3, .arr 1 (uL (rowsTo ws k))), (1, .arr 2 [[.slc 3 1 0 k k, .slc 4 1 0 k k]]), (0, .arr 2 [[.dx [], .dx []]])], 6, 98, [], 0⟩) (Imp.go (fun i => i) [(4, _), (3, _), (1, _), (0, _)] rfl rfl (.cons _ (.refl _)) (fun _ _ => rfl) (fun _ h => h) (.cons rfl (TnS.d _) (.cons rfl (TnS.d _) (.cons rfl (TnS.ptr rfl) (.cons rfl (TnS.ptr rfl) (.cons rfl (TnS.d _) (.cons rfl (TnS.d _) (.cons rfl (TnS.d _) (.cons rfl (TnS.frz0 (id := 5) (sz := 1) (es := vI (rowTo ws k (lenC ws))) rfl (by simp) (by simp) (by rw [vI_len, rowTo_len]) (vI_fz _)) (.cons rfl (TnS.d _) trivial))))))))) (.cons ⟨rfl, TnO.arr (vI_tn _)⟩ (.cons ⟨rfl, TnO.arr (uL_tn _)⟩ (.cons ⟨rfl, TnO.arr (.cons (.cons (TnS.slc (r := fun i => i) (id := 3) (id' := 3) rfl) (.cons (TnS.slc (r := fun i => i) (id := 4) (id' := 4) rfl) .nil)) .nil)⟩ (.cons ⟨rfl, TnO.arr (by repeat' (first | exact TmT.cons rfl (TnS.d _) ?_ | exact trivial | exact F2.nil | refine F2.append ?_ ?_ | refine F2.map fun _ _ => ?_ | refine F2.cons ?_ ?_ | refine TmT.cons rfl ?_ ?_ | exact TnS.d _ | exact TnS.dx _ | exact TnS.dp _ | exact TnS.slc rfl | exact TnS.ptr rfl | refine TnS.frzf rfl (by simp) (by simp) (by simp) ?_ | refine TnS.frz0 rfl (by simp) (by simp) (by simp) ?_ | refine TnS.frzm rfl (by simp) ?_ | exact TnS.mapr rfl | exact TnS.yld rfl | refine ⟨rfl, ?_⟩ | refine TnO.arr ?_ | refine TnO.map ?_ | exact TnO.raw _ | exact TnO.iter _ _ | refine TnS.agg ?_ | refine TnS.tup ?_ | exact TnS.pure (Pure.clo (by assumption) (by assumption)) | refine TnS.clo ?_ ?_ | exact TnS.unk _ | exact TnS.pure (Pure.clo (by assumption) (by assumption))))⟩ .nil)))) (fun _ => rfl)) ?_
        refine Tr.regD21 [0, 1, 5, 6, 2, 3, 4, 7, 8, 9, 10, 11, 12, 13, 14, 15, 16] [17, 18, 19, 20] [4, 16, 18, 20] [6] [0, 1, 4, 6, 7, 8, 10] mix (by kernel_rfl) (by
            simp only [↓sxd, sxu, ↓zC, zK, ↓exq, ↓zB, St.keep, ↓zD, ↓zG, ↓zQ, ↓zA, Nat.reduceBEq, Nat.reduceAdd, Nat.reduceLT, Nat.reduceLeDiff, Nat.reduceEqDiff, tysW37_44, w5, rowsTo_len, hk4]
            (repeat ((with_reducible refine And.intro ?_ ?_); (focus (first | with_reducible rfl | trivial | exact fun h => h | exact fun h => (by rw [h]; rfl) | omega | assumption))))
            refine CallD.use (word_c ws hw (5 + k)) ?_
            try simp only [↓sxd, sxu, ↓zC, zK, ↓exq, ↓zB, ↓zG, ↓zQ, Nat.reduceBEq, Nat.reduceAdd, Nat.reduceLT, Nat.reduceLeDiff, Nat.reduceEqDiff, tysW37_44, tmod2n, w6, wrongTo_len, hk4, hmin]
            (repeat' (first | rfl | exact trivial | exact fun h => h | exact fun h => (by rw [h]; rfl) | apply And.intro | omega | exact Nat.le_of_ble_eq_true rfl))) ?_
        have w7 : IntKind.i64.wrap ((k : Int) + 1) = ((k + 1 : Nat) : Int) := by rw [wr (by omega) (by omega)]; rfl
        refine Tr.reg1 [0, 1, 4, 6, 7, 8, 10] (by
            simp only [↓sxd, sxu, ↓zE, ↓exq, St.keep, Nat.reduceBEq, Nat.reduceLT, w7]
            (repeat' (first | rfl | exact trivial | exact fun h => h | exact fun h => (by rw [h]; rfl) | apply And.intro | omega | exact Nat.le_of_ble_eq_true rfl))) ?_
        refine ⟨_, _, ?_, ?_, ⟨k + 1, hkl, rfl, rfl⟩⟩
        · omega
        · rw [rowsTo_succ, wrongTo_succ, vI_snoc, uL_snoc]
          exact Imp.go (fun i => if i = 3 then 6 else if i = 4 then 7 else if i < 3 then i else i + 3) [(7, _), (6, _), (1, _), (0, _)] rfl rfl (.refl _) (fun _ h => absurd h (Nat.not_lt_zero _)) (fun id h => by simp only [show ¬ id = 3 by omega, show ¬ id = 4 by omega, show ¬ id < 3 by omega, if_false]; omega) (by repeat' (first | exact TmT.cons rfl (TnS.d _) ?_ | exact trivial | exact F2.nil | refine F2.append ?_ ?_ | refine F2.map fun _ _ => ?_ | refine F2.cons ?_ ?_ | refine TmT.cons rfl ?_ ?_ | exact TnS.d _ | exact TnS.dx _ | exact TnS.dp _ | exact TnS.slc rfl | exact TnS.ptr rfl | refine TnS.frzf rfl (by simp) (by simp) (by simp) ?_ | refine TnS.frz0 rfl (by simp) (by simp) (by simp) ?_ | refine TnS.frzm rfl (by simp) ?_ | exact TnS.mapr rfl | exact TnS.yld rfl | refine ⟨rfl, ?_⟩ | refine TnO.arr ?_ | refine TnO.map ?_ | exact TnO.raw _ | exact TnO.iter _ _ | refine TnS.agg ?_ | refine TnS.tup ?_ | exact TnS.pure (Pure.clo (by assumption) (by assumption)) | refine TnS.clo ?_ ?_ | exact TnS.unk _ | exact TnS.pure (Pure.clo (by assumption) (by assumption)))) (.cons ⟨rfl, TnO.arr (F2.append (vI_tn _) (.cons (.cons (TnS.d _) .nil) .nil))⟩ (.cons ⟨rfl, TnO.arr (F2.append (uL_tn _) (.cons (.cons (TnS.d _) .nil) .nil))⟩ (.cons ⟨rfl, TnO.arr (.cons (.cons (TnS.slc (r := fun i => if i = 3 then 6 else if i = 4 then 7 else if i < 3 then i else i + 3) (id := 6) (id' := 3) rfl) (.cons (TnS.slc (r := fun i => if i = 3 then 6 else if i = 4 then 7 else if i < 3 then i else i + 3) (id := 7) (id' := 4) rfl) .nil)) .nil)⟩ (.cons ⟨rfl, TnO.arr (by repeat' (first | exact TmT.cons rfl (TnS.d _) ?_ | exact trivial | exact F2.nil | refine F2.append ?_ ?_ | refine F2.map fun _ _ => ?_ | refine F2.cons ?_ ?_ | refine TmT.cons rfl ?_ ?_ | exact TnS.d _ | exact TnS.dx _ | exact TnS.dp _ | exact TnS.slc rfl | exact TnS.ptr rfl | refine TnS.frzf rfl (by simp) (by simp) (by simp) ?_ | refine TnS.frz0 rfl (by simp) (by simp) (by simp) ?_ | refine TnS.frzm rfl (by simp) ?_ | exact TnS.mapr rfl | exact TnS.yld rfl | refine ⟨rfl, ?_⟩ | refine TnO.arr ?_ | refine TnO.map ?_ | exact TnO.raw _ | exact TnO.iter _ _ | refine TnS.agg ?_ | refine TnS.tup ?_ | exact TnS.pure (Pure.clo (by assumption) (by assumption)) | refine TnS.clo ?_ ?_ | exact TnS.unk _ | exact TnS.pure (Pure.clo (by assumption) (by assumption))))⟩ .nil)))) (fun h => h)
    · have hke : k = codersN ws m := by have := of_decide_eq_false h39; omega
      refine Tr.exit ?_
      refine Tr.reg [4, 5] (by
          simp only [↓sxd, sxu, ↓zE, ↓exq, St.keep, ↓zD, Nat.reduceBEq, Nat.reduceAdd, Nat.reduceLT, Nat.reduceEqDiff, tysW37_44]
          (repeat' (first | rfl | exact trivial | exact fun h => h | exact fun h => (by rw [h]; rfl) | apply And.intro | omega | exact Nat.le_of_ble_eq_true rfl))) ?_
      subst hke
      refine Tr.imp (st' := ⟨[(4, .ptr 0 0 0), (5, SI (codeV ws))], [(0, .arr 2 [[SL (codedC ws m).codes, SI (codedC ws m).wrong]])], 5, 98, [], 0⟩) (Imp.go (fun i => i) [(0, .arr 2 [[.slc 3 1 0 (codersN ws m) (codersN ws m), .slc 4 1 0 (codersN ws m) (codersN ws m)]])] rfl rfl (.cons _ (.cons _ (.cons _ (.refl _)))) (fun _ _ => rfl) (fun _ h => h) (.cons rfl (TnS.ptr rfl) (.cons rfl (TnS.d _) trivial)) (.cons ⟨rfl, TnO.arr (.cons (.cons (TnS.frz0 (id := 3) (sz := 1) (es := uL (rowsTo ws (codersN ws m))) rfl (by simp) (by simp) (by rw [List.length_map, rowsTo_len]) (uL_fz _)) (.cons (TnS.frz0 (id := 4) (sz := 1) (es := vI (wrongTo ws (codersN ws m))) rfl (by simp) (by simp) (by rw [vI_len, wrongTo_len]) (vI_fz _)) .nil)) .nil)⟩ .nil) (fun _ => rfl)) ?_
      refine Tr.ret ?_
      (refine ⟨.inr rfl, ?_⟩; first | rfl | exact ⟨rfl, rfl, trivial⟩ | exact ⟨rfl, rfl, rfl, trivial⟩ | (simp only [Res, ResL, ResOK, sxu, ↓zD, Nat.reduceBEq, Nat.reduceAdd, Nat.reduceLT, tysW37_44]; (repeat' (first | rfl | exact trivial | exact fun h => h | exact fun h => (by rw [h]; rfl) | apply And.intro | omega | exact Nat.le_of_ble_eq_true rfl))))
end Go.Proofs.YtcnkbdfkjhlbiaaDoor
namespace Go.Proofs.YtcnkbdfkjhlbiaaDoor
set_option maxRecDepth 8000
theorem codedC_codes (ws : List Nat) (m : Nat) : (codedC ws m).codes = rowsTo ws (codersN ws m) := rfl
theorem codedC_wrong (ws : List Nat) (m : Nat) : (codedC ws m).wrong = wrongTo ws (codersN ws m) := rfl
theorem rowsTo_get {ws : List Nat} {n k : Nat} (h : k < n) : (rowsTo ws n).getD k [] = rowTo ws k (lenC ws) := by simp [rowsTo, List.getD_eq_getElem?_getD, h]
theorem wrongTo_get {ws : List Nat} {n k : Nat} (h : k < n) : (wrongTo ws n).getD k 0 = (wrongAt ws k : Int) := by simp [wrongTo, List.getD_eq_getElem?_getD, h]
theorem rowTo_get {ws : List Nat} {k n i : Nat} (h : i < n) : (rowTo ws k n).getD i 0 = (rowAt ws k i : Int) := by simp [rowTo, List.getD_eq_getElem?_getD, h]
theorem cdC_lt (ws : List Nat) (i : Nat) : cdC ws i < 10 := Nat.mod_lt _ (by omega)
theorem rowAt_lt (ws : List Nat) (k i : Nat) : rowAt ws k i < 10 := by
  unfold rowAt
  split
  · exact Nat.mod_lt _ (by omega)
  · exact cdC_lt ws i
theorem coded_cols {ws : List Nat} {m : Nat} : (codedC ws m).cols = lenC ws := by
  unfold Coding.cols
  rw [codedC_codes, rowsTo_get (by unfold codersN; omega), rowTo_len]
theorem coded_check {ws : List Nat} {m : Nat} (hm : 0 < m) (hm3 : m ≤ 3) : (codedC ws m).check = 0 := by
  have hN : codersN ws m ≤ m := by have := Nat.mod_lt (wordOf ws 3) hm; unfold codersN; omega
  have hN0 : 0 < codersN ws m := by unfold codersN; omega
  have hl := lenC_le ws
  unfold Coding.check
  rw [if_neg, if_neg, if_pos]
  · rw [List.all_eq_true]
    intro k hk
    rw [List.mem_range, codedC_codes, rowsTo_len] at hk
    unfold Coding.row
    rw [coded_cols, codedC_codes, codedC_wrong, rowsTo_get hk, wrongTo_get hk, rowTo_len, decide_eq_true rfl, Bool.true_and, Bool.and_eq_true]
    refine ⟨?_, ?_⟩
    · rw [List.all_eq_true]
      intro x hx
      obtain ⟨i, _, rfl⟩ := List.mem_map.1 hx
      have := rowAt_lt ws k i
      simp only [isCode, Bool.and_eq_true, decide_eq_true_eq]; omega
    · unfold within wrongAt
      rw [Bool.and_eq_true, decide_eq_true_eq, decide_eq_true_eq]; omega
  · rw [coded_cols, codedC_codes, codedC_wrong, rowsTo_len, wrongTo_len]; omega
  · rw [Bool.or_eq_true, not_or]
    refine ⟨fun hc => ?_, ?_⟩
    · have := of_decide_eq_true hc
      rw [codedC_codes, rowsTo_len] at this; omega
    · rw [Bool.not_eq_true', Bool.not_eq_false, List.all_eq_true]
      intro x hx
      rw [codedC_codes] at hx
      obtain ⟨k, _, rfl⟩ := List.mem_map.1 hx
      rw [rowTo_len, decide_eq_true_eq]; omega
theorem coded_errs {ws : List Nat} {m k : Nat} (hk : k < codersN ws m) : ∀ n, n ≤ lenC ws → errsAt (codedC ws m) k 0 (codeTo ws n) = wrTo ws k n
  | 0, _ => rfl
  | n + 1, hn => by
    rw [codeTo_succ, errsAt_snoc, coded_errs hk n (by omega), codeTo_len, Nat.zero_add, wrTo]
    congr 1
    unfold off
    rw [codedC_codes, rowsTo_get hk, rowTo_get (by omega)]
    by_cases h : rowAt ws k n = cdC ws n
    · rw [if_pos h, h, if_neg (fun hc => hc rfl)]
    · rw [if_neg h, if_pos (by omega)]
theorem coded_comp {ws : List Nat} {m : Nat} : Comp (codedC ws m) 0 e000 (codeV ws) := by
  refine ⟨by rw [coded_cols, codeV, codeTo_len]; omega, fun x hx => ?_, fun k hk => ?_⟩
  · obtain ⟨i, _, rfl⟩ := List.mem_map.1 hx
    have := cdC_lt ws i
    omega
  · rw [codedC_codes, rowsTo_len] at hk
    rw [e000_get, codeV, coded_errs hk _ (Nat.le_refl _), codedC_wrong, wrongTo_get hk]
    have h1 := wrTo_le ws k (lenC ws)
    have h2 := lenC_le ws
    unfold wrongAt
    omega
theorem codes_some {c : Coding} (hk : c.check = 0) (hs : ∃ w, Comp c 0 e000 w) :
    c.codesS = ((List.range c.cols).map fun p => nats (c.codesAt c.root.2 p), 0) ∧ ∃ w, Comp c 0 e000 w ∧ c.errorsS = (((totAt c 0 w : Nat) : Int), 0) ∧ ∀ w', Comp c 0 e000 w' → totAt c 0 w ≤ totAt c 0 w' := by
  have h := coding_fine hk
  have hgo : c.goes c.root.2 0 e000 = true := (ctried_iff h).2 hs
  have ht : c.tried = 0 := by rw [fine_ctried h hk, hgo]; rfl
  obtain ⟨w, e1, e2, e3⟩ := errors_law h hs
  unfold Coding.codesS Coding.errorsS
  rw [if_pos ht, if_pos ht, e2]
  exact ⟨rfl, w, e1, rfl, e3⟩
theorem mem_codesAt {c : Coding} (h : CodingFine c) (hs : ∃ w, Comp c 0 e000 w) {p : Nat} (hp : p < c.cols) {x : Nat} : x ∈ c.codesAt c.root.2 p ↔ x < 10 ∧ ∃ u, Comp c 0 e000 u ∧ u.getD p 0 = (x : Int) := by
  unfold Coding.codesAt
  rw [List.mem_filter, List.mem_range]
  exact ⟨fun ⟨a, b⟩ => ⟨a, (canAt_iff h hs hp a).1 b⟩, fun ⟨a, b⟩ => ⟨a, (canAt_iff h hs hp a).2 b⟩⟩
structure Harder (c x : Coding) (l : List Int) : Prop where
  codes : x.codes = c.codes ++ [l]
  len : c.codes.length = c.wrong.length
  wr : ∀ k, k < c.codes.length → x.wrong.getD k 0 ≤ c.wrong.getD k 0
theorem Harder.row {c x : Coding} {l : List Int} (h : Harder c x l) {k : Nat} (hk : k < c.codes.length) : x.codes.getD k [] = c.codes.getD k [] := by
  rw [h.codes]; exact getD_app_l hk
theorem Harder.errs {c x : Coding} {l : List Int} (h : Harder c x l) {k : Nat} (hk : k < c.codes.length) : ∀ (w : List Int) (p : Nat), errsAt x k p w = errsAt c k p w
  | [], _ => rfl
  | y :: w, p => by
    simp only [errsAt, h.errs hk w (p + 1)]
    congr 1
    unfold off
    rw [h.row hk]
theorem Harder.cols {c x : Coding} {l : List Int} (h : Harder c x l) (h0 : 0 < c.codes.length) : x.cols = c.cols := by unfold Coding.cols; rw [h.row h0]
theorem Harder.n {c x : Coding} {l : List Int} (h : Harder c x l) : x.codes.length = c.codes.length + 1 := by rw [h.codes]; simp
theorem sumTo_congr {f g : Nat → Nat} : ∀ n, (∀ k, k < n → f k = g k) → sumTo f n = sumTo g n
  | 0, _ => rfl
  | n + 1, h => by simp only [sumTo, sumTo_congr n fun k hk => h k (by omega), h n (by omega)]
theorem Harder.tot {c x : Coding} {l : List Int} (h : Harder c x l) (w : List Int) : totAt x 0 w = totAt c 0 w + errsAt x c.codes.length 0 w := by
  unfold totAt
  rw [h.n]
  show sumTo _ c.codes.length + _ = _
  rw [sumTo_congr c.codes.length fun k hk => h.errs hk w 0]
theorem errs_zero {c : Coding} {k : Nat} : ∀ (w : List Int) (p : Nat), errsAt c k p w = 0 → ∀ i, i < w.length → (c.codes.getD k []).getD (p + i) 0 = w.getD i 0
  | [], _, _, i, hi => by cases hi
  | y :: w, p, h, i, hi => by
    simp only [errsAt] at h
    cases i with
    | zero =>
      have h0 : off c k p y = 0 := by omega
      unfold off at h0
      split at h0
      · cases h0
      · rename_i g; exact Decidable.not_not.1 g
    | succ i =>
      have := errs_zero (c := c) (k := k) w (p + 1) (by omega) i (by simpa using hi)
      rw [show p + (i + 1) = p + 1 + i by omega]
      exact this
theorem errs_self {c : Coding} {k : Nat} : ∀ (w : List Int) (p : Nat), (∀ i, i < w.length → (c.codes.getD k []).getD (p + i) 0 = w.getD i 0) → errsAt c k p w = 0
  | [], _, _ => rfl
  | y :: w, p, h => by
    simp only [errsAt]
    rw [errs_self w (p + 1) fun i hi => by
      have := h (i + 1) (by simpa using hi)
      rw [show p + (i + 1) = p + 1 + i by omega] at this
      exact this]
    have : off c k p y = 0 := if_neg (fun hc => hc (h 0 (by simp)))
    omega
theorem filter_one {y : Nat} (h : y < 10) : (List.range 10).filter (fun a => a == y) = [y] := by
  have : ∀ y, y < 10 → (List.range 10).filter (fun a => a == y) = [y] := by decide
  exact this y h
theorem solved_law {c x : Coding} {v : List Int} (hc : c.check = 0) (hx : x.check = 0) (h : Harder c x v) (hv : Comp c 0 e000 v) (hw : ∀ k, k < c.codes.length → x.wrong.getD k 0 = c.wrong.getD k 0) (hz : x.wrong.getD c.codes.length 0 = 0) :
    c.codesS.2 = 0 ∧ c.errorsS.2 = 0 ∧ c.codesS.1.length = c.cols ∧ 0 ≤ c.errorsS.1 ∧ c.errorsS.1 ≤ totAt c 0 v ∧ c.proves v = true ∧
    x.codesS.2 = 0 ∧ x.errorsS.2 = 0 ∧ x.codesS.1.length = c.cols ∧ x.errorsS.1 = totAt c 0 v ∧
    ∀ p, p < c.cols → v.getD p 0 ∈ c.codesS.1.getD p [] ∧ x.codesS.1.getD p [] = [v.getD p 0] := by
  have fc := coding_fine hc
  have fx := coding_fine hx
  have hcl : x.cols = c.cols := h.cols fc.n0
  have hvl : v.length = c.cols := by have := hv.len; omega
  have hrow : x.codes.getD c.codes.length [] = v := by rw [h.codes, getD_app_r (Nat.le_refl _), Nat.sub_self]; rfl
  have hself : errsAt x c.codes.length 0 v = 0 := errs_self v 0 fun i hi => by rw [hrow, Nat.zero_add]
  have hxv : Comp x 0 e000 v := by
    refine ⟨by rw [hcl]; exact hv.len, hv.cod, fun k hk => ?_⟩
    rw [h.n] at hk
    by_cases hkc : k < c.codes.length
    · rw [h.errs hkc, hw k hkc]; exact hv.few k hkc
    · obtain rfl : k = c.codes.length := by omega
      rw [hself, hz, e000_get]; decide
  have huniq : ∀ w, Comp x 0 e000 w → w = v := fun w hw2 => by
    have h1 := hw2.few c.codes.length (by rw [h.n]; omega)
    rw [hz, e000_get] at h1
    have h2 := errs_zero (c := x) (k := c.codes.length) w 0 (by omega)
    have hwl : w.length = c.cols := by have := hw2.len; omega
    refine List.ext_getElem (by omega) fun i h3 h4 => ?_
    have := h2 i h3
    rw [hrow, Nat.zero_add] at this
    simpa [List.getD_eq_getElem?_getD, h3, h4] using this.symm
  obtain ⟨c1, w, c2, c3, c4⟩ := codes_some hc ⟨v, hv⟩
  obtain ⟨x1, u, x2, x3, x4⟩ := codes_some hx ⟨v, hxv⟩
  obtain rfl := huniq u x2
  have htot := h.tot u
  rw [c1, c3, x1, x3]
  refine ⟨rfl, rfl, by simp, Int.natCast_nonneg _, Int.ofNat_le.2 (c4 u hv), proves_law.2 ⟨hc, hv⟩, rfl, rfl, by simp [hcl], by show ((totAt x 0 u : Nat) : Int) = _; omega, fun p hp => ?_⟩
  have hpx : p < x.cols := by omega
  have hy := hv.cod (u.getD p 0) (getD_mem (by omega))
  have e1 : ((List.range x.cols).map fun p => nats (x.codesAt x.root.2 p)).getD p [] = nats (x.codesAt x.root.2 p) := by simp [List.getD_eq_getElem?_getD, hpx]
  have e2 : ((List.range c.cols).map fun p => nats (c.codesAt c.root.2 p)).getD p [] = nats (c.codesAt c.root.2 p) := by simp [List.getD_eq_getElem?_getD, hp]
  show u.getD p 0 ∈ ((List.range c.cols).map fun p => nats (c.codesAt c.root.2 p)).getD p [] ∧ ((List.range x.cols).map fun p => nats (x.codesAt x.root.2 p)).getD p [] = [u.getD p 0]
  rw [e1, e2]
  have ey : (((u.getD p 0).toNat : Nat) : Int) = u.getD p 0 := by omega
  constructor
  · unfold nats
    rw [List.mem_map]
    exact ⟨(u.getD p 0).toNat, (mem_codesAt fc ⟨u, hv⟩ hp).2 ⟨by omega, u, hv, ey.symm⟩, ey⟩
  · have : x.codesAt x.root.2 p = [(u.getD p 0).toNat] := by
      rw [← filter_one (y := (u.getD p 0).toNat) (by omega)]
      unfold Coding.codesAt
      refine List.filter_congr fun a ha => ?_
      rw [List.mem_range] at ha
      rw [Bool.eq_iff_iff, canAt_iff fx ⟨u, hxv⟩ hpx ha, beq_iff_eq]
      constructor
      · rintro ⟨z, hz1, hz2⟩
        rw [huniq z hz1] at hz2
        omega
      · intro ha2
        exact ⟨u, hxv, by omega⟩
    rw [this]
    show [(((u.getD p 0).toNat : Nat) : Int)] = _
    rw [ey]
end Go.Proofs.YtcnkbdfkjhlbiaaDoor
namespace Go.Sy
section
variable {P : Program} {G : Nat → Option (List D)} {ro : Option Nat} {M : Nat} {O : Nat → Prop} {pb pl pl' : Nat → Option Pl} {w w' : World} {hp hp' hp2 : HpT} {nx nx' nx2 : Nat} {ops : Array Oper}
def oUp (O : Nat → Prop) (B x : Nat) : Prop := O x ∨ x = B
theorem Ox_oUp {a : Act} {B : Nat} : Ox (oUp O B) a = oUp (Ox O a) B := funext fun _ => propext or_right_comm
theorem HS.boxO (hs : HS G O pb pl w hp nx) (c : Array Value) (e : TypeId) :
    HS G (oUp O w.heap.size) pb pl (w.alloc (.cells c e)) hp nx ∧ Ext (okOf O pl hp) w (okOf (oUp O w.heap.size) pl hp) (w.alloc (.cells c e)) := by
  have ha := Add.alloc w (.cells c e)
  have hE : Ext (okOf O pl hp) w (okOf (oUp O w.heap.size) pl hp) (w.alloc (.cells c e)) := ⟨fun B hB h => ⟨fun hc => hc.elim h.1 (fun h => by omega), h.2⟩, fun B hB _ => ha.keep B hB, ha.size⟩
  refine ⟨⟨fun p hp0 => ?_, hs.apart, hs.fresh, fun B hB => ?_, hs.base, fun g cs hg => (hs.glob g cs hg).ext hE (fun _ _ h => h)⟩, hE⟩
  · obtain ⟨q, hq, hl, ho⟩ := hs.obj p hp0
    exact ⟨q, hq, fun ht => ⟨Nat.lt_of_lt_of_le (hl ht).1 ha.size, fun hc => hc.elim (hl ht).2 (fun he => by have := (hl ht).1; omega)⟩, ho.ext hE (fun _ _ h => h) fun _ hlt => ha.keep _ hlt⟩
  · rcases hB with hB | rfl
    · exact Nat.lt_of_lt_of_le (hs.old B hB) ha.size
    · exact heap_lt (heap_alloc_new w (.cells c e))
theorem HS.adopt {B : Nat} {q : Pl} {o : Obj} (hs : HS G (oUp O B) pb pl w hp nx) (hO : ¬ O B) (hb : q.blk = B)
    (hobj : ∀ pl' ok', ObjR pl' ok' w q o) : HS G O pb (plUp pl nx q) w ((nx, o) :: hp) (nx + 1) ∧ Ext (okOf (oUp O B) pl hp) w (okOf O (plUp pl nx q) ((nx, o) :: hp)) w := by
  have hmono := hs.plUp_mono q
  have hE : Ext (okOf (oUp O B) pl hp) w (okOf O (plUp pl nx q) ((nx, o) :: hp)) w := Ext.weak fun x hx h => ⟨fun hc => h.1 (.inl hc), fun hc => by
      rcases hs.own_new q o x hc with h' | ⟨_, h'⟩
      · exact h.2 h'
      · exact h.1 (.inr (h'.symm.trans hb))⟩
  refine ⟨⟨fun p hp0 => ?_, ?_, fun id hid => ?_, fun x hx => hs.old x (.inl hx), fun id q' h => hmono _ _ (hs.base id q' h), fun g cs hg => (hs.glob g cs hg).ext hE hmono⟩, hE⟩
  · rcases List.mem_cons.1 hp0 with rfl | hp1
    · exact ⟨q, plUp_self _ _ _, fun _ => ⟨by rw [hb]; exact hs.old B (.inr rfl), by rw [hb]; exact hO⟩, hobj _ _⟩
    · obtain ⟨q', hq, hl, ho⟩ := hs.obj p hp1
      exact ⟨q', hmono _ _ hq, fun ht => ⟨(hl ht).1, fun hc => (hl ht).2 (.inl hc)⟩, ho.ext hE hmono fun _ _ => rfl⟩
  · refine List.Pairwise.cons ?_ ?_
    · intro p hp1
      have hne := hs.mem_lt hp1
      refine ⟨by simp only; omega, fun q₁ q₂ h1 h2 t1 t2 he => ?_⟩
      rw [plUp_self] at h1
      cases h1
      rw [plUp_ne _ _ (by omega)] at h2
      obtain ⟨q₃, h3, h4, _⟩ := hs.obj p hp1
      rw [h2] at h3
      cases h3
      exact (h4 t2).2 (.inr (he.symm.trans hb))
    · refine hs.apart.imp_of_mem fun {p p'} h1 h2 h => ⟨h.1, fun q₁ q₂ g1 g2 => ?_⟩
      have l1 := hs.mem_lt h1
      have l2 := hs.mem_lt h2
      rw [plUp_ne _ _ (by omega)] at g1 g2
      exact h.2 q₁ q₂ g1 g2
  · rw [plUp_ne _ _ (by omega)]; exact hs.fresh id (by omega)
theorem R.adopt {st : St} {a : Act} {B ta : Nat} {c : Array Value} {e : TypeId} {cs : List SV} (hR : R G (oUp O B) M pb pl st a w) (hO : ¬ O B) (hw : w.heap[B]? = some (.cells c e)) (hl : c.size = cs.length) (hne : cs.length ≠ 0)
    (hc : ∀ pl' ok' w' i (hi : i < cs.length), SR pl' ok' w' cs[i] (c.getD i undef)) (ht : a.tmps.getD ta undef = .pointer (some ⟨B, 0, none⟩)) :
    R G O M pb (plUp pl st.nx ⟨B, cs.length, c.size⟩) ⟨(ta, .ptr st.nx 0 0) :: st.tm, (st.nx, .arr cs.length [cs]) :: st.hp, st.nx + 1, st.nt, st.df, st.nb⟩ a w := by
  have hs := hR.hs
  rw [Ox_oUp] at hs
  have hO' : ¬ Ox O a B := by
    rintro (h | ⟨d, hd, hdt⟩)
    · exact hO h
    · obtain ⟨B', e1, _, e2⟩ := hR.df.mks d hd
      rw [e1] at hdt
      cases hdt
      rw [hw] at e2
      cases e2
  obtain ⟨h1, h2⟩ := hs.adopt (q := ⟨B, cs.length, c.size⟩) (o := .arr cs.length [cs]) hO' rfl fun pl' ok' => by
    refine .arr (q := ⟨B, cs.length, c.size⟩) [cs] c e (by show c.size ≠ 0; omega) hw rfl (by show 1 * cs.length ≤ c.size; omega) (fun i hi => ?_) fun i hi j hj => ?_
    · have : i = 0 := by simp at hi; omega
      subst this; rfl
    · have : i = 0 := by simp at hi; omega
      subst this
      simpa using hc pl' ok' w j (by simpa using hj)
  have hmono := hs.plUp_mono ⟨B, cs.length, c.size⟩
  refine ⟨h1, fun t s hl => ?_, hR.nt, hR.df, hR.bd⟩
  simp only [List.lookup_cons] at hl
  split at hl
  · rename_i he
    have : t = ta := by simpa using he
    subst this
    cases hl
    rw [ht]
    have := SR.ptr (ok := okOf (Ox O a) (plUp pl st.nx ⟨B, cs.length, c.size⟩) ((st.nx, .arr cs.length [cs]) :: st.hp)) (w := w) st.nx 0 0 _ (plUp_self pl st.nx ⟨B, cs.length, c.size⟩)
    simpa using this
  · have := hR.tm t s hl
    rw [Ox_oUp] at this
    exact this.ext h2 hmono
theorem EvAt.sound2 {ld : Bool} {i : Nat} {o : Oper} {st : St} {r : SV} {a : Act} {K : Act → World → Prop} {Q : Exit → Act → World → Prop} (hi : ops[i]? = some o) (h : EvAt P G ops ld o st r hp' nx') (hR : R G O M pb pl st a w)
    (hK : ∀ pl' v w', R G O M pb pl' ⟨putT o.dst r st.tm, hp', nx', st.nt, st.df, st.nb⟩ (a.put o.dst v) w' → Step (ownOf pl st.hp) (ownOf pl' hp') w w' → K (a.put o.dst v) w') : wpOpIn (Fw ro) 0 P ops Q i K a w := by
  unfold wpOpIn
  simp only [hi]
  obtain ⟨hd, h⟩ := h
  have hev := ev_sound hR.hs hR.tm
  cases hg : o.guard with
  | none =>
    rw [hg] at h
    simp only at h
    have hw : Region.wanted o (yielded ops a.tmps) = true := by simp [Region.wanted, hg]
    rw [if_pos hw]
    have h' : exq P G o (ev G st.tm) st.hp st.nx (Det r hp' nx') := by
      cases ld
      · exact vU h
      · exact h
    refine (exq_sound hR.hs hev h').wpIn (exq_defer h') ?_
    rintro v w' ⟨pl', r', hp2, nx2, ⟨rfl, rfl, rfl⟩, hs', hv, hst, hpl⟩
    exact hK pl' _ w' (hR.put hd hs' hst hpl hv) hst
  | some jw =>
    obtain ⟨j, want⟩ := jw
    rw [hg] at h
    simp only at h
    obtain ⟨g, b, r0, h1, h2, rfl, rfl, rfl, h6⟩ := h
    have hgv : SR pl (okOf (Ox O a) pl st.hp) w ((st.tm.lookup g).getD .unk) (a.tmps.getD g undef) := by
      have := hev (.tmp g)
      simpa [ev, Act.eval] using this
    have hgs := gcond_sound hgv h2
    have hwanted : Region.wanted o (yielded ops a.tmps) = b := by
      have hy : yielded ops a.tmps j = bval (a.tmps.getD g undef) := by
        unfold yielded
        rw [h1]
        simp only [Option.bind_some, Array.getD_eq_getD_getElem?]
        cases a.tmps[g]? with
        | none => simp [undef, bval]
        | some v => cases v <;> rfl
      simp only [Region.wanted, hg, hy]
      cases hbb : b
      · cases hv : (bval (a.tmps.getD g undef) == some want)
        · rfl
        · rw [hgs.1 hv] at hbb; cases hbb
      · exact hgs.2 hbb
    rw [hwanted]
    cases b
    · simp only [Bool.false_eq_true, if_false]
      refine ⟨fun _ _ => trivial, ?_⟩
      exact hK pl _ w (hR.put hd hR.hs (.refl _ _) (fun _ _ h => h) (.whn false r0 undef (fun h => by cases h) (fun _ => rfl))) (.refl _ _)
    · simp only [if_true]
      have hex' := vU (h6 rfl)
      refine (exq_sound hR.hs (fun x => gstrip_sound (hev x)) hex').wpIn (exq_defer hex') ?_
      rintro v w' ⟨pl', r', hp', nx', ⟨rfl, rfl, rfl⟩, hs', hv, hst, hpl⟩
      exact hK pl' _ w' (hR.put hd hs' hst hpl (.whn true _ v (fun _ => hv) (fun h => by cases h))) hst
end
section
variable {P : Program} {G : Nat → Option (List D)} {ro : Option Nat} {M : Nat} {O : Nat → Prop} {pb : Nat → Option Pl} {ops : Array Oper} {m : List Nat} {evs : List Ev} {st0 stf : St} {Q : Exit → Act → World → Prop}
theorem Inv.next2 {own0 : Nat → Prop} {w0 : World} {listed : Array Bool} {pl : Nat → Option Pl} {st : St} {a : Act} {w : World} (hd : DOk ops m evs) (hrun : RunL st0 evs stf)
    (stab : evs.Pairwise (fun x y => y.ld = true → Bf m x.i y.i = true ∨ ∀ id, rdEv G x.o x.st = some id → y.hp.lookup id = y.st.hp.lookup id))
    (reads : evs.Pairwise (fun x y => x.ld = true → (rdEv G y.o y.st).isSome = true → Bf m x.i y.i = true))
    (hI : Inv G O M pb ops evs st0 own0 w0 listed pl st a w) {i : Nat} (hi : i ∈ Region.ready .any ops listed) (hev : ∀ e ∈ evs, e.i = i → EvOk P G ops e) {K : Act → World → Prop}
    (hK : ∀ pl' st' v o w', ops[i]? = some o → Inv G O M pb ops evs st0 own0 w0 (listed.setIfInBounds i true) pl' st' (a.put o.dst v) w' → Step (ownOf pl st.hp) (ownOf pl' st'.hp) w w' → K (a.put o.dst v) w') : wpOpIn (Fw ro) 0 P ops Q i K a w := by
  obtain ⟨hun, o, ho, hall⟩ := mem_ready.1 hi
  have hlt : i < ops.size := (Array.getElem?_eq_some_iff.1 ho).1
  have hlt' : i < listed.size := by rw [hI.sz]; exact hlt
  obtain ⟨e, he, rfl⟩ := hd.full i hlt
  have heo : e.o = o := by
    have := hd.get e he
    rw [ho] at this
    exact (Option.some.inj this).symm
  subst heo
  obtain ⟨pre, post, hsp⟩ := split_at he
  let S : Nat → Bool := fun j => listed.getD j false
  have hSe : S e.i = false := by
    show listed.getD e.i false = false
    rw [getD_lt hlt' false true]; exact hun
  have hdn : ∀ i o, S i = true → ops[i]? = some o → ∀ x ∈ o.after, Region.binds .any x = true → S x.on = true := hI.dn
  have hpred : ∀ j, Bf m j e.i = true → S j = true := down hd hdn e.i e.o ho hall
  have hsucc : ∀ y ∈ evs, S y.i = true → Bf m e.i y.i = false := by
    intro y hy hSy
    cases hb : Bf m e.i y.i
    · rfl
    · have := down hd hdn y.i y.o (hd.get y hy) (hdn _ _ hSy (hd.get y hy)) e.i hb
      rw [hSe] at this
      cases this
  have pw : ∀ {Rl : Ev → Ev → Prop}, evs.Pairwise Rl → (∀ x ∈ pre, Rl x e) ∧ (∀ y ∈ post, Rl e y) := by
    intro Rl h
    rw [hsp] at h
    obtain ⟨h1, h2, h3⟩ := List.pairwise_append.1 h
    exact ⟨fun x hx => h3 x hx e List.mem_cons_self, fun y hy => (List.pairwise_cons.1 h2).1 y hy⟩
  have mpre : ∀ x ∈ pre, x ∈ evs := fun x hx => by rw [hsp]; exact List.mem_append_left _ hx
  have mpost : ∀ y ∈ post, y ∈ evs := fun y hy => by rw [hsp]; exact List.mem_append_right _ (List.mem_cons_of_mem _ hy)
  obtain ⟨ap1, ap2⟩ := pw hd.apart
  obtain ⟨ld1, ld2⟩ := pw hd.louds
  obtain ⟨nd1, nd2⟩ := pw hd.nodup
  rw [hsp] at hrun
  obtain ⟨s, hr2, htm, hhp, hnt, hdf, hnb⟩ := hrun.split
  obtain ⟨hs, hq, hpost⟩ := hr2
  subst hs
  have T : ∀ t ∈ e.o.looksAt ops, st.tm.lookup t = e.st.tm.lookup t := by
    intro t ht
    rw [hI.tm t, hsp, foldT_append, htm]
    simp only [foldT]
    show (foldT S (if S e.i = true then _ else _) post).lookup t = _
    rw [hSe]
    simp only [Bool.false_eq_true, if_false]
    rw [foldT_none post _ fun y hy hyd => by
      cases hSy : S y.i
      · rfl
      · have hb := hsucc y (mpost y hy) hSy
        rcases ap2 y hy with h | h
        · rw [hb] at h; cases h
        · exact absurd hyd (apart_3 h ht)]
    exact foldT_lookup pre _ _ (fun x hx hxd => by
      cases hSx : S x.i
      · rcases ap1 x hx with h | h
        · have := hpred _ h; rw [hSx] at this; cases this
        · exact absurd hxd (apart_1 h ht)
      · exact hSx) rfl
  have hhead : foldH S (st0.hp, st0.nx) evs = foldH S (foldH S (st0.hp, st0.nx) pre) post := by
    rw [hsp, foldH_append]
    simp only [foldH, hSe, Bool.false_and, Bool.false_eq_true, if_false]
  have hpI : (st.hp, st.nx) = foldH S (foldH S (st0.hp, st0.nx) pre) post := by
    rw [← hhead]; exact hI.hp
  have hS' : ∀ j, (listed.setIfInBounds e.i true).getD j false = (if j = e.i then true else S j) := fun j => getD_set hlt'
  have hSe' : (listed.setIfInBounds e.i true).getD e.i false = true := by rw [hS', if_pos rfl]
  have hEv := hev e he rfl
  have hnt' : st.nt = e.st.nt := by rw [hI.nt, hnt]
  have key : ∀ hp2 nx2, EvAt P G ops e.ld e.o st e.r hp2 nx2 → (hp2, nx2) = foldH (fun j => (listed.setIfInBounds e.i true).getD j false) (st0.hp, st0.nx) evs → wpOpIn (Fw ro) 0 P ops Q e.i K a w := by
    intro hp2 nx2 hat hfold
    refine hat.sound2 ho hI.r fun pl' v w' hR' hst' => hK pl' ⟨putT e.o.dst e.r st.tm, hp2, nx2, st.nt, st.df, st.nb⟩ v e.o w' ho ?_ hst'
    refine ⟨by simp [hI.sz], ?_, hR', hI.step.trans hst', ?_, hfold, hI.nt, hI.df, hI.nb⟩
    · intro j oj hj hoj x hx hb
      rw [hS'] at hj ⊢
      split
      · rfl
      · by_cases hje : j = e.i
        · subst hje
          rw [ho] at hoj
          cases hoj
          exact hall x hx hb
        · rw [if_neg hje] at hj
          exact hdn j oj hj hoj x hx hb
    · intro t
      by_cases hdt : e.o.dst = some t
      · simp only [hdt, putT_lookup_eq]
        rw [hsp, foldT_append]
        simp only [foldT]
        rw [if_pos hSe']
        rw [foldT_none post _ fun y hy hyd => by
          have hne : y.i ≠ e.i := fun h => nd2 y hy h.symm
          show (listed.setIfInBounds e.i true).getD y.i false = false
          rw [hS', if_neg hne]
          cases hSy : S y.i
          · rfl
          · have hb := hsucc y (mpost y hy) hSy
            rcases ap2 y hy with h | h
            · rw [hb] at h; cases h
            · exact absurd hyd (apart_2 h hdt)]
        rw [hdt, putT_lookup_eq]
      · simp only
        rw [putT_lookup_ne hdt, hI.tm t]
        refine foldT_lookup evs _ _ (fun x hx hxd => ?_) rfl
        show S x.i = (listed.setIfInBounds e.i true).getD x.i false
        rw [hS']
        have hne : x.i ≠ e.i := by
          intro hc
          have h1 := hd.get x hx
          rw [hc, ho] at h1
          have : x.o = e.o := (Option.some.inj h1).symm
          rw [this] at hxd
          exact hdt hxd
        rw [if_neg hne]
  cases hl : e.ld with
  | true =>
    have hpre : foldH S (st0.hp, st0.nx) pre = (e.st.hp, e.st.nx) := by
      rw [hhp]
      exact foldH_congr pre _ fun x hx hxl => hpred _ (ld1 x hx hxl hl)
    have hpost0 : ∀ y ∈ post, y.ld = true → S y.i = false := by
      intro y hy hyl
      cases hSy : S y.i
      · rfl
      · have := hsucc y (mpost y hy) hSy
        rw [ld2 y hy hl hyl] at this
        cases this
    have hcur : (st.hp, st.nx) = (e.st.hp, e.st.nx) := by
      rw [hpI, hpre, foldH_none post _ hpost0]
    obtain ⟨c1, c2⟩ := Prod.mk.inj hcur
    refine key e.hp e.nx (hEv.1.move T hnt' (.inl ⟨c1, c2, rfl, rfl⟩)) ?_
    rw [hsp, foldH_append]
    simp only [foldH, hl, Bool.and_true]
    rw [if_pos hSe']
    rw [foldH_none post _ fun y hy hyl => by
      rw [hS', if_neg fun h => nd2 y hy h.symm]
      exact hpost0 y hy hyl]
  | false =>
    obtain ⟨q1, q2⟩ := hq hl
    refine key st.hp st.nx (hEv.1.move T hnt' (.inr ⟨hl, hEv.2 hl, q1, q2, rfl, rfl, fun id hid => ?_⟩)) ?_
    · have hpre : foldH S (st0.hp, st0.nx) pre = (e.st.hp, e.st.nx) := by
        rw [hhp]
        refine foldH_congr pre _ fun x hx hxl => hpred _ ((pw reads).1 x hx hxl (by rw [hid]; rfl))
      have h1 : st.hp = (foldH S (e.st.hp, e.st.nx) post).1 := by
        rw [← hpre, ← hpI]
      rw [h1]
      have hn : ((nextSt e).hp, (nextSt e).nx) = (e.st.hp, e.st.nx) := by simp [nextSt, q1, q2]
      rw [← hn]
      rw [show e.st.hp = (nextSt e).hp from (Prod.mk.inj hn).1.symm]
      refine foldH_stable hpost (fun y hy hyl hSy => ?_) ?_
      · rcases (pw stab).2 y hy hyl with h | h
        · have := hsucc y (mpost y hy) hSy
          rw [h] at this
          cases this
        · exact h id hid
      · have hpp : post.Pairwise (fun x y => x.ld = true → y.ld = true → Bf m x.i y.i = true) := by
          have h := hd.louds
          rw [hsp] at h
          exact (List.pairwise_cons.1 (List.pairwise_append.1 h).2.1).2
        refine hpp.imp_of_mem fun {x y} hx hy h hxl hyl hSy => ?_
        exact down hd hdn y.i y.o (hd.get y (mpost y hy)) (hdn _ _ hSy (hd.get y (mpost y hy))) x.i (h hxl hyl)
    · rw [hI.hp]
      refine foldH_congr evs _ fun x hx hxl => ?_
      show S x.i = _
      rw [hS']
      have hne : x.i ≠ e.i := by
        intro hc
        have hxe : x = e ∨ x ∈ pre ∨ x ∈ post := by
          rw [hsp] at hx
          rcases List.mem_append.1 hx with h | h
          · exact .inr (.inl h)
          · rcases List.mem_cons.1 h with h | h
            · exact .inl h
            · exact .inr (.inr h)
        rcases hxe with h | h | h
        · rw [h, hl] at hxl; cases hxl
        · exact nd1 x h hc
        · exact nd2 x h hc.symm
      rw [if_neg hne]
theorem DOk_of2 {ul : List Nat} {m : List Nat} {L : List (Nat × Oper × Bool)} {evs : List Ev} (h1 : pairB (dPair m ops ul) L = true) (h3 : ((List.range ops.size).all (fun i => L.any (·.1 == i))) = true) (h4 : ((List.range ops.size).all fun q => match ops[q]? with | some o => m.getD q 0 == orE m o.after.toList && o.after.toList.all (fun e => !Region.binds .any e || e.on < q) | none => true) = true) (hg : ∀ x ∈ L, ops[x.1]? = some x.2.1) (hm : evs.map (fun e => (e.i, e.o, e.ld)) = L) :
    DOk ops m evs ∧ evs.Pairwise (fun x y => x.ld = true → isRd y.o = true → Bf m x.i y.i = true) ∧
      evs.Pairwise (fun x y => y.ld = true → isRd x.o = true → Bf m x.i y.i = true ∨ ul.contains x.i = true) := by
  have hp := pairB_spec h1
  rw [← hm, List.pairwise_map] at hp
  have hp' : evs.Pairwise (fun x y => x.i ≠ y.i ∧ Bf m y.i x.i = false ∧ (Bf m x.i y.i = true ∨ (x.o.apart ops y.o = true ∧ ¬(x.ld = true ∧ y.ld = true) ∧ ¬(x.ld = true ∧ isRd y.o = true) ∧ (¬(y.ld = true ∧ isRd x.o = true) ∨ ul.contains x.i = true)))) := by
    refine hp.imp fun {x y} h => ?_
    simp only [dPair, Bool.and_eq_true, bne_iff_ne, ne_eq, Bool.not_eq_true', Bool.or_eq_true] at h
    obtain ⟨⟨a1, a2⟩, a3⟩ := h
    refine ⟨a1, a2, ?_⟩
    rcases a3 with a3 | ⟨⟨⟨a3, a4⟩, a5⟩, a6⟩
    · exact .inl a3
    · refine .inr ⟨a3, fun ⟨u, v⟩ => by simp [u, v] at a4, fun ⟨u, v⟩ => by simp [u, v] at a5, ?_⟩
      rcases a6 with a6 | a6
      · exact .inl fun ⟨u, v⟩ => by simp [u, v] at a6
      · exact .inr a6
  have mem : ∀ e ∈ evs, (e.i, e.o, e.ld) ∈ L := fun e he => by rw [← hm]; exact List.mem_map_of_mem (f := fun e : Ev => (e.i, e.o, e.ld)) he
  refine ⟨⟨fun e he => hg _ (mem e he), fun i hi => ?_, hp'.imp fun h => h.1, hp'.imp fun h => h.2.1, hp'.imp fun h => h.2.2.imp id fun h => h.1, hp'.imp fun h => ?_, fun q o ho => ?_, fun q o ho e he hb => ?_⟩, hp'.imp fun h hx hy => ?_, hp'.imp fun h hy hx => ?_⟩
  · have := List.all_eq_true.1 h3 i (List.mem_range.2 hi)
    obtain ⟨x, hx, hxi⟩ := List.any_eq_true.1 this
    rw [← hm] at hx
    obtain ⟨e, he, rfl⟩ := List.mem_map.1 hx
    exact ⟨e, he, by simpa using hxi⟩
  · intro hx hy
    rcases h.2.2 with h | h
    · exact h
    · exact absurd ⟨hx, hy⟩ h.2.1
  · have hq : q < ops.size := (Array.getElem?_eq_some_iff.1 ho).1
    have := List.all_eq_true.1 h4 q (List.mem_range.2 hq)
    rw [ho] at this
    simp only [Bool.and_eq_true, beq_iff_eq] at this
    exact this.1
  · have hq : q < ops.size := (Array.getElem?_eq_some_iff.1 ho).1
    have := List.all_eq_true.1 h4 q (List.mem_range.2 hq)
    rw [ho] at this
    simp only [Bool.and_eq_true, List.all_eq_true] at this
    have := this.2 e (by simpa using he)
    simpa [hb] using this
  · rcases h.2.2 with h | h
    · exact h
    · exact absurd ⟨hx, hy⟩ h.2.2.1
  · rcases h.2.2 with h | h
    · exact .inl h
    · rcases h.2.2.2 with h | h
      · exact absurd ⟨hy, hx⟩ h
      · exact .inr h
theorem ready_ne (hd : DOk ops m evs) {listed : Array Bool} (hsz : listed.size = ops.size) (hf : (evs.filter fun e => !listed.getD e.i false).length ≠ 0) : Region.ready .any ops listed ≠ [] := by
  intro h0
  have hex : ∃ pre e post, evs = pre ++ e :: post ∧ listed.getD e.i false = false ∧ ∀ x ∈ pre, listed.getD x.i false = true := by
    have : ∀ (l : List Ev), (l.filter fun e => !listed.getD e.i false).length ≠ 0 → ∃ pre e post, l = pre ++ e :: post ∧ listed.getD e.i false = false ∧ ∀ x ∈ pre, listed.getD x.i false = true := by
      intro l
      induction l with
      | nil => intro h; simp at h
      | cons x l ihl =>
        intro h
        cases hx : listed.getD x.i false
        · exact ⟨[], x, l, rfl, hx, fun _ h => by simp at h⟩
        · obtain ⟨pre, e, post, h1, h2, h3⟩ := ihl (by rw [List.filter_cons_of_neg (by rw [hx]; decide)] at h; exact h)
          refine ⟨x :: pre, e, post, by rw [h1]; rfl, h2, fun y hy => ?_⟩
          rcases List.mem_cons.1 hy with rfl | hy
          · exact hx
          · exact h3 y hy
    exact this evs hf
  obtain ⟨pre, e, post, hsp, hun, hpre⟩ := hex
  have he : e ∈ evs := by rw [hsp]; simp
  have hlt : e.i < ops.size := (Array.getElem?_eq_some_iff.1 (hd.get e he)).1
  have hmem : e.i ∈ Region.ready .any ops listed := by
    refine mem_ready.2 ⟨by rw [getD_lt (by rw [hsz]; exact hlt) true false]; exact hun, e.o, hd.get e he, fun x hx hb => ?_⟩
    have hback := hd.back _ _ (hd.get e he) x hx hb
    obtain ⟨y, hy, hyi⟩ := hd.full x.on (by omega)
    have hbit : Bf m y.i e.i = true := by
      unfold Bf
      rw [hd.bef _ _ (hd.get e he), hyi]
      exact orE_edge hb (by simpa using hx)
    have hext := hd.ext
    rw [hsp] at hext hy
    rcases List.mem_append.1 hy with h | h
    · rw [← hyi]; exact hpre y h
    · rcases List.mem_cons.1 h with h | h
      · subst h; omega
      · have := (List.pairwise_cons.1 (List.pairwise_append.1 hext).2.1).1 y h
        rw [hbit] at this
        cases this
  rw [h0] at hmem
  cases hmem
theorem count_set (hd : DOk ops m evs) {listed : Array Bool} (hsz : listed.size = ops.size) {i : Nat} (hi : i ∈ Region.ready .any ops listed) :
    (evs.filter fun x => !(listed.setIfInBounds i true).getD x.i false).length + 1 = (evs.filter fun x => !listed.getD x.i false).length := by
  obtain ⟨hun, o, ho, _⟩ := mem_ready.1 hi
  have hlt : i < ops.size := (Array.getElem?_eq_some_iff.1 ho).1
  have hlt' : i < listed.size := by rw [hsz]; exact hlt
  obtain ⟨e, he, rfl⟩ := hd.full i hlt
  have hun' : listed.getD e.i false = false := by rw [getD_lt hlt' false true]; exact hun
  have cnt : ∀ (l : List Ev), l.Pairwise (fun x y => x.i ≠ y.i) →
      (e ∈ l → (l.filter fun x => !(listed.setIfInBounds e.i true).getD x.i false).length + 1 = (l.filter fun x => !listed.getD x.i false).length) ∧
      ((∀ x ∈ l, x.i ≠ e.i) → (l.filter fun x => !(listed.setIfInBounds e.i true).getD x.i false).length = (l.filter fun x => !listed.getD x.i false).length) := by
    intro l
    induction l with
    | nil => intro _; simp
    | cons x l ihl =>
      intro hp
      obtain ⟨hp1, hp2⟩ := List.pairwise_cons.1 hp
      obtain ⟨i2, i3⟩ := ihl hp2
      refine ⟨fun h => ?_, fun h => ?_⟩
      · by_cases hx : x.i = e.i
        · have := i3 fun y hy hc => hp1 y hy (by rw [hx, hc])
          rw [List.filter_cons, List.filter_cons, getD_set hlt', if_pos hx, hx, hun']
          simp only [Bool.not_true, Bool.false_eq_true, if_false, Bool.not_false, if_true, List.length_cons]
          rw [this]
        · have hmem : e ∈ l := by
            rcases List.mem_cons.1 h with h | h
            · subst h; exact absurd rfl hx
            · exact h
          have := i2 hmem
          rw [List.filter_cons, List.filter_cons, getD_set hlt', if_neg hx]
          split
          · simp only [List.length_cons]; omega
          · exact this
      · have hx : x.i ≠ e.i := h x List.mem_cons_self
        have := i3 fun y hy => h y (List.mem_cons_of_mem _ hy)
        rw [List.filter_cons, List.filter_cons, getD_set hlt', if_neg hx]
        split
        · simp only [List.length_cons]; omega
        · exact this
  exact (cnt evs hd.nodup).1 he
theorem put_ne {a : Act} {dst : Option Tmp} {v : Value} {ta : Nat} (h : dst ≠ some ta) : (a.put dst v).tmps.getD ta undef = a.tmps.getD ta undef := by
  cases dst with
  | none => rfl
  | some d =>
    have hne : d ≠ ta := fun hc => h (by rw [hc])
    show (a.tmps.setIfInBounds d v).getD ta undef = _
    simp [Array.getD_eq_getD_getElem?, hne]
theorem put_eq {a : Act} {v : Value} {ta : Nat} (h : ta < a.tmps.size) : (a.put (some ta) v).tmps.getD ta undef = v := by
  show (a.tmps.setIfInBounds ta v).getD ta undef = _
  simp [Array.getD_eq_getD_getElem?, h]
theorem Inv.box {own0 : Nat → Prop} {w0 : World} {listed : Array Bool} {pl : Nat → Option Pl} {st : St} {a : Act} {w : World} (hd : DOk ops m evs) (hI : Inv G O M pb ops evs st0 own0 w0 listed pl st a w) {i : Nat} {o : Oper} {t : TypeId} {ta : Nat} {cs : List SV}
    (hi : i ∈ Region.ready .any ops listed) (ho : ops[i]? = some o) (hg : o.guard = none) (hop : o.op = .alloc t) (hdst : o.dst = some ta) (hta : ta < st0.nt) (hz : tzero P t = some cs)
    (hev : ∀ e ∈ evs, e.i = i → e.ld = false ∧ e.r = .unk) {K : Act → World → Prop}
    (hK : ∀ B c e st' a' w', Inv G (oUp O B) M pb ops evs st0 own0 w0 (listed.setIfInBounds i true) pl st' a' w' → ¬ O B → w0.heap.size ≤ B → w'.heap[B]? = some (.cells c e) → c.size = cs.length →
      (∀ pl' ok' w' i (hi : i < cs.length), SR pl' ok' w' cs[i] (c.getD i undef)) → a'.tmps.getD ta undef = .pointer (some ⟨B, 0, none⟩) → K a' w') : wpOpIn (Fw ro) 0 P ops Q i K a w := by
  obtain ⟨ii, z, hi', hz', rfl⟩ := tzero_some hz
  have hrun : (Instr.alloc t true (.tuple #[])).run P w = .ok (.pointer (some ⟨w.heap.size, 0, none⟩)) (w.alloc (.cells z.cells t)) := by simp [Instr.alloc, zeroValue, run_typeInfo w hi', hz', newVar, newRow]
  unfold wpOpIn
  simp only [ho]
  rw [if_pos (by simp [Region.wanted, hg])]
  refine RunOp.wpIn (K := fun u w' => u = .pointer (some ⟨w.heap.size, 0, none⟩) ∧ w' = w.alloc (.cells z.cells t)) (fun c hc => by rw [hop] at hc; cases hc) (RunOp.value (v := .pointer (some ⟨w.heap.size, 0, none⟩)) (by simp [execOp, hop, hrun]) ⟨rfl, rfl⟩) ?_
  rintro v w' ⟨rfl, rfl⟩
  obtain ⟨h1, h2⟩ := hI.r.hs.boxO z.cells t
  have hOB : ¬ O w.heap.size := fun h => by have := hI.r.hs.old _ (.inl h); omega
  have hst : Step (ownOf pl st.hp) (ownOf pl st.hp) w (w.alloc (.cells z.cells t)) := (Add.alloc w _).step
  obtain ⟨hun, o', ho', hall⟩ := mem_ready.1 hi
  rw [ho] at ho'
  cases ho'
  have hlt : i < ops.size := (Array.getElem?_eq_some_iff.1 ho).1
  have hlt' : i < listed.size := by rw [hI.sz]; exact hlt
  obtain ⟨e, he, hei⟩ := hd.full i hlt
  obtain ⟨hld, hr⟩ := hev e he hei
  have heo : e.o = o := by
    have := hd.get e he
    rw [hei, ho] at this
    exact (Option.some.inj this).symm
  subst hei heo
  obtain ⟨pre, post, hsp⟩ := split_at he
  let S : Nat → Bool := fun j => listed.getD j false
  have hSe : S e.i = false := by
    show listed.getD e.i false = false
    rw [getD_lt hlt' false true]; exact hun
  have hdn : ∀ i o, S i = true → ops[i]? = some o → ∀ x ∈ o.after, Region.binds .any x = true → S x.on = true := hI.dn
  have hsucc : ∀ y ∈ evs, S y.i = true → Bf m e.i y.i = false := by
    intro y hy hSy
    cases hb : Bf m e.i y.i
    · rfl
    · have := down hd hdn y.i y.o (hd.get y hy) (hdn _ _ hSy (hd.get y hy)) e.i hb
      rw [hSe] at this
      cases this
  have pw : ∀ {Rl : Ev → Ev → Prop}, evs.Pairwise Rl → (∀ x ∈ pre, Rl x e) ∧ (∀ y ∈ post, Rl e y) := by
    intro Rl h
    rw [hsp] at h
    obtain ⟨h1, h2, h3⟩ := List.pairwise_append.1 h
    exact ⟨fun x hx => h3 x hx e List.mem_cons_self, fun y hy => (List.pairwise_cons.1 h2).1 y hy⟩
  have mpost : ∀ y ∈ post, y ∈ evs := fun y hy => by rw [hsp]; exact List.mem_append_right _ (List.mem_cons_of_mem _ hy)
  obtain ⟨ap1, ap2⟩ := pw hd.apart
  obtain ⟨nd1, nd2⟩ := pw hd.nodup
  have hS' : ∀ j, (listed.setIfInBounds e.i true).getD j false = (if j = e.i then true else S j) := fun j => getD_set hlt'
  have hSe' : (listed.setIfInBounds e.i true).getD e.i false = true := by rw [hS', if_pos rfl]
  have hnt : ta < a.tmps.size := by rw [hI.r.nt, hI.nt]; exact hta
  refine hK w.heap.size z.cells t ⟨putT e.o.dst e.r st.tm, st.hp, st.nx, st.nt, st.df, st.nb⟩ _ _ ?_ hOB hI.step.size (heap_alloc_new _ _) (by simp) (fun pl' ok' w' i hi => zeroCells_rel z i hi) (by rw [hdst]; exact put_eq hnt)
  refine ⟨by simp [hI.sz], ?_, ?_, hI.step.trans hst, ?_, ?_, hI.nt, hI.df, hI.nb⟩
  · intro j oj hj hoj x hx hb
    rw [hS'] at hj ⊢
    split
    · rfl
    · by_cases hje : j = e.i
      · subst hje
        rw [ho] at hoj
        cases hoj
        exact hall x hx hb
      · rw [if_neg hje] at hj
        exact hdn j oj hj hoj x hx hb
  · rw [hdst, hr]
    refine ⟨by rw [Ox_put, Ox_oUp]; exact h1, fun u s hl => ?_, ?_, hI.r.dfStep hst, hI.r.bd⟩
    · rw [Ox_put, Ox_oUp]
      have hl : ((ta, SV.unk) :: st.tm).lookup u = some s := hl
      simp only [List.lookup_cons] at hl
      split at hl
      · cases hl; exact .unk _
      · rename_i hne
        have hne : u ≠ ta := by simpa using hne
        rw [put_ne (fun hc => hne (by cases hc; rfl))]
        exact (hI.r.tm u s hl).ext h2 (fun _ _ h => h)
    · show (a.tmps.setIfInBounds ta _).size = _
      rw [Array.size_setIfInBounds]; exact hI.r.nt
  · intro t
    by_cases hdt : e.o.dst = some t
    · simp only [hdt, putT_lookup_eq]
      rw [hsp, foldT_append]
      simp only [foldT]
      rw [if_pos hSe']
      rw [foldT_none post _ fun y hy hyd => by
        have hne : y.i ≠ e.i := fun h => nd2 y hy h.symm
        show (listed.setIfInBounds e.i true).getD y.i false = false
        rw [hS', if_neg hne]
        cases hSy : S y.i
        · rfl
        · have hb := hsucc y (mpost y hy) hSy
          rcases ap2 y hy with h | h
          · rw [hb] at h; cases h
          · exact absurd hyd (apart_2 h hdt)]
      rw [hdt, putT_lookup_eq]
    · simp only
      rw [putT_lookup_ne hdt, hI.tm t]
      refine foldT_lookup evs _ _ (fun x hx hxd => ?_) rfl
      show S x.i = (listed.setIfInBounds e.i true).getD x.i false
      rw [hS']
      have hne : x.i ≠ e.i := by
        intro hc
        have h1 := hd.get x hx
        rw [hc, ho] at h1
        have : x.o = e.o := (Option.some.inj h1).symm
        rw [this] at hxd
        exact hdt hxd
      rw [if_neg hne]
  · simp only
    rw [hI.hp]
    refine foldH_congr evs _ fun x hx hxl => ?_
    show S x.i = _
    rw [hS']
    have hne : x.i ≠ e.i := by
      intro hc
      have hxe : x = e ∨ x ∈ pre ∨ x ∈ post := by
        rw [hsp] at hx
        rcases List.mem_append.1 hx with h | h
        · exact .inr (.inl h)
        · rcases List.mem_cons.1 h with h | h
          · exact .inl h
          · exact .inr (.inr h)
      rcases hxe with h | h | h
      · rw [h, hld] at hxl; cases hxl
      · exact nd1 x h hc
      · exact nd2 x h hc.symm
    rw [if_neg hne]
theorem box_sim {own0 : Nat → Prop} {w0 : World} {ev1 : List Ev} {es : Ev} {st1 : St} {ia ta : Nat} {oa : Oper} {t : TypeId} {cs : List SV} {r : SV} {hp' : HpT} {nx' : Nat} {tmA : List (Nat × SV)} (hd : DOk ops m (ev1 ++ [es])) (hrun : RunL st0 ev1 st1)
    (hes : es.st = st1 ∧ es.ld = false ∧ es.hp = st1.hp ∧ es.nx = st1.nx) (hev : ∀ e ∈ ev1, e.i ≠ ia → EvOk P G ops e) (hea : ∀ e ∈ ev1 ++ [es], e.i = ia → e.ld = false ∧ e.r = .unk)
    (ho : ops[ia]? = some oa) (hg : oa.guard = none) (hop : oa.op = .alloc t) (hdst : oa.dst = some ta) (hta : ta < st0.nt) (hz : tzero P t = some cs) (hcs : cs.length ≠ 0) (hne : es.i ≠ ia)
    (hlast : ∀ e ∈ ev1, Bf m e.i es.i = true) (hap : ∀ e ∈ ev1, e.i ≠ ia → Bf m e.i ia = true ∨ e.o.dst ≠ some ta)
    (stab : (ev1 ++ [es]).Pairwise (fun x y => y.ld = true → Bf m x.i y.i = true ∨ ∀ id, rdEv G x.o x.st = some id → y.hp.lookup id = y.st.hp.lookup id))
    (reads : (ev1 ++ [es]).Pairwise (fun x y => x.ld = true → (rdEv G y.o y.st).isSome = true → Bf m x.i y.i = true))
    (htmA : ∀ t, tmA.lookup t = ((ta, SV.ptr st1.nx 0 0) :: st1.tm).lookup t)
    (hstore : EvAt P G ops true es.o ⟨tmA, (st1.nx, .arr cs.length [cs]) :: st1.hp, st1.nx + 1, st1.nt, st1.df, st1.nb⟩ r hp' nx')
    (hQ : ∀ pl a w, R G O M pb pl ⟨putT es.o.dst r tmA, hp', nx', st1.nt, st1.df, st1.nb⟩ a w → Step own0 (ownOf pl hp') w0 w → Q .normal a w) :
    ∀ (fuel : Nat) (listed : Array Bool) (a : Act) (w : World), ((ev1 ++ [es]).filter fun e => !listed.getD e.i false).length = fuel → listed.getD es.i false = false →
      ((listed.getD ia false = false ∧ ∃ pl st, Inv G O M pb ops (ev1 ++ [es]) st0 own0 w0 listed pl st a w) ∨
       (listed.getD ia false = true ∧ ∃ B c e pl st, Inv G (oUp O B) M pb ops (ev1 ++ [es]) st0 own0 w0 listed pl st a w ∧ ¬ O B ∧ w0.heap.size ≤ B ∧ w.heap[B]? = some (.cells c e) ∧ c.size = cs.length ∧
          (∀ pl' ok' w' i (hi : i < cs.length), SR pl' ok' w' cs[i] (c.getD i undef)) ∧ a.tmps.getD ta undef = .pointer (some ⟨B, 0, none⟩))) → wpAnyIn (Fw ro) 0 P .any ops Q fuel listed a w := by
  have hrun2 : RunL st0 (ev1 ++ [es]) (nextSt es) := RunL_append hrun ⟨hes.1, fun _ => ⟨hes.2.2.1, hes.2.2.2⟩, rfl⟩
  have hmem : es ∈ ev1 ++ [es] := List.mem_append_right _ List.mem_cons_self
  have hesi : ops[es.i]? = some es.o := hd.get es hmem
  have hlt : es.i < ops.size := (Array.getElem?_eq_some_iff.1 hesi).1
  intro fuel
  induction fuel with
  | zero =>
    intro listed a w hf hl _
    have := List.filter_eq_nil_iff.1 (List.length_eq_zero_iff.1 hf) es hmem
    rw [hl] at this
    exact absurd rfl this
  | succ fuel ih =>
    intro listed a w hf hl hA
    have hsz : listed.size = ops.size := by
      rcases hA with ⟨_, pl, st, h⟩ | ⟨_, B, c, e, pl, st, h, _⟩
      · exact h.sz
      · exact h.sz
    have hdn : ∀ i o, listed.getD i false = true → ops[i]? = some o → ∀ e ∈ o.after, Region.binds .any e = true → listed.getD e.on false = true := by
      rcases hA with ⟨_, pl, st, h⟩ | ⟨_, B, c, e, pl, st, h, _⟩
      · exact h.dn
      · exact h.dn
    refine ⟨fun h => absurd h (ready_ne hd hsz (by omega)), fun i hi => ?_⟩
    have hcount := count_set hd hsz hi
    obtain ⟨hun, o, hoi, hall⟩ := mem_ready.1 hi
    have hilt : i < ops.size := (Array.getElem?_eq_some_iff.1 hoi).1
    have hun' : listed.getD i false = false := by rw [getD_lt (by rw [hsz]; exact hilt) false true]; exact hun
    have hset : ∀ j, j ≠ i → (listed.setIfInBounds i true).getD j false = listed.getD j false := fun j hj => by rw [getD_set (by rw [hsz]; exact hilt), if_neg hj]
    by_cases hie : i = es.i
    · subst hie
      rw [hesi] at hoi
      cases hoi
      have hS : ∀ e ∈ ev1, listed.getD e.i false = true := fun e he => down hd hdn es.i es.o hesi hall e.i (hlast e he)
      have hia : listed.getD ia false = true := by
        obtain ⟨e, he, hei⟩ := hd.full ia (Array.getElem?_eq_some_iff.1 ho).1
        rcases List.mem_append.1 he with he | he
        · rw [← hei]; exact hS e he
        · rw [List.mem_singleton] at he
          subst he
          exact absurd hei hne
      rcases hA with ⟨h, _⟩ | ⟨_, B, c, e, pl, st, hI, hOB, hB, hw, hc1, hc2, hta2⟩
      · rw [hia] at h; cases h
      obtain ⟨s, h1, h2, h3, h4, h5, h6⟩ := RunL.split (pre := ev1) (post := []) (by simpa using hrun)
      have hs1 : st1 = s := h1
      subst hs1
      have e1 : (st.hp, st.nx) = (st1.hp, st1.nx) := by
        rw [hI.hp, h3, foldH_append]
        simp only [foldH, hl, Bool.false_and, Bool.false_eq_true, if_false]
        exact foldH_congr ev1 _ fun e he _ => hS e he
      obtain ⟨c1, c2⟩ := Prod.mk.inj e1
      have hR1 : R G (oUp O B) M pb pl st1 a w := hI.r.look (fun t => by
        rw [hI.tm t, h2, foldT_append]
        simp only [foldT, hl, Bool.false_eq_true, if_false]
        exact (foldT_lookup ev1 _ _ (fun e he _ => (hS e he).symm) rfl)) c1.symm c2.symm (by rw [h4, hI.nt]) (by rw [h5, hI.df]) (by rw [h6, hI.nb])
      have hR2 := (hR1.adopt hOB hw hc1 hcs hc2 hta2).look (st' := ⟨tmA, (st1.nx, .arr cs.length [cs]) :: st1.hp, st1.nx + 1, st1.nt, st1.df, st1.nb⟩) htmA rfl rfl rfl rfl rfl
      have hst1 : Step own0 (ownOf pl st1.hp) w0 w := by rw [← c1]; exact hI.step
      have hst2 : Step own0 (ownOf (plUp pl st1.nx ⟨B, cs.length, c.size⟩) ((st1.nx, .arr cs.length [cs]) :: st1.hp)) w0 w := ⟨hst1.size, hst1.keep, hst1.os, hst1.out, fun x hx => by
        rcases hR1.hs.own_new _ _ _ hx with h | ⟨_, rfl⟩
        · exact hst1.own x h
        · exact .inr hB⟩
      refine hstore.sound hesi hR2 fun pl' a' w' hR' hst' => ?_
      have hall' : ∀ e ∈ ev1 ++ [es], (listed.setIfInBounds es.i true).getD e.i false = true := fun e he => by
        by_cases hee : e.i = es.i
        · rw [hee, getD_set (by rw [hsz]; exact hlt), if_pos rfl]
        · rw [hset _ hee]
          rcases List.mem_append.1 he with he | he
          · exact hS e he
          · rw [List.mem_singleton] at he
            exact absurd (by rw [he]) hee
      have hnil : ((ev1 ++ [es]).filter fun x => !(listed.setIfInBounds es.i true).getD x.i false) = [] := List.filter_eq_nil_iff.2 fun e he => by rw [hall' e he]; decide
      rw [hnil] at hcount
      have hf0 : fuel = 0 := by
        have : ([] : List Ev).length = 0 := rfl
        omega
      subst hf0
      refine ⟨?_, hQ pl' a' w' hR' (hst2.trans hst')⟩
      refine List.eq_nil_iff_forall_not_mem.2 fun i hi => ?_
      obtain ⟨hun, o, ho, _⟩ := mem_ready.1 hi
      have hlt2 : i < ops.size := (Array.getElem?_eq_some_iff.1 ho).1
      obtain ⟨e, he, rfl⟩ := hd.full i hlt2
      have := hall' e he
      rw [getD_lt (by simp [hsz]; exact hlt2) false true, hun] at this
      cases this
    · have hle : (listed.setIfInBounds i true).getD es.i false = false := by rw [hset _ (Ne.symm hie)]; exact hl
      have hfu : ((ev1 ++ [es]).filter fun x => !(listed.setIfInBounds i true).getD x.i false).length = fuel := by omega
      by_cases hia : i = ia
      · subst hia
        rcases hA with ⟨_, pl, st, hI⟩ | ⟨h, _⟩
        · refine Inv.box hd hI hi ho hg hop hdst hta hz hea fun B c e st' a' w' hI' hOB hB hw hc1 hc2 ht => ih _ a' w' hfu hle (.inr ⟨?_, B, c, e, pl, st', hI', hOB, hB, hw, hc1, hc2, ht⟩)
          rw [getD_set (by rw [hsz]; exact hilt), if_pos rfl]
        · rw [hun'] at h; cases h
      · have hevi : ∀ e ∈ ev1 ++ [es], e.i = i → EvOk P G ops e := fun e he hei => by
          rcases List.mem_append.1 he with he | he
          · exact hev e he (by rw [hei]; exact hia)
          · rw [List.mem_singleton] at he
            subst he
            exact absurd hei.symm hie
        rcases hA with ⟨h, pl, st, hI⟩ | ⟨h, B, c, e, pl, st, hI, hOB, hB, hw, hc1, hc2, ht⟩
        · refine Inv.next2 hd hrun2 stab reads hI hi hevi fun pl' st' v o w' _ hI' _ => ih _ _ w' hfu hle (.inl ⟨?_, pl', st', hI'⟩)
          rw [hset _ (Ne.symm hia)]; exact h
        · refine Inv.next2 hd hrun2 stab reads hI hi hevi fun pl' st' v o' w' ho' hI' hst => ih _ _ w' hfu hle (.inr ⟨?_, B, c, e, pl', st', hI', hOB, hB, ?_, hc1, hc2, ?_⟩)
          · rw [hset _ (Ne.symm hia)]; exact h
          · rw [hst.keep B (hI.r.hs.old B (.inl (.inr rfl))) ?_]
            · exact hw
            · rintro ⟨p, h1, q, h2, h3, h4⟩
              obtain ⟨q', g1, g2, _⟩ := hI.r.hs.obj p h1
              rw [h2] at g1
              cases g1
              exact (g2 h3).2 (.inl (.inr h4))
          · rw [put_ne ?_]
            · exact ht
            · obtain ⟨x, hx, hxi⟩ := hd.full i hilt
              have hxo : x.o = o' := by
                have := hd.get x hx
                rw [hxi, ho'] at this
                exact (Option.some.inj this).symm
              rcases List.mem_append.1 hx with hx | hx
              · rcases hap x hx (by rw [hxi]; exact hia) with hb | hb
                · have := down hd hdn ia oa ho (hdn ia oa h ho) x.i hb
                  rw [hxi, hun'] at this
                  cases this
                · rw [← hxo]; exact hb
              · rw [List.mem_singleton] at hx
                subst hx
                exact absurd hxi.symm hie
end
section
variable {P : Program} {G : Nat → Option (List D)} {ro : Option Nat} {ops : Array Oper} {ul louds : List Nat}
def isBox (o : Oper) : Bool := match o.op with | .alloc _ => o.guard.isNone && o.dst.isSome | _ => false
theorem isBox_spec {o : Oper} (h : isBox o = true) : ∃ t ta, o.op = .alloc t ∧ o.guard = none ∧ o.dst = some ta := by
  unfold isBox at h
  split at h
  · rename_i t ho
    rw [Bool.and_eq_true] at h
    obtain ⟨ta, h2⟩ := Option.isSome_iff_exists.1 h.2
    exact ⟨t, ta, ho, Option.isNone_iff_eq_none.1 h.1, h2⟩
  · cases h
def dChkA (m : List Nat) (ops : Array Oper) (ul louds is1 : List Nat) (ia ix : Nat) : Bool := match ops.toList[ia]?, ops.toList[ix]? with
  | some oa, some ox => isBox oa && ia != ix && louds.contains ia && louds.contains ix && ((mkL louds ops.toList is1).length + 2 == ops.size) &&
    pairB (dPair m ops ul) (mkL louds ops.toList is1 ++ [(ia, oa, false), (ix, ox, false)]) && (mkL louds ops.toList is1).all (fun x => x.2.2 || quietKind x.2.1) &&
    (List.range ops.size).all (fun i => (mkL louds ops.toList is1 ++ [(ia, oa, false), (ix, ox, false)]).any (·.1 == i)) &&
    ((List.range ops.size).all fun q => match ops[q]? with | some o => m.getD q 0 == orE m o.after.toList && o.after.toList.all (fun e => !Region.binds .any e || e.on < q) | none => true) &&
    (mkL louds ops.toList is1 ++ [(ia, oa, false)]).all (fun x => Bf m x.1 ix) && (mkL louds ops.toList is1).all (fun x => x.1 != ia && x.2.1.dst != oa.dst)
  | _, _ => false
theorem two_of {α : Type} : ∀ {l : List α}, l.length = 2 → ∃ x y, l = [x, y]
  | [x, y], _ => ⟨x, y, rfl⟩
  | [], h => by cases h
  | [_], h => by simp at h
  | _ :: _ :: _ :: l, h => by simp at h
theorem Tr.drawA {id : Nat} {is1 : List Nat} {ia ix : Nat} {st : St} {Q : Exit → St → Prop} (hmix : P.follows .mixedOrders = true) (hc : dChkA (Region.before ops).toList ops ul louds is1 ia ix = true)
    (h : exY P G ops ul louds is1 st [] fun s1 => exY P G ops ul louds [ia, ix] s1 [] (Q .normal)) : Tr P G ro (.region id ops true) st Q := by
  unfold dChkA at hc
  split at hc
  · rename_i oa ox hoa hox
    simp only [Bool.and_eq_true] at hc
    obtain ⟨⟨⟨⟨⟨⟨⟨⟨⟨⟨k1, k2⟩, k3⟩, k4⟩, k5⟩, k6⟩, k7⟩, k8⟩, k9⟩, k10⟩, k11⟩ := hc
    have k2 : ia ≠ ix := by simpa using k2
    obtain ⟨t, ta, hop, hg, hdst⟩ := isBox_spec k1
    intro O M pb pl a w hR
    obtain ⟨ev1, s1, a1, a2, a3, a4, a5, a6⟩ := vV _ st [] h
    have hL2 : mkL louds ops.toList [ia, ix] = [(ia, oa, true), (ix, ox, true)] := by simp only [mkL, hoa, hox, k3, k4]
    have a6' : exD P G ops ul [(ia, oa, true), (ix, ox, true)] s1 [] (Q .normal) := by rw [← hL2]; exact a6
    obtain ⟨ev2, stf, b1, b2, b3, _, _, b6⟩ := vV _ s1 [] a6'
    have hl2 : ev2.length = 2 := by
      have hl := congrArg List.length b2
      rw [List.length_map] at hl
      exact hl
    obtain ⟨xa, xs, rfl⟩ := two_of hl2
    · simp only [List.map_cons, List.map_nil, List.cons.injEq, Prod.mk.injEq, and_true] at b2
      obtain ⟨⟨p1, p2, p3⟩, p4, p5, p6⟩ := b2
      obtain ⟨c1, _, c2, _, c3⟩ := b1
      have c3 : stf = nextSt xs := c3
      have hxa := b3 xa List.mem_cons_self
      have hxs := b3 xs (List.mem_cons_of_mem _ List.mem_cons_self)
      rw [p2, p3, c1] at hxa
      rw [p5, p6, c2] at hxs
      obtain ⟨q1, q2⟩ := hxa
      rw [hg] at q2
      have q3 : zM P t s1.hp s1.nx (Det xa.r xa.hp xa.nx) := by
        have q2 : exq P G oa (ev G s1.tm) s1.hp s1.nx (Det xa.r xa.hp xa.nx) := q2
        unfold exq at q2
        rw [hop] at q2
        exact q2
      unfold zM at q3
      split at q3
      · rename_i cs hcs
        obtain ⟨hne, e1, e2, e3⟩ := q3
        rw [hdst] at q1
        obtain ⟨s', z1, z2, z3, z4, z5, z6⟩ := RunL.split (pre := ev1) (post := []) (by simpa using a1)
        have z1 : s1 = s' := z1
        subst z1
        have hta : ta < st.nt := by rw [← z4]; exact q1
        obtain ⟨ea, hea⟩ : ∃ ea : Ev, ea = ⟨ia, oa, false, s1, .unk, s1.hp, s1.nx⟩ := ⟨_, rfl⟩
        obtain ⟨es, hes⟩ : ∃ es : Ev, es = ⟨ix, ox, false, nextSt ea, .unk, s1.hp, s1.nx⟩ := ⟨_, rfl⟩
        have hL : ((ev1 ++ [ea]) ++ [es]).map (fun e => (e.i, e.o, e.ld)) = mkL louds ops.toList is1 ++ [(ia, oa, false), (ix, ox, false)] := by
          rw [List.map_append, List.map_append, a2, hea, hes]; simp
        have hgL : ∀ x ∈ mkL louds ops.toList is1 ++ [(ia, oa, false), (ix, ox, false)], ops[x.1]? = some x.2.1 := fun x hx => by
          rcases List.mem_append.1 hx with hx | hx
          · simpa using mkL_get hx
          · rcases List.mem_cons.1 hx with rfl | hx
            · simpa using hoa
            · rw [List.mem_singleton] at hx
              subst hx
              simpa using hox
        obtain ⟨d1, d3, d4⟩ := DOk_of2 (ul := ul) k6 k8 k9 hgL hL
        have mem1 : ∀ e ∈ ev1, (e.i, e.o, e.ld) ∈ mkL louds ops.toList is1 := fun e he => by rw [← a2]; exact List.mem_map_of_mem (f := fun e : Ev => (e.i, e.o, e.ld)) he
        have hrun : RunL st (ev1 ++ [ea]) (nextSt ea) := RunL_append a1 (by rw [hea]; exact ⟨rfl, fun _ => ⟨rfl, rfl⟩, rfl⟩)
        have hnx : nextSt ea = ⟨(ta, .unk) :: s1.tm, s1.hp, s1.nx, s1.nt, s1.df, s1.nb⟩ := by rw [hea]; simp only [nextSt, hdst, putT]
        have h5 : ((ev1 ++ [ea]) ++ [es]).Pairwise (fun x y => y.ld = true → isRd x.o = true → Bf (Region.before ops).toList x.i y.i = true ∨ (ul.contains x.i = true → ∀ id, rdEv G x.o x.st = some id → y.hp.lookup id = y.st.hp.lookup id)) := by
          refine List.pairwise_append.2 ⟨List.pairwise_append.2 ⟨a5.imp fun h hl _ => .inr (h hl), List.pairwise_singleton _ _, fun x _ y hy hl => ?_⟩, List.pairwise_singleton _ _, fun x _ y hy hl => ?_⟩
          · rw [List.mem_singleton] at hy
            rw [hy, hea] at hl; cases hl
          · rw [List.mem_singleton] at hy
            rw [hy, hes] at hl; cases hl
        refine wpIn_region_any hmix ?_
        have hst : Step (ownOf pl st.hp) (ownOf pl st.hp) w { w with drawn := w.drawn + 1 } := ⟨Nat.le_refl _, fun _ _ _ => rfl, rfl, rfl, fun _ h => .inl h⟩
        have hadd : Add w { w with drawn := w.drawn + 1 } := ⟨Nat.le_refl _, fun _ _ => rfl, rfl, rfl⟩
        have h0 : ∀ i, (Array.replicate ops.size false).getD i false = false := fun i => by
          by_cases hlt : i < ops.size <;> simp [hlt]
        have hsto : EvAt P G ops true es.o ⟨(ta, .ptr s1.nx 0 0) :: s1.tm, (s1.nx, .arr cs.length [cs]) :: s1.hp, s1.nx + 1, s1.nt, s1.df, s1.nb⟩ xs.r xs.hp xs.nx := by
          have e : nextSt xa = ⟨(ta, .ptr s1.nx 0 0) :: s1.tm, (s1.nx, .arr cs.length [cs]) :: s1.hp, s1.nx + 1, s1.nt, s1.df, s1.nb⟩ := by
            simp only [nextSt, p2, hdst, c1, ← e1, ← e2, ← e3, putT]
          rw [← e, hes]; exact hxs
        refine box_sim (O := O) (M := M) (pb := pb) (G := G) (tmA := (ta, .ptr s1.nx 0 0) :: s1.tm) (own0 := ownOf pl st.hp) (w0 := w) (ev1 := ev1 ++ [ea]) (es := es) (ia := ia) (t := t) (r := xs.r) (hp' := xs.hp) (nx' := xs.nx) d1 hrun
          (by rw [hes, hea]; exact ⟨rfl, rfl, rfl, rfl⟩) (fun e he hne' => ?_) (fun e he hei => ?_) (by simpa using hoa) hg hop hdst hta hcs hne (by rw [hes]; exact fun h => k2 h.symm) (fun e he => ?_) (fun e he hne' => ?_) ?_ ?_ (fun u => ?_) ?_ (fun pl' a' w' hR' hs' => ?_)
          ops.size (Array.replicate ops.size false) a _ ?_ (h0 _) (.inl ⟨h0 _, pl, st, ?_⟩)
        · rcases List.mem_append.1 he with he | he
          · refine ⟨a3 e he, fun hl => ?_⟩
            have := List.all_eq_true.1 k7 _ (mem1 e he)
            simpa [hl] using this
          · rw [List.mem_singleton] at he
            rw [he, hea] at hne'
            exact absurd rfl hne'
        · rcases List.mem_append.1 he with he | he
          · rcases List.mem_append.1 he with he | he
            · have := List.all_eq_true.1 k11 _ (mem1 e he)
              simp only [Bool.and_eq_true, bne_iff_ne, ne_eq] at this
              exact absurd hei this.1
            · rw [List.mem_singleton] at he
              rw [he, hea]; exact ⟨rfl, rfl⟩
          · rw [List.mem_singleton] at he
            rw [he, hes] at hei
            exact absurd hei.symm k2
        · rw [hes]
          refine List.all_eq_true.1 k10 (e.i, e.o, e.ld) ?_
          rcases List.mem_append.1 he with he | he
          · exact List.mem_append_left _ (mem1 e he)
          · rw [List.mem_singleton] at he
            rw [he, hea]
            exact List.mem_append_right _ List.mem_cons_self
        · rcases List.mem_append.1 he with he | he
          · have := List.all_eq_true.1 k11 _ (mem1 e he)
            simp only [Bool.and_eq_true, bne_iff_ne, ne_eq] at this
            refine .inr ?_
            rw [← hdst]; exact this.2
          · rw [List.mem_singleton] at he
            rw [he, hea] at hne'
            exact absurd rfl hne'
        · refine (d4.and h5).imp fun {x y} ⟨h1, h2⟩ hl => ?_
          by_cases hr : isRd x.o = true
          · rcases h1 hl hr with h | h
            · exact .inl h
            · rcases h2 hl hr with h' | h'
              · exact .inl h'
              · exact .inr fun id hid => h' h id hid
          · exact .inr fun id hid => absurd (rdEv_isRd (by rw [hid]; rfl)) hr
        · exact d3.imp fun h hl hr => h hl (rdEv_isRd hr)
        · rw [hnx]
          simp only [List.lookup_cons]
          split <;> rfl
        · rw [hnx]; exact hsto
        · rw [hnx, hes] at hR'
          have e : stf = ⟨putT ox.dst xs.r ((ta, .ptr s1.nx 0 0) :: s1.tm), xs.hp, xs.nx, s1.nt, s1.df, s1.nb⟩ := by
            rw [c3]
            simp only [nextSt, p5, c2, p2, hdst, c1, ← e1, putT]
          have hR' : R G O M pb pl' stf a' w' := by rw [e]; exact hR'
          refine ⟨pl', stf, b6, hR', ?_⟩
          rw [e]; exact hs'
        · have : ∀ e : Ev, (!(Array.replicate ops.size false).getD e.i false) = true := fun e => by rw [h0]; rfl
          rw [List.filter_eq_self.2 fun e _ => this e]
          have k5 : (mkL louds ops.toList is1).length + 2 = ops.size := by simpa using k5
          rw [← k5, ← a2]; simp
        · refine ⟨by simp, fun i o hi => ?_, ⟨hR.hs.add hadd, hR.tm.ext hadd.ext (fun _ _ h => h), hR.nt, hR.dfStep hst, hR.bd⟩, hst, fun t => ?_, ?_, rfl, rfl, rfl⟩
          · rw [h0] at hi; cases hi
          · rw [foldT_none _ _ fun e _ _ => h0 e.i]
          · rw [foldH_none _ _ fun e _ _ => h0 e.i]
      · exact q3.elim
  · cases hc
theorem Tr.regDA {id : Nat} {y : Code} {st : St} {Q : Exit → St → Prop} (is1 : List Nat) (ia ix : Nat) (louds ul ks : List Nat) {st' : St} (hmix : P.follows .mixedOrders = true)
    (hc : dChkA (Region.before ops).toList ops ul louds is1 ia ix = true)
    (h : exY P G ops ul louds is1 st [] fun s1 => exY P G ops ul louds [ia, ix] s1 [] fun s => s.keep ks = st') (hy : Tr P G ro y st' Q) : Tr P G ro (.seq (.region id ops true) y) st Q := by
  refine Tr.seq ((Tr.drawA (Q := fun x s => match x with | .normal => s.keep ks = st' | _ => False) hmix hc h).mono ?_)
  intro x s hx
  cases x with
  | normal => exact Tr.imp (hx ▸ Imp.keep ks) hy
  | _ => exact hx.elim
end
end Go.Sy
namespace Go.Proofs.YtcnkbdfkjhlbiaaDoor
open Go.Sy
set_option maxRecDepth 8000
theorem src_uL (l : List (List Int)) : ((dL l).map fun e => e.map SV.d) = uL l := by simp [dL, uL]
theorem uL_all (l : List (List Int)) : (∀ e ∈ uL l, e.length = 1 ∧ e.all SV.one = true) = True := by simp [SV.one]
theorem uL_len (l : List (List Int)) : (uL l).length = l.length := by simp
theorem more_check {c : Coding} (hc : c.check = 0) (h2 : c.codes.length ≤ 2) {l W : List Int} (hl : l.length = c.cols) (hd : ∀ x ∈ l, 0 ≤ x ∧ x ≤ 9) (hW : W.length = c.codes.length + 1) (hw : ∀ j, j < c.codes.length + 1 → 0 ≤ W.getD j 0 ∧ W.getD j 0 ≤ 10) : (Coding.mk (c.codes ++ [l]) W).check = 0 := by
  have hf := coding_fine hc
  have h10 := hf.ok.c10
  have hn : (Coding.mk (c.codes ++ [l]) W).codes.length = c.codes.length + 1 := by show (c.codes ++ [l]).length = _; simp
  have hcol : (Coding.mk (c.codes ++ [l]) W).cols = c.cols := by
    show ((c.codes ++ [l]).getD 0 []).length = _
    rw [getD_app_l hf.n0]; rfl
  have hrw : ∀ k, k < c.codes.length + 1 → ((c.codes ++ [l]).getD k []).length = c.cols ∧ ((c.codes ++ [l]).getD k []).all isCode = true := fun k hk => by
    by_cases hkc : k < c.codes.length
    · rw [getD_app_l hkc]; exact ⟨hf.ok.cols k hkc, hf.cd k hkc⟩
    · obtain rfl : k = c.codes.length := by omega
      rw [getD_app_r (Nat.le_refl _), Nat.sub_self]
      refine ⟨hl, ?_⟩
      show l.all isCode = true
      rw [List.all_eq_true]
      intro x hx
      have := hd x hx
      simp only [isCode, Bool.and_eq_true, decide_eq_true_eq]; exact this
  have hfc := hf.c0
  unfold Coding.check
  rw [if_neg, if_neg, if_pos]
  · rw [List.all_eq_true]
    intro k hk
    rw [List.mem_range, hn] at hk
    unfold Coding.row within
    rw [hcol]
    obtain ⟨a, b⟩ := hrw k hk
    have := hw k hk
    show (decide (((c.codes ++ [l]).getD k []).length = c.cols) && ((c.codes ++ [l]).getD k []).all isCode && (decide (0 ≤ W.getD k 0) && decide (W.getD k 0 ≤ 10))) = true
    rw [a, b, decide_eq_true rfl, decide_eq_true this.1, decide_eq_true this.2]; rfl
  · rw [hcol, hn]
    show ¬ (_ ∨ W.length ≠ _ ∨ _)
    omega
  · rw [Bool.or_eq_true, not_or]
    refine ⟨fun hc2 => ?_, ?_⟩
    · have := of_decide_eq_true hc2
      rw [hn] at this; omega
    · rw [Bool.not_eq_true', Bool.not_eq_false, List.all_eq_true]
      intro x hx
      obtain ⟨k, hk, rfl⟩ := List.getElem_of_mem hx
      have hk2 : k < c.codes.length + 1 := by rw [← hn]; exact hk
      have := (hrw k hk2).1
      rw [decide_eq_true_eq]
      have e : (c.codes ++ [l]).getD k [] = (Coding.mk (c.codes ++ [l]) W).codes[k] := by
        show (c.codes ++ [l]).getD k [] = (c.codes ++ [l])[k]
        simp only [List.getD_eq_getElem?_getD, List.getElem?_eq_getElem hk, Option.getD_some]
      rw [← e]; omega
end Go.Proofs.YtcnkbdfkjhlbiaaDoor
namespace Go.Sy
theorem CallP.conv {P : Program} {G : Nat → Option (List D)} {f : FuncId} {args args' : List SV} {x : SV} (h : CallP P G f args' x) (ha : F2 (fun s s' => ∀ pl ok w v, SR pl ok w s v → SR pl ok w s' v) args args') : CallP P G f args x :=
  ⟨h.1, fun O pl w vs hold hg hl hr => h.2 O pl w vs hold hg (by rw [hl, ha.len]) (fun i hi => ha.get i (by rw [ha.len]; exact hi) hi _ _ _ _ (hr i (by rw [ha.len]; exact hi)))⟩
theorem SR.dxd {pl : Nat → Option Pl} {ok : Nat → Prop} {w : World} {es : List (List D)} {v : Value} (h : SR pl ok w (.dx es) v) : SR pl ok w (.d (.sl es)) v := by
  cases h with
  | dx _ a h => exact .d _ _ h
end Go.Sy
namespace Go.Proofs.YtcnkbdfkjhlbiaaDoor
open Go.Sy
set_option maxRecDepth 8000
def hasTo (l : List Int) (y : Int) (k : Nat) : Bool := (l.take k).any (· == y)
theorem hasTo_succ {l : List Int} {y : Int} {k : Nat} (hk : k < l.length) : hasTo l y (k + 1) = (hasTo l y k || (l.getD k 0 == y)) := by
  unfold hasTo
  rw [List.take_add_one, List.getElem?_eq_getElem hk, Option.toList_some, List.any_append, List.getD_eq_getElem?_getD, List.getElem?_eq_getElem hk]
  simp
theorem hasTo_all {l : List Int} {y : Int} (h : y ∈ l) : hasTo l y l.length = true := by
  unfold hasTo
  rw [List.take_length, List.any_eq_true]
  exact ⟨y, h, by simp⟩
theorem ints_one {l : List Int} {y : Int} (h : l = [y]) : CallP Tryd.prog G0 34 [SI l, .dx [[.lit (.int .i64 y)]]] (B true) := by
  have := ints_c l [y] (by rw [h, List.length_singleton]; omega) (by rw [List.length_singleton]; omega)
  rw [decide_eq_true h] at this
  exact this.conv (.cons (fun _ _ _ _ h => h) (.cons (fun _ _ _ _ h => h.dxd) .nil))
theorem codesAt_le (c : Coding) (m : Mem) (p : Nat) : (nats (c.codesAt m p)).length ≤ 10 := by
  rw [nats_len]
  unfold Coding.codesAt
  exact Nat.le_trans (List.length_filter_le _ _) (by simp)
theorem codesS_row (c : Coding) (p : Nat) : (c.codesS.1.getD p []).length ≤ 10 := by
  unfold Coding.codesS
  split
  · show ((((List.range c.cols).map fun p => nats (c.codesAt c.root.2 p))).getD p []).length ≤ 10
    rw [List.getD_eq_getElem?_getD, List.getElem?_map]
    cases (List.range c.cols)[p]? with
    | none => exact Nat.zero_le _
    | some q => exact codesAt_le _ _ _
  · exact Nat.zero_le _
abbrev tysW45_11 := And.intro ty.sz0 <| And.intro ty.agg0 <| And.intro ty.elem0 <| And.intro ty.sz3 <| And.intro ty.agg3 <| And.intro ty.elem3 <| And.intro ty.zero3 <| And.intro ty.und3 <| And.intro ty.sz4 <| And.intro ty.agg4 <| And.intro ty.elem4 <| And.intro ty.zero4 <| And.intro ty.und4 <| And.intro ty.sz31 <| And.intro ty.agg31 <| And.intro ty.elem31 <| And.intro ty.zero31 <| And.intro ty.und31 <| And.intro ty.sz39 <| And.intro ty.agg39 <| And.intro ty.elem39 <| And.intro ty.by39 <| And.intro ty.ez39 <| And.intro ty.zero39 <| And.intro ty.und39 <| And.intro ty.sz40 <| And.intro ty.agg40 <| And.intro ty.elem40 <| And.intro ty.sz43 <| And.intro ty.agg43 <| And.intro ty.elem43 <| And.intro ty.by43 <| And.intro ty.ez43 <| And.intro ty.zero43 <| And.intro ty.und43 <| And.intro ty.sz55 <| And.intro ty.agg55 <| And.intro ty.fld55_0 <| And.intro ty.fld55_1 <| And.intro ty.elem55 <| And.intro ty.zero55 <| And.intro ty.pl55 <| And.intro ty.sz59 <| And.intro ty.agg59 <| And.intro ty.fld59_0 <| And.intro ty.fld59_1 <| And.intro ty.elem59 <| And.intro ty.zero59 <| And.intro ty.pl59 <| And.intro ty.sz61 <| And.intro ty.agg61 <| And.intro ty.elem61 <| And.intro ty.sz79 <| And.intro ty.agg79 <| And.intro ty.elem79 <| And.intro ty.by79 <| And.intro ty.ez79 <| And.intro ty.zero79 <| And.intro ty.und79 <| And.intro ty.sz80 <| And.intro ty.agg80 <| ty.elem80
set_option maxHeartbeats 4000000 in
theorem SheetCoded_c (ws : List Nat) (hw : ∀ n ∈ ws, n < 65536) : CallP Tryd.prog G0 11 [SW ws] (B true) := by
  have hCo := Coded_c ws hw 2 (by decide) (by decide)
  have hck : (codedC ws 2).check = 0 := coded_check (by decide) (by decide)
  have hcv : Comp (codedC ws 2) 0 e000 (codeV ws) := coded_comp
  have hN2 : (codedC ws 2).codes.length ≤ 2 := by rw [codedC_codes, rowsTo_len]; unfold codersN; omega
  generalize codedC ws 2 = c at hCo hck hcv hN2
  generalize codeV ws = v at hCo hcv
  have hf := coding_fine hck
  have hn0 := hf.n0
  have hwl := hf.ok.hw
  have h10 := hf.ok.c10
  have hvl : v.length = c.cols := by have := hcv.len; omega
  have hrl : ∀ x ∈ c.codes, x.length ≤ 10 := fun x hx => by
    obtain ⟨k, hk, rfl⟩ := List.getElem_of_mem hx
    have := hf.ok.cols k hk
    rw [show c.codes.getD k [] = c.codes[k] by simp [List.getD_eq_getElem?_getD, hk]] at this
    omega
  obtain ⟨x, hxd⟩ : ∃ x : Coding, x = ⟨c.codes ++ [v], c.wrong ++ [0]⟩ := ⟨_, rfl⟩
  have hxw0 : ∀ j, j < c.codes.length → (c.wrong ++ [0]).getD j 0 = c.wrong.getD j 0 := fun j hj => getD_app_l (by omega)
  have hxwl : (c.wrong ++ [0]).getD c.codes.length 0 = 0 := by rw [getD_app_r (by omega), hwl, Nat.sub_self]; rfl
  have hxk : x.check = 0 := by
    rw [hxd]
    refine more_check hck hN2 hvl hcv.cod (by simp; omega) (fun j hj => ?_)
    by_cases hjc : j < c.codes.length
    · rw [hxw0 j hjc]; exact hf.wr j hjc
    · obtain rfl : j = c.codes.length := by omega
      rw [hxwl]; decide
  have hH : Harder c x v := ⟨by rw [hxd], hwl.symm, fun j hj => by rw [hxd]; exact Int.le_of_eq (hxw0 j hj)⟩
  have hlaw := solved_law hck hxk hH hcv (fun k hk => by rw [hxd]; exact hxw0 k hk) (by rw [hxd]; exact hxwl)
  have hxl : x.codes.length ≤ 3 := by rw [hxd]; show (c.codes ++ [v]).length ≤ 3; simp; omega
  have hxr : ∀ y ∈ x.codes, y.length ≤ 10 := fun y hy => by
    rw [hxd] at hy
    rcases List.mem_append.1 hy with hy | hy
    · exact hrl y hy
    · rw [List.mem_singleton] at hy; subst hy; omega
  have hxw : x.wrong.length ≤ 3 := by rw [hxd]; show (c.wrong ++ [0]).length ≤ 3; simp; omega
  have hcc := Coding_c c (by omega) (fun y hy => by have := hrl y hy; omega) (by omega)
  have hxc := Coding_c x (by omega) (fun y hy => by have := hxr y hy; omega) (by omega)
  have hC1 := Codes_c c (by omega) (by omega)
  have hE1 := Errors_c c (by omega) (by omega)
  have hC2 := Codes_c x (by omega) (by omega)
  have hE2 := Errors_c x (by omega) (by omega)
  have hPr := ProveSolution_c c (by omega) (by omega) v (by omega)
  have hTo := Total_c c hf v hvl
  obtain ⟨la, ea, q1⟩ : ∃ l e, c.codesS = (l, e) := ⟨_, _, rfl⟩
  obtain ⟨na, fa, q2⟩ : ∃ l e, c.errorsS = (l, e) := ⟨_, _, rfl⟩
  obtain ⟨lb, eb, q3⟩ : ∃ l e, x.codesS = (l, e) := ⟨_, _, rfl⟩
  obtain ⟨nb, fb, q4⟩ : ∃ l e, x.errorsS = (l, e) := ⟨_, _, rfl⟩
  have hla10 := codesS_row c
  rw [q1] at hC1 hlaw hla10
  rw [q2] at hE1 hlaw
  rw [q3] at hC2 hlaw
  rw [q4] at hE2 hlaw
  obtain ⟨j1, j2, j3, j4, j5, j6, j7, j8, j9, j10, j11⟩ := hlaw
  have j1 : ea = 0 := j1
  have j2 : fa = 0 := j2
  have j3 : la.length = c.cols := j3
  have j4 : 0 ≤ na := j4
  have j5 : na ≤ totAt c 0 v := j5
  have j7 : eb = 0 := j7
  have j8 : fb = 0 := j8
  have j9 : lb.length = c.cols := j9
  have j10 : nb = totAt c 0 v := j10
  have j11 : ∀ p, p < c.cols → v.getD p 0 ∈ la.getD p [] ∧ lb.getD p [] = [v.getD p 0] := j11
  subst j1 j2 j7 j8
  have j3 : la.length = c.cols := j3
  have j9 : lb.length = c.cols := j9
  have j10 : nb = totAt c 0 v := j10
  have j11 : ∀ p, p < c.cols → v.getD p 0 ∈ la.getD p [] ∧ lb.getD p [] = [v.getD p 0] := j11
  have hla10 : ∀ p, (la.getD p []).length ≤ 10 := hla10
  rw [j6] at hPr
  generalize totAt c 0 v = T at hTo j5 j10
  refine CallP.body 159 [.tmp 2] Tryd.func11 (by kernel_rfl) rfl rfl rfl (by repeat' (first | exact Pure.d _ | exact Pure.dx _ | exact Pure.dp _ | exact fa_nil | refine fa_cons ?_ ?_ | refine Pure.agg ?_ | refine Pure.tup ?_ | refine Pure.clo ?_ ?_ | refine Pure.fp ?_ | exact Pure.mapd _ | assumption)) (by repeat' (first | exact Pure.d _ | exact Pure.dx _ | exact Pure.dp _ | exact fa_nil | refine fa_cons ?_ ?_ | refine Pure.agg ?_ | refine Pure.tup ?_ | refine Pure.clo ?_ ?_ | refine Pure.fp ?_ | exact Pure.mapd _ | assumption)) ?_
  refine Tr.reg [0] (by
      simp only [↓sxd, sxu, ↓zE, ↓exq, St.keep, Nat.reduceBEq, Nat.reduceLT]
      (repeat' (first | rfl | exact trivial | exact fun h => h | exact fun h => (by rw [h]; rfl) | apply And.intro | omega | exact Nat.le_of_ble_eq_true rfl))) ?_
  refine Tr.reg [3, 4] (by
      simp only [↓sxd, sxu, ↓zE, ↓exq, St.keep, Nat.reduceLT]
      (repeat ((with_reducible refine And.intro ?_ ?_); (focus (first | with_reducible rfl | trivial | exact fun h => h | exact fun h => (by rw [h]; rfl) | omega | assumption))))
      refine CallO.use (hCo) ?_
      try simp only [↓sxd, sxu, ↓zE, ↓exq, ↓zN, ↓zM, Nat.reduceBEq, Nat.reduceAdd, Nat.reduceLT, Nat.reduceEqDiff, tysW45_11]
      (repeat' (first | rfl | exact trivial | exact fun h => h | exact fun h => (by rw [h]; rfl) | apply And.intro | omega | exact Nat.le_of_ble_eq_true rfl))) ?_
  refine Tr.reg [3, 4, 5, 6] (by
      simp only [↓sxd, sxu, ↓zE, ↓exq, St.keep, ↓zD, Nat.reduceAdd, Nat.reduceLT, tysW45_11]
      (repeat ((with_reducible refine And.intro ?_ ?_); (focus (first | with_reducible rfl | trivial | exact fun h => h | exact fun h => (by rw [h]; rfl) | omega | assumption))))
      refine CallO.use (hcc) ?_
      try simp only [↓sxd, sxu, ↓zE, Nat.reduceLT]
      (repeat ((with_reducible refine And.intro ?_ ?_); (focus (first | with_reducible rfl | trivial | exact fun h => h | exact fun h => (by rw [h]; rfl) | omega | assumption))))
      refine CallO.use (hC1) ?_
      try simp only [↓sxd, sxu, ↓zE, ↓exq, ↓zN, Nat.reduceBEq, Nat.reduceAdd, Nat.reduceLT]
      (repeat' (first | rfl | exact trivial | exact fun h => h | exact fun h => (by rw [h]; rfl) | apply And.intro | omega | exact Nat.le_of_ble_eq_true rfl))) ?_
  refine Tr.reg [3, 4, 5, 6, 7, 8] (by
      simp only [↓sxd, sxu, ↓zE, ↓exq, St.keep, ↓zD, Nat.reduceAdd, Nat.reduceLT, tysW45_11]
      (repeat ((with_reducible refine And.intro ?_ ?_); (focus (first | with_reducible rfl | trivial | exact fun h => h | exact fun h => (by rw [h]; rfl) | omega | assumption))))
      refine CallO.use (hcc) ?_
      try simp only [↓sxd, sxu, ↓zE, Nat.reduceLT]
      (repeat ((with_reducible refine And.intro ?_ ?_); (focus (first | with_reducible rfl | trivial | exact fun h => h | exact fun h => (by rw [h]; rfl) | omega | assumption))))
      refine CallO.use (hE1) ?_
      try simp only [↓sxd, sxu, ↓zE, ↓exq, ↓zN, Nat.reduceBEq, Nat.reduceAdd, Nat.reduceLT]
      (repeat' (first | rfl | exact trivial | exact fun h => h | exact fun h => (by rw [h]; rfl) | apply And.intro | omega | exact Nat.le_of_ble_eq_true rfl))) ?_
  refine Tr.seq ?_
  have hv2 : (v.length ≤ 1073741824) = True := eq_true (by omega)
  have hl1 : (((la.length : Nat) : Int) != ((v.length : Nat) : Int)) = false := by rw [j3, hvl]; simp
  have hl2 : decide (na < 0) = false := decide_eq_false (by omega)
  have hl3 : decide (na > (T : Int)) = false := decide_eq_false (by omega)
  refine Tr.reg [3, 4, 5, 66] (by
      simp only [↓sxd, sxu, ↓zE, ↓exq, St.keep, Nat.reduceBEq, Nat.reduceLT, bne_self_eq_false]
      iterate 12
        (repeat ((with_reducible refine And.intro ?_ ?_); (focus (first | with_reducible rfl | trivial | exact fun h => h | exact fun h => (by rw [h]; rfl) | omega | assumption))))
        refine GdO.mk _ (fun hg => by simp only [↓sxd, sxu, ↓exq, ↓zB, ↓zJ, ↓zD, Nat.reduceBEq, Nat.reduceAdd, Nat.reduceLT, sxe, tysW45_11, bne_self_eq_false, hl1, hl2, hg]; (repeat' (first | rfl | exact trivial | exact fun h => h | exact fun h => (by rw [h]; rfl) | apply And.intro | omega | exact Nat.le_of_ble_eq_true rfl))) ?_
        simp only [↓sxd, sxu, ↓zE, ↓exq, ↓zH, Nat.reduceBEq, Nat.reduceLT]
      (repeat ((with_reducible refine And.intro ?_ ?_); (focus (first | with_reducible rfl | trivial | exact fun h => h | exact fun h => (by rw [h]; rfl) | omega | assumption))))
      refine GdO.mk _ (fun hg => by simp only [sxu, ↓exq, ↓zB, Nat.reduceBEq, hg]; (repeat ((with_reducible refine And.intro ?_ ?_); (focus (first | with_reducible rfl | trivial | exact fun h => h | exact fun h => (by rw [h]; rfl) | omega | assumption)))); exact CallP.use (hTo) ⟨rfl, rfl, rfl⟩) ?_
      simp only [↓sxd, sxu, ↓zE, Nat.reduceBEq, Nat.reduceLT]
      iterate 2
        (repeat ((with_reducible refine And.intro ?_ ?_); (focus (first | with_reducible rfl | trivial | exact fun h => h | exact fun h => (by rw [h]; rfl) | omega | assumption))))
        refine GdO.mk _ (fun hg => by simp only [↓sxd, sxu, ↓exq, ↓zD, Nat.reduceBEq, Nat.reduceAdd, Nat.reduceLT, tysW45_11, hl3, hg]; (repeat' (first | rfl | exact trivial | exact fun h => h | exact fun h => (by rw [h]; rfl) | apply And.intro | omega | exact Nat.le_of_ble_eq_true rfl))) ?_
        simp only [↓sxd, sxu, ↓zE, ↓exq, ↓zH, Nat.reduceBEq, Nat.reduceLT]
      (repeat ((with_reducible refine And.intro ?_ ?_); (focus (first | with_reducible rfl | trivial | exact fun h => h | exact fun h => (by rw [h]; rfl) | omega | assumption))))
      refine GdO.mk _ (fun hg => by simp only [sxu, ↓exq, ↓zB, hg]; (repeat ((with_reducible refine And.intro ?_ ?_); (focus (first | with_reducible rfl | trivial | exact fun h => h | exact fun h => (by rw [h]; rfl) | omega | assumption)))); exact CallP.use (hcc) ⟨rfl, rfl, rfl⟩) ?_
      simp only [↓sxd, sxu, ↓zE, Nat.reduceBEq, Nat.reduceLT]
      iterate 2
        (repeat ((with_reducible refine And.intro ?_ ?_); (focus (first | with_reducible rfl | trivial | exact fun h => h | exact fun h => (by rw [h]; rfl) | omega | assumption))))
        refine GdO.mk _ (fun hg => by simp only [sxu, ↓exq, ↓zG, Nat.reduceBEq, Nat.reduceEqDiff, tysW45_11, hg]; (repeat' (first | rfl | exact trivial | exact fun h => h | exact fun h => (by rw [h]; rfl) | apply And.intro | omega | exact Nat.le_of_ble_eq_true rfl))) ?_
        simp only [↓sxd, sxu, ↓zE, Nat.reduceBEq, Nat.reduceLT]
      (repeat ((with_reducible refine And.intro ?_ ?_); (focus (first | with_reducible rfl | trivial | exact fun h => h | exact fun h => (by rw [h]; rfl) | omega | assumption))))
      refine GdO.now rfl ?_; simp only [↓sxd, sxu, ↓zE, ↓exq, ↓zB, ↓zQ, Nat.reduceBEq, Nat.reduceAdd, Nat.reduceLT, Nat.reduceLeDiff, Nat.reduceEqDiff, tysW45_11, src_vI, vI_all, hv2, Bool.not_false]; (repeat ((with_reducible refine And.intro ?_ ?_); (focus (first | with_reducible rfl | trivial | exact fun h => h | exact fun h => (by rw [h]; rfl) | omega | assumption))))
      try simp only [↓sxd, sxu, ↓zE, ↓zC, zK, ↓exP, ↓exq, ↓zB, St.keep, ↓zH, ↓zL, ↓zJ, ↓zD, ↓zN, ↓zM, ↓zO, ↓zG, ↓zQ, ↓zA, Nat.reduceBEq, Nat.reduceAdd, Nat.reduceLT, Nat.reduceMul, Nat.reduceSub, Nat.reduceLeDiff, Nat.reduceEqDiff, Int.reduceLE, Int.reduceLT, Int.reduceToNat, reduceIte, implies_true, sxe, tysW45_11, src_vI, vI_all, hv2, bne_self_eq_false, hl1, hl2, hl3]
      (repeat ((with_reducible refine And.intro ?_ ?_); (focus (first | with_reducible rfl | trivial | exact fun h => h | exact fun h => (by rw [h]; rfl) | omega | assumption))))
      refine GdO.mk (B true) (fun hg => by
        simp only [sxu, ↓exq, ↓zB, Nat.reduceBEq]
        (repeat ((with_reducible refine And.intro ?_ ?_); (focus (first | with_reducible rfl | trivial | exact fun h => h | exact fun h => (by rw [h]; rfl) | omega | assumption))))
        exact CallP.useB [] hPr (List.nil_sublist _) (.cons (TnS.agg (.cons (TnS.d _) (.cons (TnS.d _) .nil))) (.cons (TnS.frz0 (id := 1) (sz := 1) (len := v.length) (es := vI v) rfl (by simp) (by simp) (by simp) (vI_fz _)) .nil)) (Rigid.lit _) ⟨rfl, rfl, rfl⟩) ?_
      try simp only [↓sxd, sxu, ↓zE, Nat.reduceBEq, Nat.reduceLT]
      (repeat ((with_reducible refine And.intro ?_ ?_); (focus (first | with_reducible rfl | trivial | exact fun h => h | exact fun h => (by rw [h]; rfl) | omega | assumption))))
      refine GdO.mk _ (fun hg => by simp only [sxu, ↓exq, ↓zL]; (repeat' (first | rfl | exact trivial | exact fun h => h | exact fun h => (by rw [h]; rfl) | apply And.intro | omega | exact Nat.le_of_ble_eq_true rfl))) ?_
      simp only [↓sxd, sxu, ↓zE, ↓exq, ↓zH, Nat.reduceBEq, Nat.reduceLT]
      (repeat' (first |rfl |exact trivial |exact fun _ => rfl |exact fun h => h |apply And.intro |omega))) ?_
  refine Tr.cond rfl (fun h66 => ?_) (fun h66 => ?_)
  · cases h66
  · refine Tr.skip ?_
    have hq1 : (c.codes.length ≤ 1073741824) = True := eq_true (by omega)
    have hq2 : (c.codes.length + 1 ≤ 1073741824) = True := eq_true (by omega)
    have hq3 : (c.wrong.length ≤ 1073741824) = True := eq_true (by omega)
    have hq4 : (c.wrong.length + 1 ≤ 1073741824) = True := eq_true (by omega)
    refine Tr.regDA [1, 2, 8, 9, 0, 3, 4, 5, 6, 7, 10, 11, 12, 13] 14 15 [3, 6, 10, 12, 14, 15] [2, 9] [3, 4, 5, 9] mix (by kernel_rfl) (by
        simp only [↓sxd, sxu, ↓zC, zK, ↓exq, ↓zB, St.keep, ↓zD, ↓zM, ↓zO, ↓zG, ↓zQ, ↓zA, Nat.reduceBEq, Nat.reduceAdd, Nat.reduceLT, Nat.reduceLeDiff, Nat.reduceEqDiff, tysW45_11, src_uL, uL_all, src_vI, vI_all, hq1, hq2, hq3, hq4]
        (repeat' (first | rfl | exact trivial | exact fun h => h | exact fun h => (by rw [h]; rfl) | apply And.intro | omega | exact Nat.le_of_ble_eq_true rfl))) ?_
    refine Tr.imp (st' := ⟨[(3, .ptr 0 0 0), (4, SI v), (5, SL la), (9, .ptr 6 0 0)], [(6, .arr 2 [[SL x.codes, SI x.wrong]]), (0, .arr 2 [[SL c.codes, SI c.wrong]])], 7, 159, [], 0⟩) (by
    subst hxd
    exact Imp.go (fun i => i) [(6, .arr 2 [[.slc 3 1 0 (c.codes.length + 1) (c.codes.length + 1), .slc 5 1 0 (c.wrong.length + 1) (c.wrong.length + 1)]]), (0, .arr 2 [[SL c.codes, SI c.wrong]])] rfl rfl (.cons_cons _ (.cons _ (.cons _ (.cons _ (.refl _))))) (fun _ _ => rfl) (fun _ h => h) (by repeat' (first | exact TmT.cons rfl (TnS.d _) ?_ | exact trivial | exact F2.nil | refine F2.append ?_ ?_ | refine F2.map fun _ _ => ?_ | refine F2.cons ?_ ?_ | refine TmT.cons rfl ?_ ?_ | exact TnS.d _ | exact TnS.dx _ | exact TnS.dp _ | exact TnS.slc rfl | exact TnS.ptr rfl | refine TnS.frzf rfl (by simp) (by simp) (by simp) ?_ | refine TnS.frz0 rfl (by simp) (by simp) (by simp) ?_ | refine TnS.frzm rfl (by simp) ?_ | exact TnS.mapr rfl | exact TnS.yld rfl | refine ⟨rfl, ?_⟩ | refine TnO.arr ?_ | refine TnO.map ?_ | exact TnO.raw _ | exact TnO.iter _ _ | refine TnS.agg ?_ | refine TnS.tup ?_ | exact TnS.pure (Pure.clo (by assumption) (by assumption)) | refine TnS.clo ?_ ?_ | exact TnS.unk _ | exact TnS.pure (Pure.clo (by assumption) (by assumption)))) (.cons ⟨rfl, TnO.arr (.cons (.cons (TnS.frz0 (id := 3) (sz := 1) (es := uL c.codes ++ [[SI v]]) rfl (by simp) (by simp) (by simp) (by rw [← uL_snoc]; exact uL_fz _)) (.cons (TnS.frz0 (id := 5) (sz := 1) (es := vI c.wrong ++ [[I 0]]) rfl (by simp) (by simp) (by simp) (by rw [← vI_snoc]; exact vI_fz _)) .nil)) .nil)⟩ (.cons ⟨rfl, TnO.arr (by repeat' (first | exact TmT.cons rfl (TnS.d _) ?_ | exact trivial | exact F2.nil | refine F2.append ?_ ?_ | refine F2.map fun _ _ => ?_ | refine F2.cons ?_ ?_ | refine TmT.cons rfl ?_ ?_ | exact TnS.d _ | exact TnS.dx _ | exact TnS.dp _ | exact TnS.slc rfl | exact TnS.ptr rfl | refine TnS.frzf rfl (by simp) (by simp) (by simp) ?_ | refine TnS.frz0 rfl (by simp) (by simp) (by simp) ?_ | refine TnS.frzm rfl (by simp) ?_ | exact TnS.mapr rfl | exact TnS.yld rfl | refine ⟨rfl, ?_⟩ | refine TnO.arr ?_ | refine TnO.map ?_ | exact TnO.raw _ | exact TnO.iter _ _ | refine TnS.agg ?_ | refine TnS.tup ?_ | exact TnS.pure (Pure.clo (by assumption) (by assumption)) | refine TnS.clo ?_ ?_ | exact TnS.unk _ | exact TnS.pure (Pure.clo (by assumption) (by assumption))))⟩ .nil)) (fun _ => rfl)) ?_
    refine Tr.reg [3, 4, 5, 9, 10, 11] (by
        simp only [↓sxd, sxu, ↓zE, ↓exq, St.keep, ↓zD, Nat.reduceBEq, Nat.reduceAdd, Nat.reduceLT, tysW45_11]
        (repeat ((with_reducible refine And.intro ?_ ?_); (focus (first | with_reducible rfl | trivial | exact fun h => h | exact fun h => (by rw [h]; rfl) | omega | assumption))))
        refine CallO.use (hxc) ?_
        try simp only [↓sxd, sxu, ↓zE, Nat.reduceLT]
        (repeat ((with_reducible refine And.intro ?_ ?_); (focus (first | with_reducible rfl | trivial | exact fun h => h | exact fun h => (by rw [h]; rfl) | omega | assumption))))
        refine CallO.use (hC2) ?_
        try simp only [↓sxd, sxu, ↓zE, ↓exq, ↓zN, Nat.reduceBEq, Nat.reduceAdd, Nat.reduceLT]
        (repeat' (first | rfl | exact trivial | exact fun h => h | exact fun h => (by rw [h]; rfl) | apply And.intro | omega | exact Nat.le_of_ble_eq_true rfl))) ?_
    refine Tr.reg [3, 4, 5, 10, 11, 12, 13] (by
        simp only [↓sxd, sxu, ↓zE, ↓exq, St.keep, ↓zD, Nat.reduceBEq, Nat.reduceAdd, Nat.reduceLT, tysW45_11]
        (repeat ((with_reducible refine And.intro ?_ ?_); (focus (first | with_reducible rfl | trivial | exact fun h => h | exact fun h => (by rw [h]; rfl) | omega | assumption))))
        refine CallO.use (hxc) ?_
        try simp only [↓sxd, sxu, ↓zE, Nat.reduceLT]
        (repeat ((with_reducible refine And.intro ?_ ?_); (focus (first | with_reducible rfl | trivial | exact fun h => h | exact fun h => (by rw [h]; rfl) | omega | assumption))))
        refine CallO.use (hE2) ?_
        try simp only [↓sxd, sxu, ↓zE, ↓exq, ↓zN, Nat.reduceBEq, Nat.reduceAdd, Nat.reduceLT]
        (repeat' (first | rfl | exact trivial | exact fun h => h | exact fun h => (by rw [h]; rfl) | apply And.intro | omega | exact Nat.le_of_ble_eq_true rfl))) ?_
    refine Tr.seq ?_
    have hl4 : (((lb.length : Nat) : Int) != ((v.length : Nat) : Int)) = false := by rw [j9, hvl]; simp
    have hl5 : (nb != (T : Int)) = false := by rw [show nb = T from j10]; simp
    refine Tr.reg [4, 5, 10, 112] (by
        simp only [↓sxd, sxu, ↓zE, ↓exq, St.keep, Nat.reduceBEq, Nat.reduceLT, bne_self_eq_false]
        iterate 10
          (repeat ((with_reducible refine And.intro ?_ ?_); (focus (first | with_reducible rfl | trivial | exact fun h => h | exact fun h => (by rw [h]; rfl) | omega | assumption))))
          refine GdO.mk _ (fun hg => by simp only [↓sxd, sxu, ↓exq, ↓zB, ↓zJ, ↓zD, Nat.reduceBEq, Nat.reduceAdd, Nat.reduceLT, sxe, tysW45_11, bne_self_eq_false, hl4, hg]; (repeat' (first | rfl | exact trivial | exact fun h => h | exact fun h => (by rw [h]; rfl) | apply And.intro | omega | exact Nat.le_of_ble_eq_true rfl))) ?_
          simp only [↓sxd, sxu, ↓zE, ↓exq, ↓zH, Nat.reduceBEq, Nat.reduceLT]
        (repeat ((with_reducible refine And.intro ?_ ?_); (focus (first | with_reducible rfl | trivial | exact fun h => h | exact fun h => (by rw [h]; rfl) | omega | assumption))))
        refine GdO.mk _ (fun hg => by simp only [sxu, ↓exq, ↓zB, Nat.reduceBEq, hg]; (repeat ((with_reducible refine And.intro ?_ ?_); (focus (first | with_reducible rfl | trivial | exact fun h => h | exact fun h => (by rw [h]; rfl) | omega | assumption)))); exact CallP.use (hTo) ⟨rfl, rfl, rfl⟩) ?_
        simp only [↓sxd, sxu, ↓zE, Nat.reduceBEq, Nat.reduceLT]
        (repeat ((with_reducible refine And.intro ?_ ?_); (focus (first | with_reducible rfl | trivial | exact fun h => h | exact fun h => (by rw [h]; rfl) | omega | assumption))))
        refine GdO.mk _ (fun hg => by simp only [↓sxd, sxu, ↓exq, Nat.reduceBEq, hl5, hg]; (repeat' (first | rfl | exact trivial | exact fun h => h | exact fun h => (by rw [h]; rfl) | apply And.intro | omega | exact Nat.le_of_ble_eq_true rfl))) ?_
        simp only [↓sxd, sxu, ↓zE, ↓exq, ↓zH, Nat.reduceBEq, Nat.reduceLT]
        (repeat' (first |rfl |exact trivial |exact fun _ => rfl |exact fun h => h |apply And.intro |omega))) ?_
    refine Tr.cond rfl (fun h112 => ?_) (fun h112 => ?_)
    · cases h112
    · refine Tr.skip ?_
      refine Tr.seq ?_
      refine Tr.reg [4, 5, 10, 14] (by
          simp only [↓sxd, sxu, ↓zE, ↓exq, St.keep, Nat.reduceBEq, Nat.reduceLT]
          (repeat' (first | rfl | exact trivial | exact fun h => h | exact fun h => (by rw [h]; rfl) | apply And.intro | omega | exact Nat.le_of_ble_eq_true rfl))) ?_
      refine Tr.imp (st' := ⟨[(4, SI v), (5, SL la), (10, SL lb), (14, I 0)], [(6, .arr 2 [[SL x.codes, SI x.wrong]]), (0, .arr 2 [[SL c.codes, SI c.wrong]])], 7, 159, [], 0⟩) (Imp.keepAll) (Tr.block (Tr.loopI (fun mm ss => ∃ (i : Nat), (i ≤ v.length) ∧ v.length - i = mm ∧ ss = ⟨[(4, SI v), (5, SL la), (10, SL lb), (14, I i)], [(6, .arr 2 [[SL x.codes, SI x.wrong]]), (0, .arr 2 [[SL c.codes, SI c.wrong]])], 7, 159, [], 0⟩) _ ⟨0, ?_, rfl, rfl⟩ ?_))
      · exact Nat.zero_le _
      rintro mm ss ⟨i, hI, rfl, rfl⟩
      refine Tr.seq ?_
      refine Tr.reg [4, 5, 10, 14, 116] (by
          simp only [↓sxd, sxu, ↓zE, ↓exq, ↓zB, St.keep, ↓zJ, Nat.reduceBEq, Nat.reduceLT, sxe, tysW45_11]
          (repeat' (first | rfl | exact trivial | exact fun h => h | exact fun h => (by rw [h]; rfl) | apply And.intro | omega | exact Nat.le_of_ble_eq_true rfl))) ?_
      refine Tr.cond rfl (fun h116 => ?_) (fun h116 => ?_)
      · have hlt : i < v.length := by have := of_decide_eq_true h116; omega
        have hia : i < la.length := by omega
        have hib : i < lb.length := by omega
        obtain ⟨hm, hb1⟩ := j11 i (by omega)
        have hon := ints_one hb1
        refine Tr.skip ?_
        refine Tr.seq ?_
        refine Tr.block ?_
        refine Tr.reg [4, 5, 10, 14, 15] (by
            simp only [↓sxd, sxu, ↓zE, ↓exq, St.keep, Nat.reduceBEq, Nat.reduceLT]
            (repeat' (first | rfl | exact trivial | exact fun h => h | exact fun h => (by rw [h]; rfl) | apply And.intro | omega | exact Nat.le_of_ble_eq_true rfl))) ?_
        refine Tr.seq ?_
        refine Tr.reg [4, 5, 10, 14, 15, 16] (by
            simp only [↓sxd, sxu, ↓zE, ↓exq, St.keep, Nat.reduceBEq, Nat.reduceLT]
            (repeat' (first | rfl | exact trivial | exact fun h => h | exact fun h => (by rw [h]; rfl) | apply And.intro | omega | exact Nat.le_of_ble_eq_true rfl))) ?_
        refine Tr.imp (st' := ⟨[(4, SI v), (5, SL la), (10, SL lb), (14, I i), (15, B (hasTo (la.getD i []) (v.getD i 0) 0)), (16, I 0)], [(6, .arr 2 [[SL x.codes, SI x.wrong]]), (0, .arr 2 [[SL c.codes, SI c.wrong]])], 7, 159, [], 0⟩) (Imp.keepAll) (Tr.block (Tr.loopI (fun mm ss => ∃ (k : Nat), (k ≤ (la.getD i []).length) ∧ (la.getD i []).length - k = mm ∧ ss = ⟨[(4, SI v), (5, SL la), (10, SL lb), (14, I i), (15, B (hasTo (la.getD i []) (v.getD i 0) k)), (16, I k)], [(6, .arr 2 [[SL x.codes, SI x.wrong]]), (0, .arr 2 [[SL c.codes, SI c.wrong]])], 7, 159, [], 0⟩) _ ⟨0, ?_, rfl, rfl⟩ ?_))
        · exact Nat.zero_le _
        rintro mm ss ⟨k, hI, rfl, rfl⟩
        refine Tr.seq ?_
        refine Tr.reg [4, 5, 10, 14, 15, 16, 125] (by
            simp only [↓sxd, sxu, ↓zE, ↓exq, ↓zB, St.keep, ↓zJ, ↓zD, Nat.reduceBEq, Nat.reduceLT, sxe, tysW45_11, hia]
            (repeat' (first | rfl | exact trivial | exact fun h => h | exact fun h => (by rw [h]; rfl) | apply And.intro | omega | exact Nat.le_of_ble_eq_true rfl))) ?_
        refine Tr.cond rfl (fun h125 => ?_) (fun h125 => ?_)
        · have hk : k < (la.getD i []).length := by have := of_decide_eq_true h125; omega
          have hk10 := hla10 i
          refine Tr.skip ?_
          refine Tr.seq ?_
          refine Tr.block ?_
          refine Tr.regV1 [] [] [4, 5, 10, 14, 15, 16] mix (by kernel_rfl) (by
              try simp only
              simp only [↓yB, ↓yG, addA, sxu, zK, ↓exq, St.keep, Nat.reduceBEq, Nat.reduceAdd, Nat.reduceLT, hk]
              iterate 12
                (repeat ((with_reducible refine And.intro ?_ ?_); (focus (first | with_reducible rfl | trivial | exact fun h => h | exact fun h => (by rw [h]; rfl) | omega | assumption))))
                refine GdV.mk _ (fun hg => by simp only [↓sxd, sxu, ↓exP, ↓exq, ↓zD, Nat.reduceBEq, Nat.reduceLT, sxe, tysW45_11, hia, hk, hlt, hg]; (repeat' (first | rfl | exact trivial | exact fun h => h | exact fun h => (by rw [h]; rfl) | apply And.intro | omega | exact Nat.le_of_ble_eq_true rfl))) ?_
                simp only [↓yB, ↓yE, ↓yG, addA, sxu, zK, ↓exq, ↓zH, Nat.reduceBEq, Nat.reduceAdd, Nat.reduceLT]
              (repeat' (first | rfl | exact trivial | exact fun h => h | exact fun h => (by rw [h]; rfl) | apply And.intro | omega | exact Nat.le_of_ble_eq_true rfl))) ?_
          have w1 : IntKind.i64.wrap ((k : Int) + 1) = ((k + 1 : Nat) : Int) := by rw [wr (by omega) (by omega)]; rfl
          refine Tr.reg1 [4, 5, 10, 14, 15, 16] (by
              simp only [↓sxd, sxu, ↓zE, ↓exq, St.keep, Nat.reduceBEq, Nat.reduceLT, w1]
              (repeat' (first | rfl | exact trivial | exact fun h => h | exact fun h => (by rw [h]; rfl) | apply And.intro | omega | exact Nat.le_of_ble_eq_true rfl))) ?_
          refine ⟨_, _, ?_, ?_, ⟨k + 1, hk, rfl, rfl⟩⟩
          · omega
          · rw [hasTo_succ hk]; exact Imp.keepAll
        · have hke : k = (la.getD i []).length := by have := of_decide_eq_false h125; omega
          subst hke
          rw [hasTo_all hm]
          refine Tr.exit ?_
          refine Tr.regV [] [] [4, 5, 10, 14, 157] mix (by kernel_rfl) (by
              try simp only
              simp only [↓yB, ↓yG, addA, sxu, zK, ↓exq, St.keep, ↓zL, Nat.reduceBEq, Nat.reduceAdd, Nat.reduceLT]
              iterate 9
                (repeat ((with_reducible refine And.intro ?_ ?_); (focus (first | with_reducible rfl | trivial | exact fun h => h | exact fun h => (by rw [h]; rfl) | omega | assumption))))
                refine GdV.mk _ (fun hg => by simp only [↓sxd, sxu, ↓exP, ↓exq, ↓zD, ↓zG, Nat.reduceBEq, Nat.reduceLT, Nat.reduceLeDiff, Nat.reduceEqDiff, sxe, tysW45_11, hib, hlt, hg]; (repeat' (first | rfl | exact trivial | exact fun h => h | exact fun h => (by rw [h]; rfl) | apply And.intro | omega | exact Nat.le_of_ble_eq_true rfl))) ?_
                simp only [↓yB, ↓yG, addA, sxu, zK, Nat.reduceBEq, Nat.reduceAdd, Nat.reduceLT]
              (repeat ((with_reducible refine And.intro ?_ ?_); (focus (first | with_reducible rfl | trivial | exact fun h => h | exact fun h => (by rw [h]; rfl) | omega | assumption))))
              refine GdV.mk _ (fun hg => by simp only [sxu, ↓exP, Nat.reduceBEq, hg]; first | exact hon | exact ⟨hon, rfl, rfl⟩ | exact ⟨hon, trivial⟩ | exact ⟨hon, trivial, trivial⟩) ?_
              simp only [↓yB, ↓yG, addA, sxu, zK, Nat.reduceBEq, Nat.reduceAdd, Nat.reduceLT]
              (repeat ((with_reducible refine And.intro ?_ ?_); (focus (first | with_reducible rfl | trivial | exact fun h => h | exact fun h => (by rw [h]; rfl) | omega | assumption))))
              refine GdV.mk _ (fun hg => by simp only [sxu, ↓exP, ↓exq, ↓zL, hg]; (repeat' (first | rfl | exact trivial | exact fun h => h | exact fun h => (by rw [h]; rfl) | apply And.intro | omega | exact Nat.le_of_ble_eq_true rfl))) ?_
              simp only [↓yB, ↓yE, ↓yG, sxu, ↓exq, ↓zH, Nat.reduceBEq, Nat.reduceAdd, Nat.reduceLT]
              (repeat' (first | rfl | exact trivial | exact fun h => h | exact fun h => (by rw [h]; rfl) | apply And.intro | omega | exact Nat.le_of_ble_eq_true rfl))) ?_
          refine Tr.cond rfl (fun h157 => ?_) (fun h157 => ?_)
          · cases h157
          · refine Tr.skip ?_
            have w2 : IntKind.i64.wrap ((i : Int) + 1) = ((i + 1 : Nat) : Int) := by rw [wr (by omega) (by omega)]; rfl
            refine Tr.reg1 [4, 5, 10, 14] (by
                simp only [↓sxd, sxu, ↓zE, ↓exq, St.keep, Nat.reduceBEq, Nat.reduceLT, w2]
                (repeat' (first | rfl | exact trivial | exact fun h => h | exact fun h => (by rw [h]; rfl) | apply And.intro | omega | exact Nat.le_of_ble_eq_true rfl))) ?_
            exact ⟨_, _, by omega, Imp.keepAll, ⟨i + 1, hlt, rfl, rfl⟩⟩
      · skip
        refine Tr.exit ?_
        refine Tr.reg [2] (by
            simp only [↓sxd, sxu, ↓zE, St.keep, Nat.reduceLT]
            (repeat ((with_reducible refine And.intro ?_ ?_); (focus (first | with_reducible rfl | trivial | exact fun h => h | exact fun h => (by rw [h]; rfl) | omega | assumption))))
            refine CallO.use (awake_c) ?_
            try simp only [↓sxd, sxu, ↓zE, ↓exq, Nat.reduceLT]
            (repeat' (first | rfl | exact trivial | exact fun h => h | exact fun h => (by rw [h]; rfl) | apply And.intro | omega | exact Nat.le_of_ble_eq_true rfl))) ?_
        refine Tr.ret ?_
        (refine ⟨.inr rfl, ?_⟩; first | rfl | exact ⟨rfl, rfl, trivial⟩ | exact ⟨rfl, rfl, rfl, trivial⟩ | (simp only [Res, ResL, ResOK, ↓sxd, sxu, ↓zE, ↓zC, zK, ↓exP, ↓exq, ↓zB, St.keep, ↓zH, ↓zL, ↓zJ, ↓zD, ↓zN, ↓zM, ↓zO, ↓zG, ↓zQ, ↓zA, Nat.reduceBEq, Nat.reduceAdd, Nat.reduceLT, Nat.reduceMul, Nat.reduceSub, Nat.reduceLeDiff, Nat.reduceEqDiff, Int.reduceLE, Int.reduceLT, Int.reduceToNat, reduceIte, implies_true, sxe, tysW45_11]; (repeat' (first | rfl | exact trivial | exact fun h => h | exact fun h => (by rw [h]; rfl) | apply And.intro | omega | exact Nat.le_of_ble_eq_true rfl))))
end Go.Proofs.YtcnkbdfkjhlbiaaDoor
