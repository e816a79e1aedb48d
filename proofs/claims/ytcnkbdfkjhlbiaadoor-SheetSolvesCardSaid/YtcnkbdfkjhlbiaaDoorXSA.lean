/- Lemmas, part XSA. Conditions: none. -/
import Derived.Test.YtcnkbdfkjhlbiaaDoorXPBC
import Derived.Carry
set_option linter.unusedVariables false
namespace Go.Proofs.YtcnkbdfkjhlbiaaDoor
open Go.Sy
theorem ty.sz55 : tsz Tryd.prog 55 = some 2 := by kernel_rfl
theorem ty.agg55 : tagg Tryd.prog 55 = some true := by kernel_rfl
theorem ty.zero55 : tzero Tryd.prog 55 = some (SV.dx [] :: (SV.dx [] :: [])) := by kernel_rfl
theorem ty.fld55_0 : tfld Tryd.prog 55 0 = some (0, 1) := by kernel_rfl
theorem ty.fld55_1 : tfld Tryd.prog 55 1 = some (1, 1) := by kernel_rfl
theorem ty.pl55 : tplaces Tryd.prog 55 = some (fun i => ([(0, 1), (1, 1)] : List (Nat × Nat))[i]?) := by kernel_rfl
theorem ty.elem55 : telem Tryd.prog 55 = none := by kernel_rfl
end Go.Proofs.YtcnkbdfkjhlbiaaDoor
namespace Go.Proofs.YtcnkbdfkjhlbiaaDoor
open Go.Sy Go.Deep
section
variable {H : Type} {enc : TypeId × Value → H} {W : World} {spare : Nat → Bool}
theorem rd43 : Reads enc Tryd.prog W spare 43 1 (fun l : List Int => [.sl (l.map fun n => [cI n])]) := reads_slice (e := 3) (n := 1) (by kernel_rfl) (by kernel_rfl) (by decide) (R3 enc W spare)
theorem rd39 : Reads enc Tryd.prog W spare 39 1 (fun l : List (List Int) => [.sl (l.map fun l => [.sl (l.map fun n => [cI n])])]) := reads_slice (e := 43) (n := 1) (by kernel_rfl) (by kernel_rfl) (by decide) rd43
theorem rd55 : Reads enc Tryd.prog W spare 55 2 (fun c : List (List Int) × List Int => [.sl (c.1.map fun l => [.sl (l.map fun n => [cI n])]), .sl (c.2.map fun n => [cI n])]) := fun fuel cs x h => by
  obtain ⟨hl, n, hf⟩ := open_fields [(39, 0), (43, 1)] (by kernel_rfl) (by simp) h
  obtain ⟨y0, h0⟩ := hf 0 39 0 rfl
  obtain ⟨y1, h1⟩ := hf 1 43 1 rfl
  obtain ⟨a, la, da⟩ := rd39 _ _ _ h0
  obtain ⟨b, lb, db⟩ := rd43 _ _ _ h1
  rw [show Tryd.prog.cellsOf 39 = 1 by kernel_rfl] at da
  rw [show Tryd.prog.cellsOf 43 = 1 by kernel_rfl] at db
  rw [show Tryd.prog.cellsOf 55 = 2 by kernel_rfl] at hl
  exact ⟨(a, b), rfl, Tile.drs [[D.sl (a.map fun l : List Int => [D.sl (l.map fun n : Int => [cI n])])], [D.sl (b.map fun n : Int => [cI n])]] 0 ⟨da, db, hl⟩⟩
end
end Go.Proofs.YtcnkbdfkjhlbiaaDoor
namespace Go.Proofs.YtcnkbdfkjhlbiaaDoor
open Go.Sy Go.Deep
section
variable {H : Type} {enc : TypeId × Value → H} {P : Program} {W : World} {spare : Nat → Bool}
theorem one_of {x : D} {v : Value} {pl : Nat → Option Pl} (hc : v.cells.toList = [v]) (h : DRs W [x] v.cells.toList) : SR pl (fun B => ¬ False) W (.d x) v := by
  obtain ⟨_, hd⟩ := h
  have := hd 0 (by simp)
  rw [hc] at this
  exact SR.d _ _ (this.ext (Ext.weak fun _ _ _ h => h))
end
end Go.Proofs.YtcnkbdfkjhlbiaaDoor
namespace Go.Proofs.YtcnkbdfkjhlbiaaDoor
open Go.Sy
set_option maxRecDepth 8000
def Coding.runTo (c : Coding) (codes : List Int) : Nat → Option (List Int)
  | 0 => some [0, 0, 0]
  | n + 1 => match c.runTo codes n with
    | none => none
    | some es => if (c.next n es (codes.getD n 0)).2.2 then some (c.next n es (codes.getD n 0)).1.2 else none
theorem runTo_none {c : Coding} {codes : List Int} {k : Nat} (h : c.runTo codes k = none) : ∀ d, c.runTo codes (k + d) = none
  | 0 => h
  | d + 1 => by show c.runTo codes (k + d + 1) = none; rw [Coding.runTo, runTo_none h d]
def Coding.proves (c : Coding) (codes : List Int) : Bool := if c.check = 0 ∧ codes.length = c.cols ∧ codes.all isCode = true then (c.runTo codes codes.length).isSome else false
theorem prove_f {a : Int} {m n : Nat} {x : Bool} (h : ((a != 0) || ((m : Int) != (n : Int)) || !x) = false) : a = 0 ∧ m = n ∧ x = true := by
  simp only [Bool.or_eq_false_iff, bne_eq_false_iff_eq, Bool.not_eq_false'] at h
  exact ⟨h.1.1, by omega, h.2⟩
theorem prove_t {a : Int} {m n : Nat} {x : Bool} (h : ((a != 0) || ((m : Int) != (n : Int)) || !x) = true) : ¬ (a = 0 ∧ m = n ∧ x = true) := by
  rintro ⟨rfl, rfl, rfl⟩
  simp at h
abbrev tysW15_47 := And.intro ty.sz0 <| And.intro ty.agg0 <| And.intro ty.elem0 <| And.intro ty.sz3 <| And.intro ty.agg3 <| And.intro ty.elem3 <| And.intro ty.zero3 <| And.intro ty.und3 <| And.intro ty.sz4 <| And.intro ty.agg4 <| And.intro ty.elem4 <| And.intro ty.zero4 <| And.intro ty.und4 <| And.intro ty.sz31 <| And.intro ty.agg31 <| And.intro ty.elem31 <| And.intro ty.zero31 <| And.intro ty.und31 <| And.intro ty.sz39 <| And.intro ty.agg39 <| And.intro ty.elem39 <| And.intro ty.by39 <| And.intro ty.ez39 <| And.intro ty.zero39 <| And.intro ty.und39 <| And.intro ty.sz43 <| And.intro ty.agg43 <| And.intro ty.elem43 <| And.intro ty.by43 <| And.intro ty.ez43 <| And.intro ty.zero43 <| And.intro ty.und43 <| And.intro ty.sz59 <| And.intro ty.agg59 <| And.intro ty.fld59_0 <| And.intro ty.fld59_1 <| And.intro ty.elem59 <| And.intro ty.zero59 <| And.intro ty.pl59 <| And.intro ty.sz128 <| And.intro ty.agg128 <| And.intro ty.fld128_0 <| And.intro ty.fld128_1 <| And.intro ty.elem128 <| And.intro ty.zero128 <| And.intro ty.pl128 <| And.intro ty.sz130 <| And.intro ty.agg130 <| ty.elem130
theorem ProveSolution_c (c : Coding) (hs : c.codes.length < 4611686018427387904) (hw : c.wrong.length < 4611686018427387904) (codes : List Int) (hl : codes.length < 4611686018427387904) : CallP Tryd.prog G0 47 [c.s, SI codes] (B (c.proves codes)) := by
  refine CallP.body 47 [.tmp 4] Tryd.func47 (by kernel_rfl) rfl rfl rfl (by repeat' (first | exact Pure.d _ | exact Pure.dx _ | exact Pure.dp _ | exact fa_nil | refine fa_cons ?_ ?_ | refine Pure.agg ?_ | refine Pure.tup ?_ | refine Pure.clo ?_ ?_ | refine Pure.fp ?_ | exact Pure.mapd _ | assumption)) (by repeat' (first | exact Pure.d _ | exact Pure.dx _ | exact Pure.dp _ | exact fa_nil | refine fa_cons ?_ ?_ | refine Pure.agg ?_ | refine Pure.tup ?_ | refine Pure.clo ?_ ?_ | refine Pure.fp ?_ | exact Pure.mapd _ | assumption)) ?_
  refine Tr.reg [1, 2] (by
      simp only [↓sxd, sxu, ↓zE, ↓exq, St.keep, ↓zI, Nat.reduceBEq, Nat.reduceAdd, Nat.reduceLT, Nat.reduceEqDiff]
      (repeat' (first | rfl | exact trivial | exact fun h => h | exact fun h => (by rw [h]; rfl) | apply And.intro | omega | exact Nat.le_of_ble_eq_true rfl))) ?_
  refine Tr.seq ?_
  refine Tr.reg [1, 2, 28] (by
      simp only [↓sxd, sxu, ↓zE, ↓exq, St.keep, ↓zD, Nat.reduceBEq, Nat.reduceAdd, Nat.reduceLT, tysW15_47]
      (repeat ((with_reducible refine And.intro ?_ ?_); (focus (first | with_reducible rfl | trivial | exact fun h => h | exact fun h => (by rw [h]; rfl) | omega | assumption))))
      refine CallO.use (CheckCoding_c c hs hw) ?_
      try simp only [↓sxd, sxu, ↓zE, ↓exq, Nat.reduceLT]
      iterate 4
        (repeat ((with_reducible refine And.intro ?_ ?_); (focus (first | with_reducible rfl | trivial | exact fun h => h | exact fun h => (by rw [h]; rfl) | omega | assumption))))
        refine GdO.mk _ (fun hg => by simp only [sxu, ↓exq, ↓zB, ↓zJ, ↓zD, ↓zA, Nat.reduceBEq, Nat.reduceAdd, Nat.reduceLT, Nat.reduceEqDiff, sxe, tysW15_47, hg]; (repeat' (first | rfl | exact trivial | exact fun h => h | exact fun h => (by rw [h]; rfl) | apply And.intro | omega | exact Nat.le_of_ble_eq_true rfl))) ?_
        simp only [↓sxd, sxu, ↓zE, Nat.reduceBEq, Nat.reduceLT]
      (repeat ((with_reducible refine And.intro ?_ ?_); (focus (first | with_reducible rfl | trivial | exact fun h => h | exact fun h => (by rw [h]; rfl) | omega | assumption))))
      refine GdO.mk _ (fun hg => by
        have h0 : 0 < c.codes.length := (coding_ok (by simpa using hg)).2.1
        simp only [↓sxd, sxu, ↓exq, Int.reduceLE, sxe, tysW15_47, hg, h0]
        (repeat' (first | rfl | exact trivial | exact fun h => h | exact fun h => (by rw [h]; rfl) | apply And.intro | omega | exact Nat.le_of_ble_eq_true rfl))) ?_
      try simp only [↓sxd, sxu, ↓zE, Nat.reduceBEq, Nat.reduceLT]
      (repeat ((with_reducible refine And.intro ?_ ?_); (focus (first | with_reducible rfl | trivial | exact fun h => h | exact fun h => (by rw [h]; rfl) | omega | assumption))))
      refine GdO.mk _ (fun hg => by
        have h0 : 0 < c.codes.length := (coding_ok (by simpa using hg)).2.1
        simp only [sxu, ↓exq, ↓zD, Nat.reduceLT, tysW15_47, hg]
        (repeat' (first | rfl | exact trivial | exact fun h => h | exact fun h => (by rw [h]; rfl) | apply And.intro | omega | exact Nat.le_of_ble_eq_true rfl))) ?_
      try simp only [↓sxd, sxu, ↓zE, Nat.reduceBEq, Nat.reduceLT]
      iterate 3
        (repeat ((with_reducible refine And.intro ?_ ?_); (focus (first | with_reducible rfl | trivial | exact fun h => h | exact fun h => (by rw [h]; rfl) | omega | assumption))))
        refine GdO.mk _ (fun hg => by simp only [↓sxd, sxu, ↓exq, ↓zB, ↓zJ, Nat.reduceBEq, sxe, tysW15_47, hg]; (repeat' (first | rfl | exact trivial | exact fun h => h | exact fun h => (by rw [h]; rfl) | apply And.intro | omega | exact Nat.le_of_ble_eq_true rfl))) ?_
        simp only [↓sxd, sxu, ↓zE, ↓exq, ↓zH, Nat.reduceBEq, Nat.reduceLT]
      (repeat ((with_reducible refine And.intro ?_ ?_); (focus (first | with_reducible rfl | trivial | exact fun h => h | exact fun h => (by rw [h]; rfl) | omega | assumption))))
      refine GdO.mk _ (fun hg => by simp only [sxu, ↓exq, ↓zB, hg]; (repeat ((with_reducible refine And.intro ?_ ?_); (focus (first | with_reducible rfl | trivial | exact fun h => h | exact fun h => (by rw [h]; rfl) | omega | assumption)))); exact CallP.use (allI_c isCode codes hl 80 [] [] fa_nil fa_nil (fun x _ => code_c _ x)) ⟨rfl, rfl, rfl⟩) ?_
      simp only [↓sxd, sxu, ↓zE, Nat.reduceBEq, Nat.reduceLT]
      (repeat ((with_reducible refine And.intro ?_ ?_); (focus (first | with_reducible rfl | trivial | exact fun h => h | exact fun h => (by rw [h]; rfl) | omega | assumption))))
      refine GdO.mk _ (fun hg => by simp only [sxu, ↓exq, ↓zL, hg]; (repeat' (first | rfl | exact trivial | exact fun h => h | exact fun h => (by rw [h]; rfl) | apply And.intro | omega | exact Nat.le_of_ble_eq_true rfl))) ?_
      simp only [↓sxd, sxu, ↓zE, ↓exq, ↓zH, Nat.reduceBEq, Nat.reduceLT]
      (repeat' (first | rfl | exact trivial | exact fun h => h | exact fun h => (by rw [h]; rfl) | apply And.intro | omega | exact Nat.le_of_ble_eq_true rfl))) ?_
  refine Tr.cond rfl (fun h28 => ?_) (fun h28 => ?_)
  · have hf : c.proves codes = false := if_neg (fun hq => by have := prove_t h28; exact this hq)
    rw [hf]
    refine Tr.reg [4] (by
        simp only [↓sxd, sxu, ↓zE, ↓exq, St.keep, Nat.reduceLT]
        (repeat' (first | rfl | exact trivial | exact fun h => h | exact fun h => (by rw [h]; rfl) | apply And.intro | omega | exact Nat.le_of_ble_eq_true rfl))) ?_
    refine Tr.ret ?_
    (refine ⟨.inr rfl, ?_⟩; first | rfl | exact ⟨rfl, rfl, trivial⟩ | exact ⟨rfl, rfl, rfl, trivial⟩ | (simp only [Res, ResL, ResOK, ↓sxd, sxu, ↓zE, ↓zC, zK, ↓exP, ↓exq, ↓zB, St.keep, ↓zH, ↓zL, ↓zJ, ↓zD, ↓zN, ↓zM, ↓zI, ↓zA, Nat.reduceBEq, Nat.reduceAdd, Nat.reduceLT, Nat.reduceMul, Nat.reduceSub, Nat.reduceLeDiff, Nat.reduceEqDiff, Int.reduceLE, Int.reduceLT, Int.reduceToNat, reduceIte, implies_true, sxe, tysW15_47]; (repeat' (first | rfl | exact trivial | exact fun h => h | exact fun h => (by rw [h]; rfl) | apply And.intro | omega | exact Nat.le_of_ble_eq_true rfl))))
  · have hq : c.check = 0 ∧ codes.length = c.cols ∧ codes.all isCode = true := prove_f h28
    have hf : c.proves codes = (c.runTo codes codes.length).isSome := if_pos hq
    have ⟨hok, hn0, hc0⟩ := coding_ok hq.1
    refine Tr.skip ?_
    refine Tr.reg [1, 2, 5] (by
        simp only [↓sxd, sxu, ↓zE, ↓exq, St.keep, ↓zM, Nat.reduceBEq, Nat.reduceAdd, Nat.reduceLT, Nat.reduceEqDiff, tysW15_47]
        (repeat' (first | rfl | exact trivial | exact fun h => h | exact fun h => (by rw [h]; rfl) | apply And.intro | omega | exact Nat.le_of_ble_eq_true rfl))) ?_
    refine Tr.seq ?_
    refine Tr.reg [2, 5, 29, 30, 31] (by
        simp only [↓sxd, sxu, ↓zE, ↓exq, ↓zB, St.keep, ↓zJ, Nat.reduceBEq, Nat.reduceLT, sxe, tysW15_47]
        (repeat' (first | rfl | exact trivial | exact fun h => h | exact fun h => (by rw [h]; rfl) | apply And.intro | omega | exact Nat.le_of_ble_eq_true rfl))) ?_
    refine Tr.imp (st' := ⟨[(2, .ptr 0 0 0), (5, .ptr 1 0 0), (29, SI codes), (30, I codes.length), (31, I 0)], [(1, .arr 4 [sol 0 [0, 0, 0]]), (0, .arr 2 [[SL c.codes, SI c.wrong]])], 2, 47, [], 0⟩) (Imp.keepAll) (Tr.block (Tr.loopI (fun mm ss => ∃ (k : Nat) (e0 e1 e2 : Int), (k ≤ codes.length ∧ c.runTo codes k = some [e0, e1, e2]) ∧ codes.length - k = mm ∧ ss = ⟨[(2, .ptr 0 0 0), (5, .ptr 1 0 0), (29, SI codes), (30, I codes.length), (31, I k)], [(1, .arr 4 [sol k [e0, e1, e2]]), (0, .arr 2 [[SL c.codes, SI c.wrong]])], 2, 47, [], 0⟩) _ ⟨0, 0, 0, 0, ?_, rfl, rfl⟩ ?_))
    · exact ⟨Nat.zero_le _, rfl⟩
    rintro mm ss ⟨k, e0, e1, e2, hI, rfl, rfl⟩
    obtain ⟨hI, hrun⟩ := hI
    refine Tr.reg [2, 5, 29, 30, 31, 32] (by
        simp only [↓sxd, sxu, ↓zE, ↓exq, St.keep, Nat.reduceBEq, Nat.reduceLT, sxe]
        (repeat' (first | rfl | exact trivial | exact fun h => h | exact fun h => (by rw [h]; rfl) | apply And.intro | omega | exact Nat.le_of_ble_eq_true rfl))) ?_
    refine Tr.seq ?_
    refine Tr.cond rfl (fun h32 => ?_) (fun h32 => ?_)
    · have hlt : k < codes.length := by simpa using h32
      have hkc : k < c.cols := by omega
      obtain ⟨a0, a1, a2, hA⟩ := three (next_len c k [e0, e1, e2] rfl (codes.getD k 0))
      refine Tr.skip ?_
      refine Tr.seq ?_
      refine Tr.block ?_
      refine Tr.reg [2, 5, 7, 29, 30, 31] (by
          simp only [↓sxd, sxu, ↓zE, ↓exq, St.keep, ↓zD, Nat.reduceBEq, Nat.reduceLT, sxe, tysW15_47, hlt]
          (repeat' (first | rfl | exact trivial | exact fun h => h | exact fun h => (by rw [h]; rfl) | apply And.intro | omega | exact Nat.le_of_ble_eq_true rfl))) ?_
      refine Tr.reg [2, 5, 8, 10, 29, 30, 31] (by
          simp only [↓sxd, sxu, ↓zE, ↓exq, St.keep, ↓zD, Nat.reduceBEq, Nat.reduceAdd, Nat.reduceLT, tysW15_47]
          (repeat ((with_reducible refine And.intro ?_ ?_); (focus (first | with_reducible rfl | trivial | exact fun h => h | exact fun h => (by rw [h]; rfl) | omega | assumption))))
          refine CallO.use (next_c c hok k hkc e0 e1 e2 (codes.getD k 0)) ?_
          try simp only [↓sxd, sxu, ↓zE, ↓exq, ↓zN, ↓zM, Nat.reduceBEq, Nat.reduceAdd, Nat.reduceLT, Nat.reduceEqDiff, tysW15_47, hA]
          (repeat' (first | rfl | exact trivial | exact fun h => h | exact fun h => (by rw [h]; rfl) | apply And.intro | omega | exact Nat.le_of_ble_eq_true rfl))) ?_
      refine Tr.seq ?_
      refine Tr.reg [2, 5, 8, 29, 30, 31, 44] (by
          simp only [↓sxd, sxu, ↓zE, ↓exq, St.keep, ↓zL, Nat.reduceBEq, Nat.reduceLT]
          (repeat' (first | rfl | exact trivial | exact fun h => h | exact fun h => (by rw [h]; rfl) | apply And.intro | omega | exact Nat.le_of_ble_eq_true rfl))) ?_
      refine Tr.cond rfl (fun h44 => ?_) (fun h44 => ?_)
      · have hz : (c.next k [e0, e1, e2] (codes.getD k 0)).2.2 = false := by simpa using h44
        have hn1 : c.runTo codes (k + 1) = none := by rw [Coding.runTo, hrun]; simp only [hz]; rfl
        have hff : c.proves codes = false := by
          have := runTo_none hn1 (codes.length - (k + 1))
          rw [show k + 1 + (codes.length - (k + 1)) = codes.length by omega] at this
          rw [hf, this]; rfl
        rw [hff]
        refine Tr.reg [4] (by
            simp only [↓sxd, sxu, ↓zE, ↓exq, St.keep, Nat.reduceLT]
            (repeat' (first | rfl | exact trivial | exact fun h => h | exact fun h => (by rw [h]; rfl) | apply And.intro | omega | exact Nat.le_of_ble_eq_true rfl))) ?_
        refine Tr.ret ?_
        (refine ⟨.inr rfl, ?_⟩; first | rfl | exact ⟨rfl, rfl, trivial⟩ | exact ⟨rfl, rfl, rfl, trivial⟩ | (simp only [Res, ResL, ResOK, ↓sxd, sxu, ↓zE, ↓zC, zK, ↓exP, ↓exq, ↓zB, St.keep, ↓zH, ↓zL, ↓zJ, ↓zD, ↓zN, ↓zM, ↓zI, ↓zA, Nat.reduceBEq, Nat.reduceAdd, Nat.reduceLT, Nat.reduceMul, Nat.reduceSub, Nat.reduceLeDiff, Nat.reduceEqDiff, Int.reduceLE, Int.reduceLT, Int.reduceToNat, reduceIte, implies_true, sxe, tysW15_47]; (repeat' (first | rfl | exact trivial | exact fun h => h | exact fun h => (by rw [h]; rfl) | apply And.intro | omega | exact Nat.le_of_ble_eq_true rfl))))
      · have hz : (c.next k [e0, e1, e2] (codes.getD k 0)).2.2 = true := by simpa using h44
        have hn1 : c.runTo codes (k + 1) = some [a0, a1, a2] := by rw [Coding.runTo, hrun]; simp only [hz, if_true, hA]
        have hat := next_at c k [e0, e1, e2] (codes.getD k 0) hz
        rw [hat]
        refine Tr.skip ?_
        refine Tr.reg1 [2, 5, 29, 30, 31] (by
            simp only [↓sxd, sxu, ↓zE, ↓exq, St.keep, ↓zD, Nat.reduceBEq, Nat.reduceAdd, Nat.reduceLT, Nat.reduceEqDiff, tysW15_47]
            (repeat' (first | rfl | exact trivial | exact fun h => h | exact fun h => (by rw [h]; rfl) | apply And.intro | omega | exact Nat.le_of_ble_eq_true rfl))) ?_
        have w1 : IntKind.i64.wrap ((k : Int) + 1) = ((k + 1 : Nat) : Int) := by rw [wr (by omega) (by omega)]; rfl
        refine Tr.reg1 [2, 5, 29, 30, 31] (by
            simp only [↓sxd, sxu, ↓zE, ↓exq, St.keep, Nat.reduceBEq, Nat.reduceLT, w1]
            (repeat' (first | rfl | exact trivial | exact fun h => h | exact fun h => (by rw [h]; rfl) | apply And.intro | omega | exact Nat.le_of_ble_eq_true rfl))) ?_
        exact ⟨_, _, by omega, Imp.go (fun i => if i < 2 then i else i + 1) _ rfl rfl (.cons _ (.refl _)) (fun _ h => absurd h (Nat.not_lt_zero _)) (fun id h => by simp only [show ¬ id < 2 by omega, if_false]; omega) (by repeat' (first | exact TmT.cons rfl (TnS.d _) ?_ | exact trivial | exact F2.nil | refine F2.append ?_ ?_ | refine F2.map fun _ _ => ?_ | refine F2.cons ?_ ?_ | refine TmT.cons rfl ?_ ?_ | exact TnS.d _ | exact TnS.dx _ | exact TnS.dp _ | exact TnS.slc rfl | exact TnS.ptr rfl | refine TnS.frzf rfl (by simp) (by simp) (by simp) ?_ | refine TnS.frz0 rfl (by simp) (by simp) (by simp) ?_ | refine TnS.frzm rfl (by simp) ?_ | exact TnS.mapr rfl | exact TnS.yld rfl | refine ⟨rfl, ?_⟩ | refine TnO.arr ?_ | refine TnO.map ?_ | exact TnO.raw _ | exact TnO.iter _ _ | refine TnS.agg ?_ | refine TnS.tup ?_ | exact TnS.pure (Pure.clo (by assumption) (by assumption)) | refine TnS.clo ?_ ?_ | exact TnS.unk _ | exact TnS.pure (Pure.clo (by assumption) (by assumption)))) (by repeat' (first | exact TmT.cons rfl (TnS.d _) ?_ | exact trivial | exact F2.nil | refine F2.append ?_ ?_ | refine F2.map fun _ _ => ?_ | refine F2.cons ?_ ?_ | refine TmT.cons rfl ?_ ?_ | exact TnS.d _ | exact TnS.dx _ | exact TnS.dp _ | exact TnS.slc rfl | exact TnS.ptr rfl | refine TnS.frzf rfl (by simp) (by simp) (by simp) ?_ | refine TnS.frz0 rfl (by simp) (by simp) (by simp) ?_ | refine TnS.frzm rfl (by simp) ?_ | exact TnS.mapr rfl | exact TnS.yld rfl | refine ⟨rfl, ?_⟩ | refine TnO.arr ?_ | refine TnO.map ?_ | exact TnO.raw _ | exact TnO.iter _ _ | refine TnS.agg ?_ | refine TnS.tup ?_ | exact TnS.pure (Pure.clo (by assumption) (by assumption)) | refine TnS.clo ?_ ?_ | exact TnS.unk _ | exact TnS.pure (Pure.clo (by assumption) (by assumption)))) (fun _ => rfl), ⟨k + 1, a0, a1, a2, ⟨hlt, hn1⟩, rfl, rfl⟩⟩
    · have hge : k = codes.length := by simp at h32; omega
      have hff : c.proves codes = true := by rw [hf, ← hge, hrun]; rfl
      rw [hff]
      refine Tr.exit ?_
      refine Tr.reg [4] (by
          simp only [↓sxd, sxu, ↓zE, ↓exq, St.keep, Nat.reduceLT]
          (repeat' (first | rfl | exact trivial | exact fun h => h | exact fun h => (by rw [h]; rfl) | apply And.intro | omega | exact Nat.le_of_ble_eq_true rfl))) ?_
      refine Tr.ret ?_
      (refine ⟨.inr rfl, ?_⟩; first | rfl | exact ⟨rfl, rfl, trivial⟩ | exact ⟨rfl, rfl, rfl, trivial⟩ | (simp only [Res, ResL, ResOK, ↓sxd, sxu, ↓zE, ↓zC, zK, ↓exP, ↓exq, ↓zB, St.keep, ↓zH, ↓zL, ↓zJ, ↓zD, ↓zN, ↓zM, ↓zI, ↓zA, Nat.reduceBEq, Nat.reduceAdd, Nat.reduceLT, Nat.reduceMul, Nat.reduceSub, Nat.reduceLeDiff, Nat.reduceEqDiff, Int.reduceLE, Int.reduceLT, Int.reduceToNat, reduceIte, implies_true, sxe, tysW15_47]; (repeat' (first | rfl | exact trivial | exact fun h => h | exact fun h => (by rw [h]; rfl) | apply And.intro | omega | exact Nat.le_of_ble_eq_true rfl))))
end Go.Proofs.YtcnkbdfkjhlbiaaDoor
namespace Go.Sy
theorem exPick_and (a b : Bool) (K : SV → Prop) (h : K (.d (.lit (.bool (a && b))))) : zH (.d (.lit (.bool a))) (if a = true then .d (.lit (.bool b)) else .unk) (.d (.lit (.bool false))) K := by
  cases a <;> cases b <;> exact h
section
variable {P : Program} {G : Nat → Option (List D)}
theorem GdO.and {all : List Oper} {o : Oper} {os : List Oper} {st : St} {g : Bool} {K : St → Prop} {a b : Bool} (h : g = true → pickArgs o (fun x => gstrip (ev G st.tm x)) = some (.d (.lit (.bool a)), if a = true then .d (.lit (.bool b)) else .unk, .d (.lit (.bool false))))
    (k : xA P G all os ⟨putT o.dst (.whn g (.d (.lit (.bool (a && b))))) st.tm, st.hp, st.nx, st.nt, st.df, st.nb⟩ K) : GdO P G all o os st g K :=
  GdO.mk _ (fun hg => exq_pick (h hg) (exPick_and a b _ ⟨rfl, rfl, rfl⟩)) k
end
end Go.Sy
namespace Go.Proofs.YtcnkbdfkjhlbiaaDoor
open Go.Sy (aput)
set_option maxRecDepth 8000
def off (c : Coding) (k p : Nat) (x : Int) : Nat := if (c.codes.getD k []).getD p 0 ≠ x then 1 else 0
def errsAt (c : Coding) (k : Nat) : Nat → List Int → Nat
  | _, [] => 0
  | p, x :: w => off c k p x + errsAt c k (p + 1) w
def sumTo (f : Nat → Nat) : Nat → Nat
  | 0 => 0
  | n + 1 => sumTo f n + f n
def totAt (c : Coding) (p : Nat) (w : List Int) : Nat := sumTo (fun k => errsAt c k p w) c.codes.length
def addAt (c : Coding) (p : Nat) (x : Int) : Nat := sumTo (fun k => off c k p x) c.codes.length
structure Comp (c : Coding) (p : Nat) (es : List Int) (w : List Int) : Prop where
  len : p + w.length = c.cols
  cod : ∀ x ∈ w, 0 ≤ x ∧ x ≤ 9
  few : ∀ k, k < c.codes.length → es.getD k 0 + errsAt c k p w ≤ c.wrong.getD k 0
structure Es (c : Coding) (p : Nat) (es : List Int) : Prop where
  len : es.length = 3
  bd : ∀ k, 0 ≤ es.getD k 0 ∧ es.getD k 0 ≤ p
theorem off_le (c : Coding) (k p : Nat) (x : Int) : off c k p x ≤ 1 := by unfold off; split <;> omega
theorem setE_get {l : List Int} {i k : Nat} {v : Int} (h : i < l.length) : (l.set i v).getD k 0 = if k = i then v else l.getD k 0 := by
  rw [setI_get]
  by_cases hk : k = i
  · rw [if_pos ⟨hk, h⟩, if_pos hk]
  · rw [if_neg (fun hc => hk hc.1), if_neg hk]
theorem nextTo_law {c : Coding} (hc : CodingOk c) {p : Nat} (hp : p ≤ 10) {es : List Int} (he : Es c p es) (x : Int) : ∀ n, n ≤ c.codes.length →
    (∀ k, (c.nextTo p es x n).1.getD k 0 = es.getD k 0 + if k < n then (off c k p x : Int) else 0) ∧ (c.nextTo p es x n).2 = (sumTo (fun k => off c k p x) n : Nat)
  | 0, _ => ⟨fun k => by simp [Coding.nextTo], rfl⟩
  | n + 1, hn => by
    obtain ⟨h1, h2⟩ := nextTo_law hc hp he x n (by omega)
    have hl : (c.nextTo p es x n).1.length = 3 := (nextTo_len c p es x n).trans he.len
    have hn3 : n < 3 := by have := hc.n3; omega
    have hs : sumTo (fun k => off c k p x) n ≤ n := by
      have : ∀ m, sumTo (fun k => off c k p x) m ≤ m := by
        intro m
        induction m with
        | zero => exact Nat.le_refl _
        | succ m ih => have := off_le c m p x; simp only [sumTo]; omega
      exact this n
    have hb := he.bd n
    rw [nextTo_succ]
    unfold Coding.nextStep
    have hv := h1 n
    rw [if_neg (Nat.lt_irrefl n)] at hv
    by_cases ho : (c.codes.getD n []).getD p 0 ≠ x
    · have ho1 : off c n p x = 1 := if_pos ho
      rw [if_pos ho, wr_id (by omega) (by omega), wr_id (by omega) (by omega)]
      refine ⟨fun k => ?_, ?_⟩
      · rw [setE_get (by omega)]
        by_cases hk : k = n
        · subst hk; rw [if_pos rfl, if_pos (by omega), hv, ho1]; omega
        · rw [if_neg hk, h1 k]
          by_cases hkn : k < n
          · rw [if_pos hkn, if_pos (by omega)]
          · rw [if_neg hkn, if_neg (by omega)]
      · show _ + 1 = _
        rw [h2, sumTo, ho1]; omega
    · have ho0 : off c n p x = 0 := if_neg ho
      rw [if_neg ho]
      refine ⟨fun k => ?_, ?_⟩
      · rw [h1 k]
        by_cases hk : k = n
        · subst hk; rw [if_neg (Nat.lt_irrefl _), if_pos (by omega), ho0]; rfl
        · by_cases hkn : k < n
          · rw [if_pos hkn, if_pos (by omega)]
          · rw [if_neg hkn, if_neg (by omega)]
      · rw [h2, sumTo, ho0]; rfl
def esNext (c : Coding) (p : Nat) (es : List Int) (x : Int) : List Int := (c.nextTo p es x c.codes.length).1
def OkNext (c : Coding) (p : Nat) (es : List Int) (x : Int) : Prop := ∀ k, k < c.codes.length → es.getD k 0 + off c k p x ≤ c.wrong.getD k 0
instance (c : Coding) (p : Nat) (es : List Int) (x : Int) : Decidable (OkNext c p es x) := by unfold OkNext; infer_instance
theorem esNext_get {c : Coding} (hc : CodingOk c) {p : Nat} (hp : p ≤ 10) {es : List Int} (he : Es c p es) (x : Int) (k : Nat) : (esNext c p es x).getD k 0 = es.getD k 0 + if k < c.codes.length then (off c k p x : Int) else 0 :=
  (nextTo_law hc hp he x _ (Nat.le_refl _)).1 k
theorem Es.next {c : Coding} (hc : CodingOk c) {p : Nat} (hp : p ≤ 10) {es : List Int} (he : Es c p es) (x : Int) : Es c (p + 1) (esNext c p es x) := by
  refine ⟨(nextTo_len c p es x _).trans he.len, fun k => ?_⟩
  rw [esNext_get hc hp he x k]
  have := he.bd k
  have := off_le c k p x
  split <;> omega
theorem next_law {c : Coding} (hc : CodingOk c) {p : Nat} (hp : p ≤ 10) {es : List Int} (he : Es c p es) (x : Int) :
    c.next p es x = if OkNext c p es x then (((p : Int) + 1, esNext c p es x), (addAt c p x : Int), true) else ((0, [0, 0, 0]), 0, false) := by
  have hok : (List.range c.codes.length).all (c.nextOk p es x) = decide (OkNext c p es x) := by
    rw [Bool.eq_iff_iff, List.all_eq_true, decide_eq_true_eq]
    have key : ∀ k, k < c.codes.length → (c.nextOk p es x k = true ↔ es.getD k 0 + off c k p x ≤ c.wrong.getD k 0) := fun k hk => by
      unfold Coding.nextOk
      rw [decide_eq_true_eq, (nextTo_law hc hp he x (k + 1) hk).1 k, if_pos (by omega)]
    exact ⟨fun h k hk => (key k hk).1 (h k (List.mem_range.2 hk)), fun h k hk => (key k (List.mem_range.1 hk)).2 (h k (List.mem_range.1 hk))⟩
  unfold Coding.next
  rw [hok]
  by_cases h : OkNext c p es x
  · rw [if_pos h, if_pos (decide_eq_true h), (nextTo_law hc hp he x _ (Nat.le_refl _)).2]; rfl
  · rw [if_neg h, if_neg (by simpa using h)]
theorem comp_cons {c : Coding} (hc : CodingOk c) {p : Nat} (hp : p ≤ 10) {es : List Int} (he : Es c p es) {x : Int} {w : List Int} : Comp c p es (x :: w) ↔ (0 ≤ x ∧ x ≤ 9) ∧ OkNext c p es x ∧ Comp c (p + 1) (esNext c p es x) w := by
  constructor
  · rintro ⟨h1, h2, h3⟩
    refine ⟨h2 x List.mem_cons_self, fun k hk => ?_, ?_⟩
    · have := h3 k hk
      simp only [errsAt] at this; omega
    · refine ⟨by rw [List.length_cons] at h1; omega, fun y hy => h2 y (List.mem_cons_of_mem _ hy), fun k hk => ?_⟩
      have := h3 k hk
      simp only [errsAt] at this
      rw [esNext_get hc hp he x k, if_pos hk]; omega
  · rintro ⟨h1, h2, h3⟩
    refine ⟨by rw [List.length_cons]; have := h3.len; omega, fun y hy => ?_, fun k hk => ?_⟩
    · rcases List.mem_cons.1 hy with rfl | hy
      · exact h1
      · exact h3.cod y hy
    · have := h3.few k hk
      rw [esNext_get hc hp he x k, if_pos hk] at this
      simp only [errsAt]; omega
def IsBest (c : Coding) (p : Nat) (es : List Int) (n : Int) : Prop :=
  (n = -1 ∧ ∀ w, ¬ Comp c p es w) ∨ (∃ w, Comp c p es w ∧ n = totAt c p w ∧ ∀ w', Comp c p es w' → n ≤ totAt c p w')
structure MemOk (c : Coding) (m : Mem) : Prop where
  ok : ∀ p es n, p < c.cols → Es c p es → m.lookup (keyOf p es) = some n → IsBest c p es n
  shut : ∀ p es, p < c.cols → Es c p es → (m.lookup (keyOf p es)).isSome = true → ∀ x : Int, 0 ≤ x → x ≤ 9 → OkNext c p es x → p + 1 = c.cols ∨ (m.lookup (keyOf (p + 1) (esNext c p es x))).isSome = true
end Go.Proofs.YtcnkbdfkjhlbiaaDoor
namespace Go.Proofs.YtcnkbdfkjhlbiaaDoor
open Go.Sy (aput)
set_option maxRecDepth 8000
inductive Pre (c : Coding) : Nat → List Int → List Int → Prop
  | nil : Pre c 0 [] e000
  | snoc {p : Nat} {v es : List Int} {x : Int} (h : Pre c p v es) (h1 : 0 ≤ x ∧ x ≤ 9) (h2 : OkNext c p es x) : Pre c (p + 1) (v ++ [x]) (esNext c p es x)
structure CodingFine (c : Coding) : Prop where
  ok : CodingOk c
  n0 : 0 < c.codes.length
  c0 : 0 < c.cols
  wr : ∀ k, k < c.codes.length → 0 ≤ c.wrong.getD k 0 ∧ c.wrong.getD k 0 ≤ 10
  cd : ∀ k, k < c.codes.length → (c.codes.getD k []).all isCode = true
theorem coding_fine {c : Coding} (h : c.check = 0) : CodingFine c := by
  obtain ⟨h1, h2, h3⟩ := coding_ok h
  have hr : ∀ k, k < c.codes.length → c.row k = true := fun k hk => by
    unfold Coding.check at h
    split at h
    · cases h
    · split at h
      · cases h
      · split at h
        · rename_i g; exact List.all_eq_true.1 g k (List.mem_range.2 hk)
        · cases h
  refine ⟨h1, h2, h3, fun k hk => ?_, fun k hk => ?_⟩
  · have := hr k hk
    simp only [Coding.row, within, Bool.and_eq_true, decide_eq_true_eq] at this
    omega
  · have := hr k hk
    simp only [Coding.row, Bool.and_eq_true] at this
    exact this.1.2
theorem es000 (c : Coding) : Es c 0 e000 := ⟨rfl, fun k => by
  have : e000.getD k 0 = 0 := by
    match k with
    | 0 => rfl
    | 1 => rfl
    | 2 => rfl
    | k + 3 => rfl
  rw [this]; omega⟩
theorem e000_get (k : Nat) : e000.getD k 0 = 0 := by
  match k with
  | 0 => rfl
  | 1 => rfl
  | 2 => rfl
  | k + 3 => rfl
theorem Pre.es {c : Coding} (hf : CodingFine c) {p : Nat} {v es : List Int} (h : Pre c p v es) (hp : p ≤ c.cols) : Es c p es ∧ v.length = p := by
  induction h with
  | nil => exact ⟨es000 c, rfl⟩
  | @snoc p v es x h h1 h2 ih =>
    obtain ⟨a, b⟩ := ih (by omega)
    have := hf.ok.c10
    exact ⟨a.next hf.ok (by omega) x, by rw [List.length_append, b]; rfl⟩
theorem Pre.few {c : Coding} (hf : CodingFine c) {p : Nat} {v es : List Int} (h : Pre c p v es) (hp : p ≤ c.cols) : ∀ k, k < c.codes.length → es.getD k 0 ≤ c.wrong.getD k 0 := by
  intro k hk
  cases h with
  | nil => rw [e000_get]; exact (hf.wr k hk).1
  | @snoc p v es x h h1 h2 =>
    have he := (h.es hf (by omega)).1
    have := hf.ok.c10
    rw [esNext_get hf.ok (by omega) he, if_pos hk]
    exact h2 k hk
theorem comp_split {c : Coding} (hf : CodingFine c) : ∀ (n : Nat) (v w : List Int), v.length = n → n ≤ c.cols → (Comp c 0 e000 (v ++ w) ↔ ∃ es, Pre c n v es ∧ Comp c n es w) := by
  intro n
  induction n with
  | zero =>
    intro v w hv _
    obtain rfl := List.length_eq_zero_iff.1 hv
    constructor
    · intro h; exact ⟨_, .nil, h⟩
    · rintro ⟨es, h1, h2⟩
      cases h1 with
      | nil => exact h2
  | succ n ih =>
    intro v w hv hn
    have h10 := hf.ok.c10
    have hvne : v ≠ [] := fun hc => by rw [hc] at hv; cases hv
    obtain ⟨u, x, rfl⟩ : ∃ u x, v = u ++ [x] := ⟨v.dropLast, v.getLast hvne, (List.dropLast_concat_getLast hvne).symm⟩
    have hu : u.length = n := by simpa using hv
    rw [show u ++ [x] ++ w = u ++ (x :: w) by simp, ih u (x :: w) hu (by omega)]
    constructor
    · rintro ⟨es, h1, h2⟩
      have he := (h1.es hf (by omega)).1
      obtain ⟨a, b, d⟩ := (comp_cons hf.ok (by omega) he).1 h2
      exact ⟨_, .snoc h1 a b, d⟩
    · rintro ⟨es, h1, h2⟩
      generalize hz : u ++ [x] = z at h1
      generalize hm : n + 1 = m at h1
      cases h1 with
      | nil => cases hm
      | @snoc p v' es' y g1 g2 g3 =>
        obtain ⟨rfl, h3⟩ := List.append_inj' hz rfl
        simp only [List.cons.injEq, and_true] at h3
        subst h3
        have : p = n := by omega
        subst this
        have he := (g1.es hf (by omega)).1
        exact ⟨es', g1, (comp_cons hf.ok (by omega) he).2 ⟨g2, g3, by rw [← hm] at h2; exact h2⟩⟩
theorem runTo_law {c : Coding} (hf : CodingFine c) (v : List Int) (hv : v.length = c.cols) (hc : ∀ x ∈ v, 0 ≤ x ∧ x ≤ 9) : ∀ n, n ≤ c.cols → ((∃ es, c.runTo v n = some es ∧ Pre c n (v.take n) es) ∨ (c.runTo v n = none ∧ ¬ ∃ es, Pre c n (v.take n) es))
  | 0, _ => .inl ⟨e000, rfl, by simpa using Pre.nil⟩
  | n + 1, hn => by
    have h10 := hf.ok.c10
    have ht : v.take (n + 1) = v.take n ++ [v.getD n 0] := by
      rw [List.take_succ_eq_append_getElem (by omega)]
      simp [List.getD_eq_getElem?_getD, show n < v.length by omega]
    have hx := hc (v.getD n 0) (getD_mem (by omega))
    have hinv : ∀ es, Pre c (n + 1) (v.take (n + 1)) es → ∃ es', Pre c n (v.take n) es' ∧ OkNext c n es' (v.getD n 0) := fun es h => by
      rw [ht] at h
      generalize hz : v.take n ++ [v.getD n 0] = z at h
      generalize hm : n + 1 = m at h
      cases h with
      | nil => cases hm
      | @snoc p v' es' y g1 g2 g3 =>
        obtain ⟨h5, h6⟩ := List.append_inj' hz rfl
        simp only [List.cons.injEq, and_true] at h6
        have : p = n := by omega
        subst this
        subst h5
        exact ⟨es', g1, by rw [h6]; exact g3⟩
    have huniq : ∀ (m : Nat) (u a b : List Int), Pre c m u a → Pre c m u b → a = b := by
      intro m u a b ha
      induction ha generalizing b with
      | nil => intro hb; cases hb with | nil => rfl
      | @snoc p u es x h h1 h2 ih =>
        intro hb
        generalize hz : u ++ [x] = z at hb
        generalize hm : p + 1 = m at hb
        cases hb with
        | nil => cases hm
        | @snoc p' u' es' y g1 g2 g3 =>
          obtain ⟨h5, h6⟩ := List.append_inj' hz rfl
          simp only [List.cons.injEq, and_true] at h6
          have : p' = p := by omega
          subst this
          subst h5
          rw [ih es' g1, h6]
    rcases runTo_law hf v hv hc n (by omega) with ⟨es, h1, h2⟩ | ⟨h1, h2⟩
    · have he := (h2.es hf (by omega)).1
      have hnx := next_law hf.ok (show n ≤ 10 by omega) he (v.getD n 0)
      by_cases ho : OkNext c n es (v.getD n 0)
      · rw [if_pos ho] at hnx
        refine .inl ⟨esNext c n es (v.getD n 0), ?_, by rw [ht]; exact .snoc h2 hx ho⟩
        rw [Coding.runTo, h1]
        simp only [hnx, if_true]
      · rw [if_neg ho] at hnx
        refine .inr ⟨?_, fun ⟨es', h⟩ => ?_⟩
        · rw [Coding.runTo, h1]
          simp only [hnx, Bool.false_eq_true, if_false]
        · obtain ⟨es2, g1, g2⟩ := hinv es' h
          rw [huniq _ _ _ _ g1 h2] at g2
          exact ho g2
    · refine .inr ⟨by rw [Coding.runTo, h1], fun ⟨es', h⟩ => ?_⟩
      obtain ⟨es2, g1, _⟩ := hinv es' h
      exact h2 ⟨es2, g1⟩
theorem proves_law {c : Coding} {v : List Int} : c.proves v = true ↔ c.check = 0 ∧ Comp c 0 e000 v := by
  unfold Coding.proves
  by_cases h : c.check = 0 ∧ v.length = c.cols ∧ v.all isCode = true
  · rw [if_pos h]
    have hf := coding_fine h.1
    have hcd : ∀ x ∈ v, 0 ≤ x ∧ x ≤ 9 := fun x hx => by
      have := List.all_eq_true.1 h.2.2 x hx
      simpa [isCode] using this
    have hsp := comp_split hf c.cols v [] h.2.1 (Nat.le_refl _)
    rw [List.append_nil] at hsp
    have hrun := runTo_law hf v h.2.1 hcd c.cols (Nat.le_refl _)
    rw [List.take_of_length_le (by omega)] at hrun
    rw [h.2.1]
    rcases hrun with ⟨es, h1, h2⟩ | ⟨h1, h2⟩
    · rw [h1]
      refine ⟨fun _ => ⟨h.1, hsp.2 ⟨es, h2, by simp, fun x hx => (by cases hx), fun k hk => by simpa [errsAt] using h2.few hf (Nat.le_refl _) k hk⟩⟩, fun _ => rfl⟩
    · rw [h1]
      refine ⟨fun hc => (by cases hc), fun hc => ?_⟩
      obtain ⟨es, g1, _⟩ := hsp.1 hc.2
      exact absurd ⟨es, g1⟩ h2
  · rw [if_neg h]
    refine ⟨fun hc => (by cases hc), fun hc => absurd ⟨hc.1, by have := hc.2.len; omega, ?_⟩ h⟩
    rw [List.all_eq_true]
    intro x hx
    have := hc.2.cod x hx
    simpa [isCode] using this
end Go.Proofs.YtcnkbdfkjhlbiaaDoor
namespace Go.Proofs.YtcnkbdfkjhlbiaaDoor
open Go.Sy
set_option maxRecDepth 8000
theorem getD_memI {l : List (List Int)} {i : Nat} (h : i < l.length) : l.getD i [] ∈ l := getD_mem h
theorem allI_getD {p : Int → Bool} {l : List Int} (h : ∀ j, j < l.length → p (l.getD j 0) = true) : l.all p = true := by
  rw [List.all_eq_true]
  intro x hx
  obtain ⟨j, hj, rfl⟩ := List.getElem_of_mem hx
  have := h j hj
  rwa [show l.getD j 0 = l[j] by simp [List.getD_eq_getElem?_getD, hj]] at this
def shortB (l : List (List Int)) : Bool := decide (l.length ≤ 13) && l.all fun x => decide (x.length ≤ 13)
theorem short_iff {l : List (List Int)} : shortB l = true ↔ l.length ≤ 13 ∧ ∀ x ∈ l, x.length ≤ 13 := by
  simp [shortB]
abbrev tysW31_35 := And.intro ty.sz0 <| And.intro ty.agg0 <| And.intro ty.elem0 <| And.intro ty.sz3 <| And.intro ty.agg3 <| And.intro ty.elem3 <| And.intro ty.zero3 <| And.intro ty.und3 <| And.intro ty.sz4 <| And.intro ty.agg4 <| And.intro ty.elem4 <| And.intro ty.zero4 <| And.intro ty.und4 <| And.intro ty.sz39 <| And.intro ty.agg39 <| And.intro ty.elem39 <| And.intro ty.by39 <| And.intro ty.ez39 <| And.intro ty.zero39 <| And.intro ty.und39 <| And.intro ty.sz43 <| And.intro ty.agg43 <| And.intro ty.elem43 <| And.intro ty.by43 <| And.intro ty.ez43 <| And.intro ty.zero43 <| ty.und43
theorem short_c (l : List (List Int)) : CallP Tryd.prog G0 35 [SL l] (B (shortB l)) := by
  refine CallP.body 23 [.tmp 2] Tryd.func35 (by kernel_rfl) rfl rfl rfl (by repeat' (first | exact Pure.d _ | exact Pure.dx _ | exact Pure.dp _ | exact fa_nil | refine fa_cons ?_ ?_ | refine Pure.agg ?_ | refine Pure.tup ?_ | refine Pure.clo ?_ ?_ | refine Pure.fp ?_ | exact Pure.mapd _ | assumption)) (by repeat' (first | exact Pure.d _ | exact Pure.dx _ | exact Pure.dp _ | exact fa_nil | refine fa_cons ?_ ?_ | refine Pure.agg ?_ | refine Pure.tup ?_ | refine Pure.clo ?_ ?_ | refine Pure.fp ?_ | exact Pure.mapd _ | assumption)) ?_
  refine Tr.reg [0] (by
      simp only [↓sxd, sxu, ↓zE, ↓exq, St.keep, Nat.reduceBEq, Nat.reduceLT]
      (repeat' (first | rfl | exact trivial | exact fun h => h | exact fun h => (by rw [h]; rfl) | apply And.intro | omega | exact Nat.le_of_ble_eq_true rfl))) ?_
  refine Tr.seq ?_
  refine Tr.reg [0, 3] (by
      simp only [↓sxd, sxu, ↓zE, ↓exq, St.keep, Nat.reduceBEq, Nat.reduceLT]
      (repeat' (first | rfl | exact trivial | exact fun h => h | exact fun h => (by rw [h]; rfl) | apply And.intro | omega | exact Nat.le_of_ble_eq_true rfl))) ?_
  refine Tr.imp (st' := ⟨[(0, SL l), (3, I 0)], [], 0, 23, [], 0⟩) (Imp.keepAll) (Tr.block (Tr.loopI (fun mm ss => ∃ (i : Nat), (i ≤ l.length ∧ i ≤ 14 ∧ ∀ j, j < i → (l.getD j []).length ≤ 13) ∧ l.length - i = mm ∧ ss = ⟨[(0, SL l), (3, I i)], [], 0, 23, [], 0⟩) _ ⟨0, ?_, rfl, rfl⟩ ?_))
  · exact ⟨Nat.zero_le _, by omega, fun j hj => absurd hj (Nat.not_lt_zero _)⟩
  rintro mm ss ⟨i, hI, rfl, rfl⟩
  obtain ⟨hI, hi14, hall⟩ := hI
  refine Tr.seq ?_
  refine Tr.reg [0, 3, 11] (by
      simp only [↓sxd, sxu, ↓zE, ↓exq, ↓zB, St.keep, ↓zJ, Nat.reduceBEq, Nat.reduceLT, sxe, tysW31_35]
      iterate 2
        (repeat ((with_reducible refine And.intro ?_ ?_); (focus (first | with_reducible rfl | trivial | exact fun h => h | exact fun h => (by rw [h]; rfl) | omega | assumption))))
        refine GdO.mk _ (fun hg => by simp only [↓sxd, sxu, ↓exq, Nat.reduceBEq, hg]; (repeat' (first | rfl | exact trivial | exact fun h => h | exact fun h => (by rw [h]; rfl) | apply And.intro | omega | exact Nat.le_of_ble_eq_true rfl))) ?_
        simp only [↓sxd, sxu, ↓zE, ↓exq, ↓zH, Nat.reduceBEq, Nat.reduceLT]
      (repeat' (first | rfl | exact trivial | exact fun h => h | exact fun h => (by rw [h]; rfl) | apply And.intro | omega | exact Nat.le_of_ble_eq_true rfl))) ?_
  refine Tr.cond rfl (fun h11 => ?_) (fun h11 => ?_)
  · have hlt : i < l.length := by simp at h11; omega
    have hi13 : i < 14 := by simp at h11; omega
    refine Tr.skip ?_
    refine Tr.seq ?_
    refine Tr.block ?_
    refine Tr.reg [0, 3, 19] (by
        simp only [↓sxd, sxu, ↓zE, ↓exq, ↓zB, St.keep, ↓zJ, ↓zD, Nat.reduceBEq, Nat.reduceLT, sxe, tysW31_35, hlt]
        (repeat' (first | rfl | exact trivial | exact fun h => h | exact fun h => (by rw [h]; rfl) | apply And.intro | omega | exact Nat.le_of_ble_eq_true rfl))) ?_
    refine Tr.cond rfl (fun h19 => ?_) (fun h19 => ?_)
    · have hgt : 13 < (l.getD i []).length := by have := of_decide_eq_true h19; omega
      have hf : shortB l = false := by
        rw [← Bool.not_eq_true, short_iff]
        exact fun h => absurd (h.2 _ (getD_memI hlt)) (by omega)
      rw [hf]
      refine Tr.reg [2] (by
          simp only [↓sxd, sxu, ↓zE, ↓exq, St.keep, Nat.reduceLT]
          (repeat' (first | rfl | exact trivial | exact fun h => h | exact fun h => (by rw [h]; rfl) | apply And.intro | omega | exact Nat.le_of_ble_eq_true rfl))) ?_
      refine Tr.ret ?_
      (refine ⟨.inr rfl, ?_⟩; first | rfl | exact ⟨rfl, rfl, trivial⟩ | exact ⟨rfl, rfl, rfl, trivial⟩ | (simp only [Res, ResL, ResOK, ↓sxd, sxu, ↓zE, ↓zC, zK, ↓exP, ↓exq, ↓zB, St.keep, ↓zH, ↓zL, ↓zJ, ↓zD, Nat.reduceBEq, Nat.reduceAdd, Nat.reduceLT, Nat.reduceMul, Nat.reduceSub, Nat.reduceLeDiff, Nat.reduceEqDiff, Int.reduceLE, Int.reduceLT, Int.reduceToNat, reduceIte, implies_true, sxe, tysW31_35]; (repeat' (first | rfl | exact trivial | exact fun h => h | exact fun h => (by rw [h]; rfl) | apply And.intro | omega | exact Nat.le_of_ble_eq_true rfl))))
    · have hle : (l.getD i []).length ≤ 13 := by have := of_decide_eq_false h19; omega
      refine Tr.skip ?_
      have w1 : IntKind.i64.wrap ((i : Int) + 1) = ((i + 1 : Nat) : Int) := by rw [wr (by omega) (by omega)]; rfl
      refine Tr.reg1 [0, 3] (by
          simp only [↓sxd, sxu, ↓zE, ↓exq, St.keep, Nat.reduceBEq, Nat.reduceLT, w1]
          (repeat' (first | rfl | exact trivial | exact fun h => h | exact fun h => (by rw [h]; rfl) | apply And.intro | omega | exact Nat.le_of_ble_eq_true rfl))) ?_
      exact ⟨_, _, by omega, Imp.keepAll, ⟨i + 1, ⟨hlt, by omega, fun j hj => by
        by_cases hji : j = i
        · subst hji; exact hle
        · exact hall j (by omega)⟩, rfl, rfl⟩⟩
  · have hend : i = l.length ∨ i = 14 := by simp at h11; omega
    have hfin : shortB l = decide ((l.length : Int) ≤ 13) := by
      rw [Bool.eq_iff_iff, short_iff, decide_eq_true_eq]
      refine ⟨fun h => by omega, fun h => ⟨by omega, fun x hx => ?_⟩⟩
      obtain ⟨j, hj, rfl⟩ := List.getElem_of_mem hx
      have := hall j (by omega)
      simpa [List.getD_eq_getElem?_getD, hj] using this
    rw [hfin]
    refine Tr.exit ?_
    refine Tr.reg [2] (by
        simp only [↓sxd, sxu, ↓zE, ↓exq, ↓zB, St.keep, ↓zJ, Nat.reduceLT, sxe, tysW31_35]
        (repeat' (first | rfl | exact trivial | exact fun h => h | exact fun h => (by rw [h]; rfl) | apply And.intro | omega | exact Nat.le_of_ble_eq_true rfl))) ?_
    refine Tr.ret ?_
    (refine ⟨.inr rfl, ?_⟩; first | rfl | exact ⟨rfl, rfl, trivial⟩ | exact ⟨rfl, rfl, rfl, trivial⟩ | (simp only [Res, ResL, ResOK, ↓sxd, sxu, ↓zE, ↓zC, zK, ↓exP, ↓exq, ↓zB, St.keep, ↓zH, ↓zL, ↓zJ, ↓zD, Nat.reduceBEq, Nat.reduceAdd, Nat.reduceLT, Nat.reduceMul, Nat.reduceSub, Nat.reduceLeDiff, Nat.reduceEqDiff, Int.reduceLE, Int.reduceLT, Int.reduceToNat, reduceIte, implies_true, sxe, tysW31_35]; (repeat' (first | rfl | exact trivial | exact fun h => h | exact fun h => (by rw [h]; rfl) | apply And.intro | omega | exact Nat.le_of_ble_eq_true rfl))))
theorem cfault_three {c : Coding} {k : Nat} (hk : k < c.codes.length) (h : 10 < (c.codes.getD k []).length) : c.check = 3 := by
  unfold Coding.check
  rw [if_pos]
  rw [Bool.or_eq_true]
  right
  rw [Bool.not_eq_true', ← Bool.not_eq_true, List.all_eq_true]
  intro hc
  have := hc _ (getD_memI hk)
  rw [decide_eq_true_eq] at this
  omega
theorem cfault_row {c : Coding} (h : ¬ (decide ((c.codes.length : Int) > 3) || !(c.codes.all fun l => decide ((l.length : Int) ≤ 10))) = true) {k : Nat} (hk : k < c.codes.length) (hr : c.row k = false ∨ c.cols = 0) : c.check = 1 := by
  unfold Coding.check
  rw [if_neg h]
  split
  · rfl
  · rename_i h2
    rcases hr with hr | hr
    · rw [all_upto hk hr]; rfl
    · exact absurd (.inr (.inr hr)) h2
abbrev tysW31_36 := And.intro ty.sz0 <| And.intro ty.agg0 <| And.intro ty.elem0 <| And.intro ty.sz3 <| And.intro ty.agg3 <| And.intro ty.elem3 <| And.intro ty.zero3 <| And.intro ty.und3 <| And.intro ty.sz4 <| And.intro ty.agg4 <| And.intro ty.elem4 <| And.intro ty.zero4 <| And.intro ty.und4 <| And.intro ty.sz39 <| And.intro ty.agg39 <| And.intro ty.elem39 <| And.intro ty.by39 <| And.intro ty.ez39 <| And.intro ty.zero39 <| And.intro ty.und39 <| And.intro ty.sz43 <| And.intro ty.agg43 <| And.intro ty.elem43 <| And.intro ty.by43 <| And.intro ty.ez43 <| And.intro ty.zero43 <| And.intro ty.und43 <| And.intro ty.sz55 <| And.intro ty.agg55 <| And.intro ty.fld55_0 <| And.intro ty.fld55_1 <| And.intro ty.elem55 <| And.intro ty.zero55 <| ty.pl55
theorem CodingFault_c (c : Coding) (hs : c.codes.length < 4611686018427387904) (hw : c.wrong.length < 4611686018427387904) (hl : ∀ x ∈ c.codes, x.length < 4611686018427387904) : CallP Tryd.prog G0 36 [c.s] (I c.check) := by
  refine CallP.body 94 [.tmp 2] Tryd.func36 (by kernel_rfl) rfl rfl rfl (by repeat' (first | exact Pure.d _ | exact Pure.dx _ | exact Pure.dp _ | exact fa_nil | refine fa_cons ?_ ?_ | refine Pure.agg ?_ | refine Pure.tup ?_ | refine Pure.clo ?_ ?_ | refine Pure.fp ?_ | exact Pure.mapd _ | assumption)) (by repeat' (first | exact Pure.d _ | exact Pure.dx _ | exact Pure.dp _ | exact fa_nil | refine fa_cons ?_ ?_ | refine Pure.agg ?_ | refine Pure.tup ?_ | refine Pure.clo ?_ ?_ | refine Pure.fp ?_ | exact Pure.mapd _ | assumption)) ?_
  refine Tr.reg [1] (by
      simp only [↓sxd, sxu, ↓zE, ↓exq, St.keep, ↓zI, Nat.reduceBEq, Nat.reduceAdd, Nat.reduceLT, Nat.reduceEqDiff]
      (repeat' (first | rfl | exact trivial | exact fun h => h | exact fun h => (by rw [h]; rfl) | apply And.intro | omega | exact Nat.le_of_ble_eq_true rfl))) ?_
  refine Tr.seq ?_
  refine Tr.reg [1, 9] (by
      simp only [↓sxd, sxu, ↓zE, ↓exq, ↓zB, St.keep, ↓zJ, ↓zD, ↓zA, Nat.reduceBEq, Nat.reduceAdd, Nat.reduceLT, Nat.reduceEqDiff, sxe, tysW31_36]
      (repeat' (first | rfl | exact trivial | exact fun h => h | exact fun h => (by rw [h]; rfl) | apply And.intro | omega | exact Nat.le_of_ble_eq_true rfl))) ?_
  refine Tr.cond rfl (fun h9 => ?_) (fun h9 => ?_)
  · have hck : c.check = 3 := by
      unfold Coding.check
      rw [if_pos (by rw [Bool.or_eq_true]; exact .inl h9)]
    rw [hck]
    refine Tr.reg [2] (by
        simp only [↓sxd, sxu, ↓zE, ↓exq, St.keep, Nat.reduceLT]
        (repeat' (first | rfl | exact trivial | exact fun h => h | exact fun h => (by rw [h]; rfl) | apply And.intro | omega | exact Nat.le_of_ble_eq_true rfl))) ?_
    refine Tr.ret ?_
    (refine ⟨.inr rfl, ?_⟩; first | rfl | exact ⟨rfl, rfl, trivial⟩ | exact ⟨rfl, rfl, rfl, trivial⟩ | (simp only [Res, ResL, ResOK, ↓sxd, sxu, ↓zE, ↓zC, zK, ↓exP, ↓exq, ↓zB, St.keep, ↓zH, ↓zL, ↓zJ, ↓zD, ↓zI, ↓zA, Nat.reduceBEq, Nat.reduceAdd, Nat.reduceLT, Nat.reduceMul, Nat.reduceSub, Nat.reduceLeDiff, Nat.reduceEqDiff, Int.reduceLE, Int.reduceLT, Int.reduceToNat, reduceIte, implies_true, sxe, tysW31_36]; (repeat' (first | rfl | exact trivial | exact fun h => h | exact fun h => (by rw [h]; rfl) | apply And.intro | omega | exact Nat.le_of_ble_eq_true rfl))))
  · have hn3 : c.codes.length ≤ 3 := by simp at h9; omega
    refine Tr.skip ?_
    refine Tr.seq ?_
    refine Tr.reg [1, 3] (by
        simp only [↓sxd, sxu, ↓zE, ↓exq, St.keep, Nat.reduceBEq, Nat.reduceLT]
        (repeat' (first | rfl | exact trivial | exact fun h => h | exact fun h => (by rw [h]; rfl) | apply And.intro | omega | exact Nat.le_of_ble_eq_true rfl))) ?_
    refine Tr.imp (st' := ⟨[(1, .ptr 0 0 0), (3, I 0)], [(0, .arr 2 [[SL c.codes, SI c.wrong]])], 1, 94, [], 0⟩) (Imp.keepAll) (Tr.block (Tr.loopI (fun mm ss => ∃ (k : Nat), (k ≤ c.codes.length ∧ ∀ j, j < k → (c.codes.getD j []).length ≤ 10) ∧ c.codes.length - k = mm ∧ ss = ⟨[(1, .ptr 0 0 0), (3, I k)], [(0, .arr 2 [[SL c.codes, SI c.wrong]])], 1, 94, [], 0⟩) _ ⟨0, ?_, rfl, rfl⟩ ?_))
    · exact ⟨Nat.zero_le _, fun j hj => absurd hj (Nat.not_lt_zero _)⟩
    rintro mm ss ⟨k, hI, rfl, rfl⟩
    obtain ⟨hI, hall⟩ := hI
    refine Tr.seq ?_
    refine Tr.reg [1, 3, 14] (by
        simp only [↓sxd, sxu, ↓zE, ↓exq, ↓zB, St.keep, ↓zJ, ↓zD, ↓zA, Nat.reduceBEq, Nat.reduceAdd, Nat.reduceLT, Nat.reduceEqDiff, sxe, tysW31_36]
        (repeat' (first | rfl | exact trivial | exact fun h => h | exact fun h => (by rw [h]; rfl) | apply And.intro | omega | exact Nat.le_of_ble_eq_true rfl))) ?_
    refine Tr.cond rfl (fun h14 => ?_) (fun h14 => ?_)
    · have hlt : k < c.codes.length := by simpa using h14
      refine Tr.skip ?_
      refine Tr.seq ?_
      refine Tr.block ?_
      refine Tr.reg [1, 3, 23] (by
          simp only [↓sxd, sxu, ↓zE, ↓exq, ↓zB, St.keep, ↓zJ, ↓zD, ↓zA, Nat.reduceBEq, Nat.reduceAdd, Nat.reduceLT, Nat.reduceEqDiff, sxe, tysW31_36, hlt]
          (repeat' (first | rfl | exact trivial | exact fun h => h | exact fun h => (by rw [h]; rfl) | apply And.intro | omega | exact Nat.le_of_ble_eq_true rfl))) ?_
      refine Tr.cond rfl (fun h23 => ?_) (fun h23 => ?_)
      · have hck : c.check = 3 := cfault_three hlt (by have := of_decide_eq_true h23; omega)
        rw [hck]
        refine Tr.reg [2] (by
            simp only [↓sxd, sxu, ↓zE, ↓exq, St.keep, Nat.reduceLT]
            (repeat' (first | rfl | exact trivial | exact fun h => h | exact fun h => (by rw [h]; rfl) | apply And.intro | omega | exact Nat.le_of_ble_eq_true rfl))) ?_
        refine Tr.ret ?_
        (refine ⟨.inr rfl, ?_⟩; first | rfl | exact ⟨rfl, rfl, trivial⟩ | exact ⟨rfl, rfl, rfl, trivial⟩ | (simp only [Res, ResL, ResOK, ↓sxd, sxu, ↓zE, ↓zC, zK, ↓exP, ↓exq, ↓zB, St.keep, ↓zH, ↓zL, ↓zJ, ↓zD, ↓zI, ↓zA, Nat.reduceBEq, Nat.reduceAdd, Nat.reduceLT, Nat.reduceMul, Nat.reduceSub, Nat.reduceLeDiff, Nat.reduceEqDiff, Int.reduceLE, Int.reduceLT, Int.reduceToNat, reduceIte, implies_true, sxe, tysW31_36]; (repeat' (first | rfl | exact trivial | exact fun h => h | exact fun h => (by rw [h]; rfl) | apply And.intro | omega | exact Nat.le_of_ble_eq_true rfl))))
      · have hle : (c.codes.getD k []).length ≤ 10 := by have := of_decide_eq_false h23; omega
        refine Tr.skip ?_
        have w1 : IntKind.i64.wrap ((k : Int) + 1) = ((k + 1 : Nat) : Int) := by rw [wr (by omega) (by omega)]; rfl
        refine Tr.reg1 [1, 3] (by
            simp only [↓sxd, sxu, ↓zE, ↓exq, St.keep, Nat.reduceBEq, Nat.reduceLT, w1]
            (repeat' (first | rfl | exact trivial | exact fun h => h | exact fun h => (by rw [h]; rfl) | apply And.intro | omega | exact Nat.le_of_ble_eq_true rfl))) ?_
        exact ⟨_, _, by omega, Imp.keepAll, ⟨k + 1, ⟨hlt, fun j hj => by
          by_cases hji : j = k
          · subst hji; exact hle
          · exact hall j (by omega)⟩, rfl, rfl⟩⟩
    · have hge : k = c.codes.length := by simp at h14; omega
      have hz : ¬ (decide ((c.codes.length : Int) > 3) || !(c.codes.all fun l => decide ((l.length : Int) ≤ 10))) = true := by
        rw [Bool.or_eq_true, not_or]
        refine ⟨fun hc => by have := of_decide_eq_true hc; omega, ?_⟩
        rw [Bool.not_eq_true', Bool.not_eq_false, List.all_eq_true]
        intro x hx
        obtain ⟨j, hj, rfl⟩ := List.getElem_of_mem hx
        have := hall j (by omega)
        rw [decide_eq_true_eq]
        have e : c.codes.getD j [] = c.codes[j] := by simp [List.getD_eq_getElem?_getD, hj]
        rw [e] at this; omega
      refine Tr.exit ?_
      refine Tr.seq ?_
      refine Tr.reg [1, 36] (by
          simp only [↓sxd, sxu, ↓zE, ↓exq, ↓zB, St.keep, ↓zJ, ↓zD, ↓zA, Nat.reduceAdd, Nat.reduceLT, Nat.reduceEqDiff, sxe, tysW31_36]
          iterate 7
            (repeat ((with_reducible refine And.intro ?_ ?_); (focus (first | with_reducible rfl | trivial | exact fun h => h | exact fun h => (by rw [h]; rfl) | omega | assumption))))
            refine GdO.mk _ (fun hg => by simp only [↓sxd, sxu, ↓exq, ↓zB, ↓zJ, ↓zD, ↓zA, Nat.reduceBEq, Nat.reduceAdd, Nat.reduceLT, Nat.reduceEqDiff, sxe, tysW31_36, hg]; (repeat' (first | rfl | exact trivial | exact fun h => h | exact fun h => (by rw [h]; rfl) | apply And.intro | omega | exact Nat.le_of_ble_eq_true rfl))) ?_
            simp only [↓sxd, sxu, ↓zE, ↓exq, ↓zH, Nat.reduceBEq, Nat.reduceLT]
          (repeat' (first | rfl | exact trivial | exact fun h => h | exact fun h => (by rw [h]; rfl) | apply And.intro | omega | exact Nat.le_of_ble_eq_true rfl))) ?_
      refine Tr.cond rfl (fun h36 => ?_) (fun h36 => ?_)
      · have hck : c.check = 1 := by
          unfold Coding.check
          rw [if_neg hz, if_pos]
          simp only [Bool.or_eq_true, beq_iff_eq, bne_iff_ne, ne_eq] at h36
          omega
        rw [hck]
        refine Tr.reg [2] (by
            simp only [↓sxd, sxu, ↓zE, ↓exq, St.keep, Nat.reduceLT]
            (repeat' (first | rfl | exact trivial | exact fun h => h | exact fun h => (by rw [h]; rfl) | apply And.intro | omega | exact Nat.le_of_ble_eq_true rfl))) ?_
        refine Tr.ret ?_
        (refine ⟨.inr rfl, ?_⟩; first | rfl | exact ⟨rfl, rfl, trivial⟩ | exact ⟨rfl, rfl, rfl, trivial⟩ | (simp only [Res, ResL, ResOK, ↓sxd, sxu, ↓zE, ↓zC, zK, ↓exP, ↓exq, ↓zB, St.keep, ↓zH, ↓zL, ↓zJ, ↓zD, ↓zI, ↓zA, Nat.reduceBEq, Nat.reduceAdd, Nat.reduceLT, Nat.reduceMul, Nat.reduceSub, Nat.reduceLeDiff, Nat.reduceEqDiff, Int.reduceLE, Int.reduceLT, Int.reduceToNat, reduceIte, implies_true, sxe, tysW31_36]; (repeat' (first | rfl | exact trivial | exact fun h => h | exact fun h => (by rw [h]; rfl) | apply And.intro | omega | exact Nat.le_of_ble_eq_true rfl))))
      · have hn0 : c.codes.length ≠ 0 ∧ c.wrong.length = c.codes.length := by
          simp only [Bool.or_eq_false_iff, beq_eq_false_iff_ne, bne_eq_false_iff_eq, ne_eq] at h36
          omega
        have h0 : 0 < c.codes.length := by omega
        have hwl := hn0.2
        refine Tr.skip ?_
        refine Tr.seq ?_
        refine Tr.reg [1, 4] (by
            simp only [↓sxd, sxu, ↓zE, ↓exq, St.keep, Nat.reduceBEq, Nat.reduceLT]
            (repeat' (first | rfl | exact trivial | exact fun h => h | exact fun h => (by rw [h]; rfl) | apply And.intro | omega | exact Nat.le_of_ble_eq_true rfl))) ?_
        refine Tr.imp (st' := ⟨[(1, .ptr 0 0 0), (4, I 0)], [(0, .arr 2 [[SL c.codes, SI c.wrong]])], 1, 94, [], 0⟩) (Imp.keepAll) (Tr.block (Tr.loopI (fun mm ss => ∃ (k : Nat), (k ≤ c.codes.length ∧ ∀ j, j < k → c.row j = true ∧ c.cols ≠ 0) ∧ c.codes.length - k = mm ∧ ss = ⟨[(1, .ptr 0 0 0), (4, I k)], [(0, .arr 2 [[SL c.codes, SI c.wrong]])], 1, 94, [], 0⟩) _ ⟨0, ?_, rfl, rfl⟩ ?_))
        · exact ⟨Nat.zero_le _, fun j hj => absurd hj (Nat.not_lt_zero _)⟩
        rintro mm ss ⟨k, hI, rfl, rfl⟩
        obtain ⟨hI2, hrows⟩ := hI
        refine Tr.seq ?_
        refine Tr.reg [1, 4, 41] (by
            simp only [↓sxd, sxu, ↓zE, ↓exq, ↓zB, St.keep, ↓zJ, ↓zD, ↓zA, Nat.reduceBEq, Nat.reduceAdd, Nat.reduceLT, Nat.reduceEqDiff, sxe, tysW31_36]
            (repeat' (first | rfl | exact trivial | exact fun h => h | exact fun h => (by rw [h]; rfl) | apply And.intro | omega | exact Nat.le_of_ble_eq_true rfl))) ?_
        refine Tr.cond rfl (fun h41 => ?_) (fun h41 => ?_)
        · have hlt2 : k < c.codes.length := by simpa using h41
          have hlw : k < c.wrong.length := by omega
          have hll := hl _ (getD_memI hlt2)
          refine Tr.skip ?_
          refine Tr.seq ?_
          refine Tr.block ?_
          refine Tr.seq ?_
          refine Tr.regD [0, 1, 2, 3, 4, 5, 6, 7, 8, 9, 10, 11, 12, 13, 14, 15, 16, 17, 18, 19, 20, 21, 22, 23, 24, 25, 26, 27, 28, 29] [] [] [1, 4, 73] mix (by kernel_rfl) (by
              simp only [↓sxd, sxu, ↓zC, zK, ↓exq, ↓zB, St.keep, ↓zJ, ↓zD, ↓zA, Nat.reduceBEq, Nat.reduceAdd, Nat.reduceLT, Nat.reduceEqDiff, sxe, tysW31_36, hlt2]
              iterate 17
                (repeat ((with_reducible refine And.intro ?_ ?_); (focus (first | with_reducible rfl | trivial | exact fun h => h | exact fun h => (by rw [h]; rfl) | omega | assumption))))
                refine GdD.mk _ (fun hg => by simp only [↓sxd, sxu, ↓exP, ↓exq, ↓zB, ↓zJ, ↓zD, ↓zA, Nat.reduceBEq, Nat.reduceAdd, Nat.reduceLT, Nat.reduceEqDiff, Int.reduceLE, sxe, tysW31_36, hlt2, hlw, h0, hg]; (repeat' (first | rfl | exact trivial | exact fun h => h | exact fun h => (by rw [h]; rfl) | apply And.intro | omega | exact Nat.le_of_ble_eq_true rfl))) ?_
                simp only [↓sxd, sxu, ↓zC, zK, ↓exq, ↓zH, Nat.reduceBEq, Nat.reduceLT]
              (repeat ((with_reducible refine And.intro ?_ ?_); (focus (first | with_reducible rfl | trivial | exact fun h => h | exact fun h => (by rw [h]; rfl) | omega | assumption))))
              refine GdD.mk _ (fun hg => by simp only [sxu, ↓exP, hg]; first | exact In_c _ _ _ _ | exact ⟨In_c _ _ _ _, rfl, rfl⟩ | exact ⟨In_c _ _ _ _, trivial⟩ | exact ⟨In_c _ _ _ _, trivial, trivial⟩) ?_
              simp only [↓sxd, sxu, ↓zC, zK, Nat.reduceBEq, Nat.reduceLT]
              (repeat ((with_reducible refine And.intro ?_ ?_); (focus (first | with_reducible rfl | trivial | exact fun h => h | exact fun h => (by rw [h]; rfl) | omega | assumption))))
              refine GdD.mk _ (fun hg => by simp only [sxu, ↓exP, ↓exq, ↓zL, hg]; (repeat' (first | rfl | exact trivial | exact fun h => h | exact fun h => (by rw [h]; rfl) | apply And.intro | omega | exact Nat.le_of_ble_eq_true rfl))) ?_
              simp only [↓sxd, sxu, ↓zC, ↓exq, ↓zH, Nat.reduceBEq, Nat.reduceLT]
              (repeat' (first | rfl | exact trivial | exact fun h => h | exact fun h => (by rw [h]; rfl) | apply And.intro | omega | exact Nat.le_of_ble_eq_true rfl))) ?_
          refine Tr.cond rfl (fun h73 => ?_) (fun h73 => ?_)
          · have hck : c.check = 1 := cfault_row hz hlt2 (by
              have hh : _ := h73
              simp only [Bool.or_eq_true, beq_iff_eq, bne_iff_ne, ne_eq, Bool.not_eq_true'] at hh
              rcases hh with (hh | hh) | hh
              · by_cases hc0 : c.cols = 0
                · exact .inr hc0
                · left; unfold Coding.row; rw [decide_eq_false (by omega)]; rfl
              · left; unfold Coding.row Coding.cols; rw [decide_eq_false (by omega)]; rfl
              · left
                unfold Coding.row within
                rw [show (decide (0 ≤ c.wrong.getD k 0) && decide (c.wrong.getD k 0 ≤ 10)) = false from hh]
                simp)
            rw [hck]
            refine Tr.reg [2] (by
                simp only [↓sxd, sxu, ↓zE, ↓exq, St.keep, Nat.reduceLT]
                (repeat' (first | rfl | exact trivial | exact fun h => h | exact fun h => (by rw [h]; rfl) | apply And.intro | omega | exact Nat.le_of_ble_eq_true rfl))) ?_
            refine Tr.ret ?_
            (refine ⟨.inr rfl, ?_⟩; first | rfl | exact ⟨rfl, rfl, trivial⟩ | exact ⟨rfl, rfl, rfl, trivial⟩ | (simp only [Res, ResL, ResOK, ↓sxd, sxu, ↓zE, ↓zC, zK, ↓exP, ↓exq, ↓zB, St.keep, ↓zH, ↓zL, ↓zJ, ↓zD, ↓zI, ↓zA, Nat.reduceBEq, Nat.reduceAdd, Nat.reduceLT, Nat.reduceMul, Nat.reduceSub, Nat.reduceLeDiff, Nat.reduceEqDiff, Int.reduceLE, Int.reduceLT, Int.reduceToNat, reduceIte, implies_true, sxe, tysW31_36]; (repeat' (first | rfl | exact trivial | exact fun h => h | exact fun h => (by rw [h]; rfl) | apply And.intro | omega | exact Nat.le_of_ble_eq_true rfl))))
          · skip
            refine Tr.skip ?_
            refine Tr.reg [1, 4, 5] (by
                simp only [↓sxd, sxu, ↓zE, ↓exq, St.keep, Nat.reduceBEq, Nat.reduceLT]
                (repeat' (first | rfl | exact trivial | exact fun h => h | exact fun h => (by rw [h]; rfl) | apply And.intro | omega | exact Nat.le_of_ble_eq_true rfl))) ?_
            refine Tr.imp (st' := ⟨[(1, .ptr 0 0 0), (4, I k), (5, I 0)], [(0, .arr 2 [[SL c.codes, SI c.wrong]])], 1, 94, [], 0⟩) (Imp.keepAll) (Tr.block (Tr.loopI (fun mm ss => ∃ (i : Nat), (i ≤ (c.codes.getD k []).length ∧ ∀ j, j < i → isCode ((c.codes.getD k []).getD j 0) = true) ∧ (c.codes.getD k []).length - i = mm ∧ ss = ⟨[(1, .ptr 0 0 0), (4, I k), (5, I i)], [(0, .arr 2 [[SL c.codes, SI c.wrong]])], 1, 94, [], 0⟩) _ ⟨0, ?_, rfl, rfl⟩ ?_))
            · exact ⟨Nat.zero_le _, fun j hj => absurd hj (Nat.not_lt_zero _)⟩
            rintro mm ss ⟨i, hI, rfl, rfl⟩
            obtain ⟨hI3, hcd⟩ := hI
            refine Tr.seq ?_
            refine Tr.reg [1, 4, 5, 81] (by
                simp only [↓sxd, sxu, ↓zE, ↓exq, ↓zB, St.keep, ↓zJ, ↓zD, ↓zA, Nat.reduceBEq, Nat.reduceAdd, Nat.reduceLT, Nat.reduceEqDiff, sxe, tysW31_36, hlt2]
                (repeat' (first | rfl | exact trivial | exact fun h => h | exact fun h => (by rw [h]; rfl) | apply And.intro | omega | exact Nat.le_of_ble_eq_true rfl))) ?_
            refine Tr.cond rfl (fun h81 => ?_) (fun h81 => ?_)
            · have hlt3 : i < (c.codes.getD k []).length := by have := of_decide_eq_true h81; omega
              refine Tr.skip ?_
              refine Tr.seq ?_
              refine Tr.block ?_
              refine Tr.reg [1, 4, 5, 93] (by
                  simp only [↓sxd, sxu, ↓zE, ↓exq, St.keep, ↓zD, ↓zA, Nat.reduceBEq, Nat.reduceAdd, Nat.reduceLT, Nat.reduceEqDiff, sxe, tysW31_36, hlt2, hlt3]
                  (repeat ((with_reducible refine And.intro ?_ ?_); (focus (first | with_reducible rfl | trivial | exact fun h => h | exact fun h => (by rw [h]; rfl) | omega | assumption))))
                  refine CallO.use (In_c _ _ _ _) ?_
                  try simp only [↓sxd, sxu, ↓zE, ↓exq, ↓zL, Nat.reduceBEq, Nat.reduceLT]
                  (repeat' (first | rfl | exact trivial | exact fun h => h | exact fun h => (by rw [h]; rfl) | apply And.intro | omega | exact Nat.le_of_ble_eq_true rfl))) ?_
              refine Tr.cond rfl (fun h93 => ?_) (fun h93 => ?_)
              · have hck : c.check = 1 := cfault_row hz hlt2 (.inl (by
                  have hh : isCode ((c.codes.getD k []).getD i 0) = false := by simpa only [isCode, ge_iff_le, Bool.not_eq_true'] using h93
                  unfold Coding.row
                  have : (c.codes.getD k []).all isCode = false := by
                    rw [← Bool.not_eq_true, List.all_eq_true]
                    intro hc
                    rw [hc _ (getD_mem hlt3)] at hh; cases hh
                  rw [this]; simp))
                rw [hck]
                refine Tr.reg [2] (by
                    simp only [↓sxd, sxu, ↓zE, ↓exq, St.keep, Nat.reduceLT]
                    (repeat' (first | rfl | exact trivial | exact fun h => h | exact fun h => (by rw [h]; rfl) | apply And.intro | omega | exact Nat.le_of_ble_eq_true rfl))) ?_
                refine Tr.ret ?_
                (refine ⟨.inr rfl, ?_⟩; first | rfl | exact ⟨rfl, rfl, trivial⟩ | exact ⟨rfl, rfl, rfl, trivial⟩ | (simp only [Res, ResL, ResOK, ↓sxd, sxu, ↓zE, ↓zC, zK, ↓exP, ↓exq, ↓zB, St.keep, ↓zH, ↓zL, ↓zJ, ↓zD, ↓zI, ↓zA, Nat.reduceBEq, Nat.reduceAdd, Nat.reduceLT, Nat.reduceMul, Nat.reduceSub, Nat.reduceLeDiff, Nat.reduceEqDiff, Int.reduceLE, Int.reduceLT, Int.reduceToNat, reduceIte, implies_true, sxe, tysW31_36]; (repeat' (first | rfl | exact trivial | exact fun h => h | exact fun h => (by rw [h]; rfl) | apply And.intro | omega | exact Nat.le_of_ble_eq_true rfl))))
              · have hcode : isCode ((c.codes.getD k []).getD i 0) = true := by simpa only [isCode, ge_iff_le, Bool.not_eq_false'] using h93
                refine Tr.skip ?_
                have w2 : IntKind.i64.wrap ((i : Int) + 1) = ((i + 1 : Nat) : Int) := by rw [wr (by omega) (by omega)]; rfl
                refine Tr.reg1 [1, 4, 5] (by
                    simp only [↓sxd, sxu, ↓zE, ↓exq, St.keep, Nat.reduceBEq, Nat.reduceLT, w2]
                    (repeat' (first | rfl | exact trivial | exact fun h => h | exact fun h => (by rw [h]; rfl) | apply And.intro | omega | exact Nat.le_of_ble_eq_true rfl))) ?_
                exact ⟨_, _, by omega, Imp.keepAll, ⟨i + 1, ⟨hlt3, fun j hj => by
                  by_cases hji : j = i
                  · subst hji; exact hcode
                  · exact hcd j (by omega)⟩, rfl, rfl⟩⟩
            · have hge3 : i = (c.codes.getD k []).length := by have := of_decide_eq_false h81; omega
              have hrow : c.row k = true ∧ c.cols ≠ 0 := by
                have hh : _ := h73
                simp only [Bool.or_eq_false_iff, beq_eq_false_iff_ne, bne_eq_false_iff_eq, ne_eq, Bool.not_eq_false'] at hh
                refine ⟨?_, ?_⟩
                · unfold Coding.row Coding.cols within
                  rw [Bool.and_eq_true, Bool.and_eq_true, decide_eq_true_eq]
                  exact ⟨⟨by omega, allI_getD fun j hj => hcd j (by omega)⟩, hh.2⟩
                · unfold Coding.cols; omega
              refine Tr.exit ?_
              have w3 : IntKind.i64.wrap ((k : Int) + 1) = ((k + 1 : Nat) : Int) := by rw [wr (by omega) (by omega)]; rfl
              refine Tr.reg1 [1, 4] (by
                  simp only [↓sxd, sxu, ↓zE, ↓exq, St.keep, Nat.reduceBEq, Nat.reduceLT, w3]
                  (repeat' (first | rfl | exact trivial | exact fun h => h | exact fun h => (by rw [h]; rfl) | apply And.intro | omega | exact Nat.le_of_ble_eq_true rfl))) ?_
              exact ⟨_, _, by omega, Imp.keepAll, ⟨k + 1, ⟨hlt2, fun j hj => by
                by_cases hji : j = k
                · subst hji; exact hrow
                · exact hrows j (by omega)⟩, rfl, rfl⟩⟩
        · have hge2 : k = c.codes.length := by simp at h41; omega
          have hck : c.check = 0 := by
            unfold Coding.check
            rw [if_neg hz, if_neg, if_pos]
            · rw [List.all_eq_true]
              intro j hj
              exact (hrows j (by rw [hge2]; exact List.mem_range.1 hj)).1
            · have := (hrows 0 (by omega)).2
              omega
          rw [hck]
          refine Tr.exit ?_
          refine Tr.reg [2] (by
              simp only [↓sxd, sxu, ↓zE, ↓exq, St.keep, Nat.reduceLT]
              (repeat' (first | rfl | exact trivial | exact fun h => h | exact fun h => (by rw [h]; rfl) | apply And.intro | omega | exact Nat.le_of_ble_eq_true rfl))) ?_
          refine Tr.ret ?_
          (refine ⟨.inr rfl, ?_⟩; first | rfl | exact ⟨rfl, rfl, trivial⟩ | exact ⟨rfl, rfl, rfl, trivial⟩ | (simp only [Res, ResL, ResOK, ↓sxd, sxu, ↓zE, ↓zC, zK, ↓exP, ↓exq, ↓zB, St.keep, ↓zH, ↓zL, ↓zJ, ↓zD, ↓zI, ↓zA, Nat.reduceBEq, Nat.reduceAdd, Nat.reduceLT, Nat.reduceMul, Nat.reduceSub, Nat.reduceLeDiff, Nat.reduceEqDiff, Int.reduceLE, Int.reduceLT, Int.reduceToNat, reduceIte, implies_true, sxe, tysW31_36]; (repeat' (first | rfl | exact trivial | exact fun h => h | exact fun h => (by rw [h]; rfl) | apply And.intro | omega | exact Nat.le_of_ble_eq_true rfl))))
theorem errsAt_snoc (c : Coding) (k : Nat) (x : Int) : ∀ (u : List Int) (p : Nat), errsAt c k p (u ++ [x]) = errsAt c k p u + off c k (p + u.length) x
  | [], p => by simp [errsAt]
  | y :: u, p => by
    simp only [List.cons_append, errsAt, errsAt_snoc c k x u (p + 1), List.length_cons]
    rw [show p + 1 + u.length = p + (u.length + 1) by omega]; omega
theorem errsAt_take {c : Coding} {k i : Nat} {v : List Int} (h : i < v.length) : errsAt c k 0 (v.take (i + 1)) = errsAt c k 0 (v.take i) + off c k i (v.getD i 0) := by
  rw [List.take_succ_eq_append_getElem h, errsAt_snoc, List.length_take, Nat.min_eq_left (by omega), Nat.zero_add]
  simp [List.getD_eq_getElem?_getD, h]
theorem errsAt_le (c : Coding) (k : Nat) : ∀ (u : List Int) (p : Nat), errsAt c k p u ≤ u.length
  | [], p => Nat.le_refl _
  | y :: u, p => by
    have := off_le c k p y
    have := errsAt_le c k u (p + 1)
    simp only [errsAt, List.length_cons]; omega
abbrev tysW31_76 := And.intro ty.sz0 <| And.intro ty.agg0 <| And.intro ty.elem0 <| And.intro ty.sz3 <| And.intro ty.agg3 <| And.intro ty.elem3 <| And.intro ty.zero3 <| And.intro ty.und3 <| And.intro ty.sz4 <| And.intro ty.agg4 <| And.intro ty.elem4 <| And.intro ty.zero4 <| And.intro ty.und4 <| And.intro ty.sz39 <| And.intro ty.agg39 <| And.intro ty.elem39 <| And.intro ty.by39 <| And.intro ty.ez39 <| And.intro ty.zero39 <| And.intro ty.und39 <| And.intro ty.sz43 <| And.intro ty.agg43 <| And.intro ty.elem43 <| And.intro ty.by43 <| And.intro ty.ez43 <| And.intro ty.zero43 <| And.intro ty.und43 <| And.intro ty.sz55 <| And.intro ty.agg55 <| And.intro ty.fld55_0 <| And.intro ty.fld55_1 <| And.intro ty.elem55 <| And.intro ty.zero55 <| ty.pl55
theorem RErrors_c (c : Coding) (k : Nat) (v : List Int) (hk : k < c.codes.length) (hv : v.length ≤ (c.codes.getD k []).length) (hl : v.length ≤ 1000) : CallP Tryd.prog G0 76 [c.s, I k, SI v] (I (errsAt c k 0 v : Nat)) := by
  refine CallP.body 31 [.tmp 6] Tryd.func76 (by kernel_rfl) rfl rfl rfl (by repeat' (first | exact Pure.d _ | exact Pure.dx _ | exact Pure.dp _ | exact fa_nil | refine fa_cons ?_ ?_ | refine Pure.agg ?_ | refine Pure.tup ?_ | refine Pure.clo ?_ ?_ | refine Pure.fp ?_ | exact Pure.mapd _ | assumption)) (by repeat' (first | exact Pure.d _ | exact Pure.dx _ | exact Pure.dp _ | exact fa_nil | refine fa_cons ?_ ?_ | refine Pure.agg ?_ | refine Pure.tup ?_ | refine Pure.clo ?_ ?_ | refine Pure.fp ?_ | exact Pure.mapd _ | assumption)) ?_
  refine Tr.reg [1, 2, 3] (by
      simp only [↓sxd, sxu, ↓zE, ↓exq, St.keep, ↓zI, Nat.reduceBEq, Nat.reduceAdd, Nat.reduceLT, Nat.reduceEqDiff]
      (repeat' (first | rfl | exact trivial | exact fun h => h | exact fun h => (by rw [h]; rfl) | apply And.intro | omega | exact Nat.le_of_ble_eq_true rfl))) ?_
  refine Tr.reg [1, 2, 3, 7] (by
      simp only [↓sxd, sxu, ↓zE, ↓exq, St.keep, Nat.reduceBEq, Nat.reduceLT]
      (repeat' (first | rfl | exact trivial | exact fun h => h | exact fun h => (by rw [h]; rfl) | apply And.intro | omega | exact Nat.le_of_ble_eq_true rfl))) ?_
  refine Tr.seq ?_
  refine Tr.reg [1, 2, 3, 7, 8] (by
      simp only [↓sxd, sxu, ↓zE, ↓exq, St.keep, Nat.reduceBEq, Nat.reduceLT]
      (repeat' (first | rfl | exact trivial | exact fun h => h | exact fun h => (by rw [h]; rfl) | apply And.intro | omega | exact Nat.le_of_ble_eq_true rfl))) ?_
  refine Tr.imp (st' := ⟨[(1, I k), (2, SI v), (3, .ptr 0 0 0), (7, I (errsAt c k 0 (v.take 0) : Nat)), (8, I 0)], [(0, .arr 2 [[SL c.codes, SI c.wrong]])], 1, 31, [], 0⟩) (Imp.keepAll) (Tr.block (Tr.loopI (fun mm ss => ∃ (i : Nat), (i ≤ v.length) ∧ v.length - i = mm ∧ ss = ⟨[(1, I k), (2, SI v), (3, .ptr 0 0 0), (7, I (errsAt c k 0 (v.take i) : Nat)), (8, I i)], [(0, .arr 2 [[SL c.codes, SI c.wrong]])], 1, 31, [], 0⟩) _ ⟨0, ?_, rfl, rfl⟩ ?_))
  · (repeat' (first | rfl | exact trivial | exact fun h => h | exact fun h => (by rw [h]; rfl) | apply And.intro | omega | exact Nat.le_of_ble_eq_true rfl))
  rintro mm ss ⟨i, hI, rfl, rfl⟩
  refine Tr.seq ?_
  refine Tr.reg [1, 2, 3, 7, 8, 12] (by
      simp only [↓sxd, sxu, ↓zE, ↓exq, ↓zB, St.keep, ↓zJ, Nat.reduceBEq, Nat.reduceLT, sxe, tysW31_76]
      (repeat' (first | rfl | exact trivial | exact fun h => h | exact fun h => (by rw [h]; rfl) | apply And.intro | omega | exact Nat.le_of_ble_eq_true rfl))) ?_
  refine Tr.cond rfl (fun h12 => ?_) (fun h12 => ?_)
  · have hlt : i < v.length := by simpa using h12
    have hlc : i < (c.codes.getD k []).length := by omega
    have hle := errsAt_le c k (v.take i) 0
    have hle2 : (v.take i).length ≤ 1000 := by rw [List.length_take]; omega
    have htk := errsAt_take (c := c) (k := k) hlt
    refine Tr.skip ?_
    refine Tr.seq ?_
    refine Tr.block ?_
    refine Tr.regD [0, 1, 2, 3, 4, 5, 6, 7, 8, 9, 10, 11, 12] [] [] [1, 2, 3, 7, 8, 27] mix (by kernel_rfl) (by
        simp only [↓sxd, sxu, ↓zC, zK, ↓exq, St.keep, ↓zD, ↓zA, Nat.reduceBEq, Nat.reduceAdd, Nat.reduceLT, Nat.reduceEqDiff, sxe, tysW31_76, hk, hlt, hlc]
        (repeat' (first | rfl | exact trivial | exact fun h => h | exact fun h => (by rw [h]; rfl) | apply And.intro | omega | exact Nat.le_of_ble_eq_true rfl))) ?_
    refine Tr.cond rfl (fun h27 => ?_) (fun h27 => ?_)
    · have ho : off c k i (v.getD i 0) = 1 := if_pos (by simpa using h27)
      have w2 : IntKind.i64.wrap ((errsAt c k 0 (v.take i) : Int) + 1) = ((errsAt c k 0 (v.take i) + 1 : Nat) : Int) := by rw [wr (by omega) (by omega)]; rfl
      refine Tr.reg1 [1, 2, 3, 7, 8] (by
          simp only [↓sxd, sxu, ↓zE, ↓exq, St.keep, Nat.reduceBEq, Nat.reduceLT, w2]
          (repeat' (first | rfl | exact trivial | exact fun h => h | exact fun h => (by rw [h]; rfl) | apply And.intro | omega | exact Nat.le_of_ble_eq_true rfl))) ?_
      have w1 : IntKind.i64.wrap ((i : Int) + 1) = ((i + 1 : Nat) : Int) := by rw [wr (by omega) (by omega)]; rfl
      refine Tr.reg1 [1, 2, 3, 7, 8] (by
          simp only [↓sxd, sxu, ↓zE, ↓exq, St.keep, Nat.reduceBEq, Nat.reduceLT, w1]
          (repeat' (first | rfl | exact trivial | exact fun h => h | exact fun h => (by rw [h]; rfl) | apply And.intro | omega | exact Nat.le_of_ble_eq_true rfl))) ?_
      refine ⟨_, _, ?_, ?_, ⟨i + 1, hlt, rfl, rfl⟩⟩
      · omega
      · rw [htk, ho]
        exact Imp.keepAll
    · have ho : off c k i (v.getD i 0) = 0 := if_neg (by simpa using h27)
      refine Tr.skip ?_
      have w1 : IntKind.i64.wrap ((i : Int) + 1) = ((i + 1 : Nat) : Int) := by rw [wr (by omega) (by omega)]; rfl
      refine Tr.reg1 [1, 2, 3, 7, 8] (by
          simp only [↓sxd, sxu, ↓zE, ↓exq, St.keep, Nat.reduceBEq, Nat.reduceLT, w1]
          (repeat' (first | rfl | exact trivial | exact fun h => h | exact fun h => (by rw [h]; rfl) | apply And.intro | omega | exact Nat.le_of_ble_eq_true rfl))) ?_
      refine ⟨_, _, ?_, ?_, ⟨i + 1, hlt, rfl, rfl⟩⟩
      · omega
      · rw [htk, ho]
        exact Imp.keepAll
  · have hge : i = v.length := by simp at h12; omega
    subst hge
    rw [List.take_length]
    refine Tr.exit ?_
    refine Tr.reg [6] (by
        simp only [↓sxd, sxu, ↓zE, ↓exq, St.keep, Nat.reduceBEq, Nat.reduceLT]
        (repeat' (first | rfl | exact trivial | exact fun h => h | exact fun h => (by rw [h]; rfl) | apply And.intro | omega | exact Nat.le_of_ble_eq_true rfl))) ?_
    refine Tr.ret ?_
    (refine ⟨.inr rfl, ?_⟩; first | rfl | exact ⟨rfl, rfl, trivial⟩ | exact ⟨rfl, rfl, rfl, trivial⟩ | (simp only [Res, ResL, ResOK, ↓sxd, sxu, ↓zE, ↓zC, zK, ↓exP, ↓exq, ↓zB, St.keep, ↓zL, ↓zJ, ↓zD, ↓zI, ↓zA, Nat.reduceBEq, Nat.reduceAdd, Nat.reduceLT, Nat.reduceMul, Nat.reduceSub, Nat.reduceLeDiff, Nat.reduceEqDiff, Int.reduceLE, Int.reduceLT, Int.reduceToNat, reduceIte, implies_true, sxe, tysW31_76]; (repeat' (first | rfl | exact trivial | exact fun h => h | exact fun h => (by rw [h]; rfl) | apply And.intro | omega | exact Nat.le_of_ble_eq_true rfl))))
def Coding.isSol (c : Coding) (v : List Int) : Bool := decide (v.length = c.cols) && v.all isCode && (List.range c.codes.length).all fun k => decide ((errsAt c k 0 v : Int) ≤ c.wrong.getD k 0)
theorem isSol_iff {c : Coding} {v : List Int} : c.isSol v = true ↔ Comp c 0 e000 v := by
  unfold Coding.isSol
  simp only [Bool.and_eq_true, decide_eq_true_eq, List.all_eq_true, List.mem_range]
  constructor
  · rintro ⟨⟨h1, h2⟩, h3⟩
    refine ⟨by omega, fun x hx => by have := h2 x hx; simpa [isCode] using this, fun k hk => ?_⟩
    have := h3 k hk
    rw [e000_get]; omega
  · rintro ⟨h1, h2, h3⟩
    refine ⟨⟨by omega, fun x hx => by have := h2 x hx; simpa [isCode] using this⟩, fun k hk => ?_⟩
    have := h3 k hk
    rw [e000_get] at this; omega
abbrev tysW31_41 := And.intro ty.sz0 <| And.intro ty.agg0 <| And.intro ty.elem0 <| And.intro ty.sz3 <| And.intro ty.agg3 <| And.intro ty.elem3 <| And.intro ty.zero3 <| And.intro ty.und3 <| And.intro ty.sz4 <| And.intro ty.agg4 <| And.intro ty.elem4 <| And.intro ty.zero4 <| And.intro ty.und4 <| And.intro ty.sz39 <| And.intro ty.agg39 <| And.intro ty.elem39 <| And.intro ty.by39 <| And.intro ty.ez39 <| And.intro ty.zero39 <| And.intro ty.und39 <| And.intro ty.sz43 <| And.intro ty.agg43 <| And.intro ty.elem43 <| And.intro ty.by43 <| And.intro ty.ez43 <| And.intro ty.zero43 <| And.intro ty.und43 <| And.intro ty.sz55 <| And.intro ty.agg55 <| And.intro ty.fld55_0 <| And.intro ty.fld55_1 <| And.intro ty.elem55 <| And.intro ty.zero55 <| ty.pl55
theorem IsSolution_c (c : Coding) (h : CodingFine c) (v : List Int) (hl : v.length ≤ 1000) : CallP Tryd.prog G0 41 [c.s, SI v] (B (c.isSol v)) := by
  have hn0 := h.n0
  have hcols : (c.codes.getD 0 []).length = c.cols := rfl
  have hc10 := h.ok.c10
  have hn3 := h.ok.n3
  have hwl := h.ok.hw
  refine CallP.body 44 [.tmp 4] Tryd.func41 (by kernel_rfl) rfl rfl rfl (by repeat' (first | exact Pure.d _ | exact Pure.dx _ | exact Pure.dp _ | exact fa_nil | refine fa_cons ?_ ?_ | refine Pure.agg ?_ | refine Pure.tup ?_ | refine Pure.clo ?_ ?_ | refine Pure.fp ?_ | exact Pure.mapd _ | assumption)) (by repeat' (first | exact Pure.d _ | exact Pure.dx _ | exact Pure.dp _ | exact fa_nil | refine fa_cons ?_ ?_ | refine Pure.agg ?_ | refine Pure.tup ?_ | refine Pure.clo ?_ ?_ | refine Pure.fp ?_ | exact Pure.mapd _ | assumption)) ?_
  refine Tr.reg [1, 2] (by
      simp only [↓sxd, sxu, ↓zE, ↓exq, St.keep, ↓zI, Nat.reduceBEq, Nat.reduceAdd, Nat.reduceLT, Nat.reduceEqDiff]
      (repeat' (first | rfl | exact trivial | exact fun h => h | exact fun h => (by rw [h]; rfl) | apply And.intro | omega | exact Nat.le_of_ble_eq_true rfl))) ?_
  refine Tr.seq ?_
  refine Tr.reg [1, 2, 14] (by
      simp only [↓sxd, sxu, ↓zE, ↓exq, ↓zB, St.keep, ↓zJ, ↓zD, ↓zA, Nat.reduceBEq, Nat.reduceAdd, Nat.reduceLT, Nat.reduceEqDiff, Int.reduceLE, sxe, tysW31_41, hn0, hcols]
      (repeat' (first | rfl | exact trivial | exact fun h => h | exact fun h => (by rw [h]; rfl) | apply And.intro | omega | exact Nat.le_of_ble_eq_true rfl))) ?_
  refine Tr.cond rfl (fun h14 => ?_) (fun h14 => ?_)
  · have hne : v.length ≠ c.cols := by
      simp only [bne_iff_ne, ne_eq] at h14; omega
    have hf : c.isSol v = false := by unfold Coding.isSol; rw [decide_eq_false hne]; rfl
    rw [hf]
    refine Tr.reg [4] (by
        simp only [↓sxd, sxu, ↓zE, ↓exq, St.keep, Nat.reduceLT]
        (repeat' (first | rfl | exact trivial | exact fun h => h | exact fun h => (by rw [h]; rfl) | apply And.intro | omega | exact Nat.le_of_ble_eq_true rfl))) ?_
    refine Tr.ret ?_
    (refine ⟨.inr rfl, ?_⟩; first | rfl | exact ⟨rfl, rfl, trivial⟩ | exact ⟨rfl, rfl, rfl, trivial⟩ | (simp only [Res, ResL, ResOK, ↓sxd, sxu, ↓zE, ↓zC, zK, ↓exP, ↓exq, ↓zB, St.keep, ↓zL, ↓zJ, ↓zD, ↓zI, ↓zA, Nat.reduceBEq, Nat.reduceAdd, Nat.reduceLT, Nat.reduceMul, Nat.reduceSub, Nat.reduceLeDiff, Nat.reduceEqDiff, Int.reduceLE, Int.reduceLT, Int.reduceToNat, reduceIte, implies_true, sxe, tysW31_41]; (repeat' (first | rfl | exact trivial | exact fun h => h | exact fun h => (by rw [h]; rfl) | apply And.intro | omega | exact Nat.le_of_ble_eq_true rfl))))
  · have hlen : v.length = c.cols := by
      simp only [bne_eq_false_iff_eq] at h14; omega
    refine Tr.skip ?_
    refine Tr.seq ?_
    refine Tr.reg [1, 2, 5] (by
        simp only [↓sxd, sxu, ↓zE, ↓exq, St.keep, Nat.reduceBEq, Nat.reduceLT]
        (repeat' (first | rfl | exact trivial | exact fun h => h | exact fun h => (by rw [h]; rfl) | apply And.intro | omega | exact Nat.le_of_ble_eq_true rfl))) ?_
    refine Tr.imp (st' := ⟨[(1, SI v), (2, .ptr 0 0 0), (5, I 0)], [(0, .arr 2 [[SL c.codes, SI c.wrong]])], 1, 44, [], 0⟩) (Imp.keepAll) (Tr.block (Tr.loopI (fun mm ss => ∃ (i : Nat), (i ≤ v.length ∧ ∀ j, j < i → isCode (v.getD j 0) = true) ∧ v.length - i = mm ∧ ss = ⟨[(1, SI v), (2, .ptr 0 0 0), (5, I i)], [(0, .arr 2 [[SL c.codes, SI c.wrong]])], 1, 44, [], 0⟩) _ ⟨0, ?_, rfl, rfl⟩ ?_))
    · exact ⟨Nat.zero_le _, fun j hj => absurd hj (Nat.not_lt_zero _)⟩
    rintro mm ss ⟨i, hI, rfl, rfl⟩
    obtain ⟨hI, hcd⟩ := hI
    refine Tr.seq ?_
    refine Tr.reg [1, 2, 5, 18] (by
        simp only [↓sxd, sxu, ↓zE, ↓exq, ↓zB, St.keep, ↓zJ, Nat.reduceBEq, Nat.reduceLT, sxe, tysW31_41]
        (repeat' (first | rfl | exact trivial | exact fun h => h | exact fun h => (by rw [h]; rfl) | apply And.intro | omega | exact Nat.le_of_ble_eq_true rfl))) ?_
    refine Tr.cond rfl (fun h18 => ?_) (fun h18 => ?_)
    · have hlt : i < v.length := by simpa using h18
      refine Tr.skip ?_
      refine Tr.seq ?_
      refine Tr.block ?_
      refine Tr.reg [1, 2, 5, 26] (by
          simp only [↓sxd, sxu, ↓zE, ↓exq, St.keep, ↓zD, Nat.reduceBEq, Nat.reduceLT, sxe, tysW31_41, hlt]
          (repeat ((with_reducible refine And.intro ?_ ?_); (focus (first | with_reducible rfl | trivial | exact fun h => h | exact fun h => (by rw [h]; rfl) | omega | assumption))))
          refine CallO.use (In_c _ _ _ _) ?_
          try simp only [↓sxd, sxu, ↓zE, ↓exq, ↓zL, Nat.reduceBEq, Nat.reduceLT]
          (repeat' (first | rfl | exact trivial | exact fun h => h | exact fun h => (by rw [h]; rfl) | apply And.intro | omega | exact Nat.le_of_ble_eq_true rfl))) ?_
      refine Tr.cond rfl (fun h26 => ?_) (fun h26 => ?_)
      · have hf : c.isSol v = false := by
          have hh : isCode (v.getD i 0) = false := by simpa only [isCode, ge_iff_le, Bool.not_eq_true'] using h26
          have : v.all isCode = false := by
            rw [← Bool.not_eq_true, List.all_eq_true]
            intro hc
            rw [hc _ (getD_mem hlt)] at hh; cases hh
          unfold Coding.isSol
          rw [this]; simp
        rw [hf]
        refine Tr.reg [4] (by
            simp only [↓sxd, sxu, ↓zE, ↓exq, St.keep, Nat.reduceLT]
            (repeat' (first | rfl | exact trivial | exact fun h => h | exact fun h => (by rw [h]; rfl) | apply And.intro | omega | exact Nat.le_of_ble_eq_true rfl))) ?_
        refine Tr.ret ?_
        (refine ⟨.inr rfl, ?_⟩; first | rfl | exact ⟨rfl, rfl, trivial⟩ | exact ⟨rfl, rfl, rfl, trivial⟩ | (simp only [Res, ResL, ResOK, ↓sxd, sxu, ↓zE, ↓zC, zK, ↓exP, ↓exq, ↓zB, St.keep, ↓zL, ↓zJ, ↓zD, ↓zI, ↓zA, Nat.reduceBEq, Nat.reduceAdd, Nat.reduceLT, Nat.reduceMul, Nat.reduceSub, Nat.reduceLeDiff, Nat.reduceEqDiff, Int.reduceLE, Int.reduceLT, Int.reduceToNat, reduceIte, implies_true, sxe, tysW31_41]; (repeat' (first | rfl | exact trivial | exact fun h => h | exact fun h => (by rw [h]; rfl) | apply And.intro | omega | exact Nat.le_of_ble_eq_true rfl))))
      · have hcode : isCode (v.getD i 0) = true := by simpa only [isCode, ge_iff_le, Bool.not_eq_false'] using h26
        refine Tr.skip ?_
        have w1 : IntKind.i64.wrap ((i : Int) + 1) = ((i + 1 : Nat) : Int) := by rw [wr (by omega) (by omega)]; rfl
        refine Tr.reg1 [1, 2, 5] (by
            simp only [↓sxd, sxu, ↓zE, ↓exq, St.keep, Nat.reduceBEq, Nat.reduceLT, w1]
            (repeat' (first | rfl | exact trivial | exact fun h => h | exact fun h => (by rw [h]; rfl) | apply And.intro | omega | exact Nat.le_of_ble_eq_true rfl))) ?_
        exact ⟨_, _, by omega, Imp.keepAll, ⟨i + 1, ⟨hlt, fun j hj => by
          by_cases hji : j = i
          · subst hji; exact hcode
          · exact hcd j (by omega)⟩, rfl, rfl⟩⟩
    · have hge : i = v.length := by simp at h18; omega
      have hall : v.all isCode = true := allI_getD fun j hj => hcd j (by omega)
      refine Tr.exit ?_
      refine Tr.seq ?_
      refine Tr.reg [1, 2, 6] (by
          simp only [↓sxd, sxu, ↓zE, ↓exq, St.keep, Nat.reduceBEq, Nat.reduceLT]
          (repeat' (first | rfl | exact trivial | exact fun h => h | exact fun h => (by rw [h]; rfl) | apply And.intro | omega | exact Nat.le_of_ble_eq_true rfl))) ?_
      refine Tr.imp (st' := ⟨[(1, SI v), (2, .ptr 0 0 0), (6, I 0)], [(0, .arr 2 [[SL c.codes, SI c.wrong]])], 1, 44, [], 0⟩) (Imp.keepAll) (Tr.block (Tr.loopI (fun mm ss => ∃ (k : Nat), (k ≤ c.codes.length ∧ ∀ j, j < k → (errsAt c j 0 v : Int) ≤ c.wrong.getD j 0) ∧ c.codes.length - k = mm ∧ ss = ⟨[(1, SI v), (2, .ptr 0 0 0), (6, I k)], [(0, .arr 2 [[SL c.codes, SI c.wrong]])], 1, 44, [], 0⟩) _ ⟨0, ?_, rfl, rfl⟩ ?_))
      · exact ⟨Nat.zero_le _, fun j hj => absurd hj (Nat.not_lt_zero _)⟩
      rintro mm ss ⟨k, hI, rfl, rfl⟩
      obtain ⟨hI2, hfew⟩ := hI
      refine Tr.seq ?_
      refine Tr.reg [1, 2, 6, 31] (by
          simp only [↓sxd, sxu, ↓zE, ↓exq, ↓zB, St.keep, ↓zJ, ↓zD, ↓zA, Nat.reduceBEq, Nat.reduceAdd, Nat.reduceLT, Nat.reduceEqDiff, sxe, tysW31_41]
          (repeat' (first | rfl | exact trivial | exact fun h => h | exact fun h => (by rw [h]; rfl) | apply And.intro | omega | exact Nat.le_of_ble_eq_true rfl))) ?_
      refine Tr.cond rfl (fun h31 => ?_) (fun h31 => ?_)
      · have hlt2 : k < c.codes.length := by simpa using h31
        have hlw : k < c.wrong.length := by omega
        have hck := h.ok.cols k hlt2
        refine Tr.skip ?_
        refine Tr.seq ?_
        refine Tr.block ?_
        refine Tr.regD [0, 1, 2, 3, 4, 5, 6, 7, 8, 9] [] [] [1, 2, 6, 43] mix (by kernel_rfl) (by
            simp only [↓sxd, sxu, ↓zC, zK, ↓exq, St.keep, ↓zD, Nat.reduceBEq, Nat.reduceAdd, Nat.reduceLT, tysW31_41]
            (repeat ((with_reducible refine And.intro ?_ ?_); (focus (first | with_reducible rfl | trivial | exact fun h => h | exact fun h => (by rw [h]; rfl) | omega | assumption))))
            refine CallD.use (RErrors_c c k v hlt2 (by omega) hl) ?_
            try simp only [↓sxd, sxu, ↓zC, zK, ↓exq, ↓zD, ↓zA, Nat.reduceBEq, Nat.reduceAdd, Nat.reduceLT, Nat.reduceEqDiff, sxe, tysW31_41, hlw]
            (repeat' (first | rfl | exact trivial | exact fun h => h | exact fun h => (by rw [h]; rfl) | apply And.intro | omega | exact Nat.le_of_ble_eq_true rfl))) ?_
        refine Tr.cond rfl (fun h43 => ?_) (fun h43 => ?_)
        · have hf : c.isSol v = false := by
            unfold Coding.isSol
            rw [all_upto (p := fun k => decide ((errsAt c k 0 v : Int) ≤ c.wrong.getD k 0)) hlt2 (by simpa using h43)]
            simp
          rw [hf]
          refine Tr.reg [4] (by
              simp only [↓sxd, sxu, ↓zE, ↓exq, St.keep, Nat.reduceLT]
              (repeat' (first | rfl | exact trivial | exact fun h => h | exact fun h => (by rw [h]; rfl) | apply And.intro | omega | exact Nat.le_of_ble_eq_true rfl))) ?_
          refine Tr.ret ?_
          (refine ⟨.inr rfl, ?_⟩; first | rfl | exact ⟨rfl, rfl, trivial⟩ | exact ⟨rfl, rfl, rfl, trivial⟩ | (simp only [Res, ResL, ResOK, ↓sxd, sxu, ↓zE, ↓zC, zK, ↓exP, ↓exq, ↓zB, St.keep, ↓zL, ↓zJ, ↓zD, ↓zI, ↓zA, Nat.reduceBEq, Nat.reduceAdd, Nat.reduceLT, Nat.reduceMul, Nat.reduceSub, Nat.reduceLeDiff, Nat.reduceEqDiff, Int.reduceLE, Int.reduceLT, Int.reduceToNat, reduceIte, implies_true, sxe, tysW31_41]; (repeat' (first | rfl | exact trivial | exact fun h => h | exact fun h => (by rw [h]; rfl) | apply And.intro | omega | exact Nat.le_of_ble_eq_true rfl))))
        · have hle : (errsAt c k 0 v : Int) ≤ c.wrong.getD k 0 := by simpa using h43
          refine Tr.skip ?_
          have w2 : IntKind.i64.wrap ((k : Int) + 1) = ((k + 1 : Nat) : Int) := by rw [wr (by omega) (by omega)]; rfl
          refine Tr.reg1 [1, 2, 6] (by
              simp only [↓sxd, sxu, ↓zE, ↓exq, St.keep, Nat.reduceBEq, Nat.reduceLT, w2]
              (repeat' (first | rfl | exact trivial | exact fun h => h | exact fun h => (by rw [h]; rfl) | apply And.intro | omega | exact Nat.le_of_ble_eq_true rfl))) ?_
          exact ⟨_, _, by omega, Imp.keepAll, ⟨k + 1, ⟨hlt2, fun j hj => by
            by_cases hji : j = k
            · subst hji; exact hle
            · exact hfew j (by omega)⟩, rfl, rfl⟩⟩
      · have hge2 : k = c.codes.length := by simp at h31; omega
        have hf : c.isSol v = true := by
          unfold Coding.isSol
          rw [decide_eq_true hlen, hall, Bool.and_self, Bool.true_and, List.all_eq_true]
          intro j hj
          rw [decide_eq_true_eq]
          exact hfew j (by rw [hge2]; exact List.mem_range.1 hj)
        rw [hf]
        refine Tr.exit ?_
        refine Tr.reg [4] (by
            simp only [↓sxd, sxu, ↓zE, ↓exq, St.keep, Nat.reduceLT]
            (repeat' (first | rfl | exact trivial | exact fun h => h | exact fun h => (by rw [h]; rfl) | apply And.intro | omega | exact Nat.le_of_ble_eq_true rfl))) ?_
        refine Tr.ret ?_
        (refine ⟨.inr rfl, ?_⟩; first | rfl | exact ⟨rfl, rfl, trivial⟩ | exact ⟨rfl, rfl, rfl, trivial⟩ | (simp only [Res, ResL, ResOK, ↓sxd, sxu, ↓zE, ↓zC, zK, ↓exP, ↓exq, ↓zB, St.keep, ↓zL, ↓zJ, ↓zD, ↓zI, ↓zA, Nat.reduceBEq, Nat.reduceAdd, Nat.reduceLT, Nat.reduceMul, Nat.reduceSub, Nat.reduceLeDiff, Nat.reduceEqDiff, Int.reduceLE, Int.reduceLT, Int.reduceToNat, reduceIte, implies_true, sxe, tysW31_41]; (repeat' (first | rfl | exact trivial | exact fun h => h | exact fun h => (by rw [h]; rfl) | apply And.intro | omega | exact Nat.le_of_ble_eq_true rfl))))
abbrev uL (l : List (List Int)) : List (List SV) := l.map fun u => [SI u]
abbrev vI (v : List Int) : List (List SV) := v.map fun n => [I n]
theorem src_vI (v : List Int) : ((dI v).map fun e => e.map SV.d) = vI v := by simp [dI, vI]
theorem vI_all (v : List Int) : (∀ e ∈ vI v, e.length = 1 ∧ e.all SV.one = true) = True := by simp [SV.one]
theorem vI_fz {r : Nat → Nat} {hp hp' : HpT} (v : List Int) : F2 (F2 fun s x => TnS r hp hp' s (.d x)) (vI v) (dI v) := by
  rw [dI]; exact F2.map fun n _ => .cons (TnS.d _) .nil
theorem uL_fz {r : Nat → Nat} {hp hp' : HpT} (l : List (List Int)) : F2 (F2 fun s x => TnS r hp hp' s (.d x)) (uL l) (dL l) := by
  rw [dL]; exact F2.map fun n _ => .cons (TnS.d _) .nil
theorem uL_tn {r : Nat → Nat} {hp hp' : HpT} (l : List (List Int)) : F2 (F2 (TnS r hp hp')) (uL l) (uL l) := F2.map fun n _ => .cons (TnS.d _) .nil
theorem uL_take {l : List (List Int)} {k : Nat} (h : k < l.length) : uL (l.take (k + 1)) = uL (l.take k) ++ [[SI (l.getD k [])]] := by
  unfold uL
  rw [List.take_succ_eq_append_getElem h, List.map_append]
  simp [List.getD_eq_getElem?_getD, h]
end Go.Proofs.YtcnkbdfkjhlbiaaDoor
namespace Go.Proofs.YtcnkbdfkjhlbiaaDoor
open Go.Sy
set_option maxRecDepth 8000
abbrev tysW32_50 := And.intro ty.sz0 <| And.intro ty.agg0 <| And.intro ty.elem0 <| And.intro ty.sz3 <| And.intro ty.agg3 <| And.intro ty.elem3 <| And.intro ty.zero3 <| And.intro ty.und3 <| And.intro ty.sz4 <| And.intro ty.agg4 <| And.intro ty.elem4 <| And.intro ty.zero4 <| And.intro ty.und4 <| And.intro ty.sz39 <| And.intro ty.agg39 <| And.intro ty.elem39 <| And.intro ty.by39 <| And.intro ty.ez39 <| And.intro ty.zero39 <| And.intro ty.und39 <| And.intro ty.sz43 <| And.intro ty.agg43 <| And.intro ty.elem43 <| And.intro ty.by43 <| And.intro ty.ez43 <| And.intro ty.zero43 <| ty.und43
theorem rows_c (l : List (List Int)) (hl : l.length ≤ 1000) (hls : ∀ x ∈ l, x.length ≤ 1000) : CallP Tryd.prog G0 50 [SL l] (SL l) := by
  refine CallP.body 21 [.tmp 2] Tryd.func50 (by kernel_rfl) rfl rfl rfl (by repeat' (first | exact Pure.d _ | exact Pure.dx _ | exact Pure.dp _ | exact fa_nil | refine fa_cons ?_ ?_ | refine Pure.agg ?_ | refine Pure.tup ?_ | refine Pure.clo ?_ ?_ | refine Pure.fp ?_ | exact Pure.mapd _ | assumption)) (by repeat' (first | exact Pure.d _ | exact Pure.dx _ | exact Pure.dp _ | exact fa_nil | refine fa_cons ?_ ?_ | refine Pure.agg ?_ | refine Pure.tup ?_ | refine Pure.clo ?_ ?_ | refine Pure.fp ?_ | exact Pure.mapd _ | assumption)) ?_
  refine Tr.reg [0] (by
      simp only [↓sxd, sxu, ↓zE, ↓exq, St.keep, Nat.reduceBEq, Nat.reduceLT]
      (repeat' (first | rfl | exact trivial | exact fun h => h | exact fun h => (by rw [h]; rfl) | apply And.intro | omega | exact Nat.le_of_ble_eq_true rfl))) ?_
  refine Tr.reg [0, 3] (by
      simp only [↓sxd, sxu, ↓zE, ↓exq, St.keep, Nat.reduceBEq, Nat.reduceLT]
      (repeat' (first | rfl | exact trivial | exact fun h => h | exact fun h => (by rw [h]; rfl) | apply And.intro | omega | exact Nat.le_of_ble_eq_true rfl))) ?_
  refine Tr.seq ?_
  refine Tr.reg [0, 3, 4] (by
      simp only [↓sxd, sxu, ↓zE, ↓exq, St.keep, Nat.reduceBEq, Nat.reduceLT]
      (repeat' (first | rfl | exact trivial | exact fun h => h | exact fun h => (by rw [h]; rfl) | apply And.intro | omega | exact Nat.le_of_ble_eq_true rfl))) ?_
  refine Tr.imp (st' := ⟨[(0, SL l), (3, .slc 0 1 0 0 0), (4, I 0)], [(0, .arr 1 (uL (l.take 0)))], 1, 21, [], 0⟩) (Imp.goV 1 rfl rfl rfl rfl (by repeat' (first | exact trivial | exact F2.nil | refine F2.cons ?_ ?_ | refine TmV.cons rfl VnS.nil ?_ | refine TmV.cons rfl VnS.same ?_ | refine ⟨rfl, ?_⟩ | exact VnO.same _ | refine VnO.arr ?_ | exact VnS.nil | exact VnS.same | exact F2.refl fun _ _ => VnS.same)) (by repeat' (first | exact trivial | exact F2.nil | refine F2.cons ?_ ?_ | refine TmV.cons rfl VnS.nil ?_ | refine TmV.cons rfl VnS.same ?_ | refine ⟨rfl, ?_⟩ | exact VnO.same _ | refine VnO.arr ?_ | exact VnS.nil | exact VnS.same | exact F2.refl fun _ _ => VnS.same))) (Tr.block (Tr.loopI (fun mm ss => ∃ (k : Nat), (k ≤ l.length) ∧ l.length - k = mm ∧ ss = ⟨[(0, SL l), (3, .slc 0 1 0 k k), (4, I k)], [(0, .arr 1 (uL (l.take k)))], 1, 21, [], 0⟩) _ ⟨0, ?_, rfl, rfl⟩ ?_))
  · (repeat' (first | rfl | exact trivial | exact fun h => h | exact fun h => (by rw [h]; rfl) | apply And.intro | omega | exact Nat.le_of_ble_eq_true rfl))
  rintro mm ss ⟨k, hI, rfl, rfl⟩
  refine Tr.seq ?_
  refine Tr.reg [0, 3, 4, 8] (by
      simp only [↓sxd, sxu, ↓zE, ↓exq, ↓zB, St.keep, ↓zJ, Nat.reduceBEq, Nat.reduceLT, sxe, tysW32_50]
      (repeat' (first | rfl | exact trivial | exact fun h => h | exact fun h => (by rw [h]; rfl) | apply And.intro | omega | exact Nat.le_of_ble_eq_true rfl))) ?_
  refine Tr.cond rfl (fun h8 => ?_) (fun h8 => ?_)
  · have hlt : k < l.length := by simpa using h8
    have hx := hls _ (getD_memI hlt)
    have htl : (l.take k).length = k := by rw [List.length_take]; omega
    refine Tr.skip ?_
    refine Tr.seq ?_
    refine Tr.block ?_
    have hx2 : ((l.getD k []).length ≤ 1073741824) = True := eq_true (by omega)
    have hk2 : (k + 1 ≤ 1073741824) = True := by simp; omega
    refine Tr.reg1 [0, 3, 4] (by
        simp only [↓sxd, sxu, ↓zE, ↓exq, ↓zB, St.keep, ↓zD, ↓zG, ↓zQ, Nat.reduceBEq, Nat.reduceAdd, Nat.reduceLT, Nat.reduceLeDiff, Nat.reduceEqDiff, sxe, tysW32_50, hlt, src_vI, vI_all, hx2, hk2, htl]
        (repeat' (first | rfl | exact trivial | exact fun h => h | exact fun h => (by rw [h]; rfl) | apply And.intro | omega | exact Nat.le_of_ble_eq_true rfl))) ?_
    have w1 : IntKind.i64.wrap ((k : Int) + 1) = ((k + 1 : Nat) : Int) := by rw [wr (by omega) (by omega)]; rfl
    refine Tr.reg1 [0, 3, 4] (by
        simp only [↓sxd, sxu, ↓zE, ↓exq, St.keep, Nat.reduceBEq, Nat.reduceLT, w1]
        (repeat' (first | rfl | exact trivial | exact fun h => h | exact fun h => (by rw [h]; rfl) | apply And.intro | omega | exact Nat.le_of_ble_eq_true rfl))) ?_
    refine ⟨_, _, ?_, ?_, ⟨k + 1, hlt, rfl, rfl⟩⟩
    · omega
    · rw [uL_take hlt]
      exact Imp.go (fun i => i + 3) [(3, .arr 1 (uL (l.take k) ++ [[.slc 1 1 0 (l.getD k []).length (l.getD k []).length]]))] rfl rfl (.cons_cons _ (.cons _ (.cons _ .slnil))) (fun _ h => absurd h (Nat.not_lt_zero _)) (fun id h => Nat.add_le_add_right h 3) (by repeat' (first | exact TmT.cons rfl (TnS.d _) ?_ | exact trivial | exact F2.nil | refine F2.append ?_ ?_ | refine F2.map fun _ _ => ?_ | refine F2.cons ?_ ?_ | refine TmT.cons rfl ?_ ?_ | exact TnS.d _ | exact TnS.dx _ | exact TnS.dp _ | exact TnS.slc rfl | exact TnS.ptr rfl | refine TnS.frzf rfl (by simp) (by simp) (by simp) ?_ | refine TnS.frz0 rfl (by simp) (by simp) (by simp) ?_ | refine TnS.frzm rfl (by simp) ?_ | exact TnS.mapr rfl | exact TnS.yld rfl | refine ⟨rfl, ?_⟩ | refine TnO.arr ?_ | refine TnO.map ?_ | exact TnO.raw _ | exact TnO.iter _ _ | refine TnS.agg ?_ | refine TnS.tup ?_ | exact TnS.pure (Pure.clo (by assumption) (by assumption)) | refine TnS.clo ?_ ?_ | exact TnS.unk _ | exact TnS.pure (Pure.clo (by assumption) (by assumption)))) (.cons ⟨rfl, TnO.arr (F2.append (uL_tn _) (.cons (.cons (TnS.frz0 (id := 1) (sz := 1) (len := (l.getD k []).length) (es := vI (l.getD k [])) rfl (by simp) (by simp) (by simp) (vI_fz _)) .nil) .nil))⟩ .nil) (fun h => h)
  · have hge : k = l.length := by simp at h8; omega
    subst hge
    rw [List.take_length]
    refine Tr.exit ?_
    refine Tr.reg [2] (by
        simp only [↓sxd, sxu, ↓zE, ↓exq, St.keep, Nat.reduceBEq, Nat.reduceLT]
        (repeat' (first | rfl | exact trivial | exact fun h => h | exact fun h => (by rw [h]; rfl) | apply And.intro | omega | exact Nat.le_of_ble_eq_true rfl))) ?_
    refine Tr.imp (Imp.fin (tm' := [(2, SL l)]) ?_) ?_
    · exact .cons rfl (TnS.frz0 (es := uL l) rfl (by simp) (by simp) (by simp) (uL_fz _)) trivial
    refine Tr.ret ?_
    (refine ⟨.inr rfl, ?_⟩; first | rfl | exact ⟨rfl, rfl, trivial⟩ | exact ⟨rfl, rfl, rfl, trivial⟩ | (simp only [Res, ResL, ResOK, ↓sxd, sxu, ↓zE, ↓zC, zK, ↓exP, ↓exq, ↓zB, St.keep, ↓zL, ↓zJ, ↓zD, ↓zG, ↓zQ, Nat.reduceBEq, Nat.reduceAdd, Nat.reduceLT, Nat.reduceMul, Nat.reduceSub, Nat.reduceLeDiff, Nat.reduceEqDiff, Int.reduceLE, Int.reduceLT, Int.reduceToNat, reduceIte, implies_true, sxe, tysW32_50]; (repeat' (first | rfl | exact trivial | exact fun h => h | exact fun h => (by rw [h]; rfl) | apply And.intro | omega | exact Nat.le_of_ble_eq_true rfl))))
abbrev tysW32_38 := And.intro ty.sz0 <| And.intro ty.agg0 <| And.intro ty.elem0 <| And.intro ty.sz39 <| And.intro ty.agg39 <| And.intro ty.elem39 <| And.intro ty.by39 <| And.intro ty.ez39 <| And.intro ty.zero39 <| And.intro ty.und39 <| And.intro ty.sz43 <| And.intro ty.agg43 <| And.intro ty.elem43 <| And.intro ty.by43 <| And.intro ty.ez43 <| And.intro ty.zero43 <| And.intro ty.und43 <| And.intro ty.sz55 <| And.intro ty.agg55 <| And.intro ty.fld55_0 <| And.intro ty.fld55_1 <| And.intro ty.elem55 <| And.intro ty.zero55 <| And.intro ty.pl55 <| And.intro ty.sz59 <| And.intro ty.agg59 <| And.intro ty.fld59_0 <| And.intro ty.fld59_1 <| And.intro ty.elem59 <| And.intro ty.zero59 <| ty.pl59
theorem Coding_c (c : Coding) (hl : c.codes.length ≤ 1000) (hls : ∀ x ∈ c.codes, x.length ≤ 1000) (hw : c.wrong.length ≤ 1000) : CallP Tryd.prog G0 38 [c.s] c.s := by
  refine CallP.body 11 [.cell 2 59] Tryd.func38 (by kernel_rfl) rfl rfl rfl (by repeat' (first | exact Pure.d _ | exact Pure.dx _ | exact Pure.dp _ | exact fa_nil | refine fa_cons ?_ ?_ | refine Pure.agg ?_ | refine Pure.tup ?_ | refine Pure.clo ?_ ?_ | refine Pure.fp ?_ | exact Pure.mapd _ | assumption)) (by repeat' (first | exact Pure.d _ | exact Pure.dx _ | exact Pure.dp _ | exact fa_nil | refine fa_cons ?_ ?_ | refine Pure.agg ?_ | refine Pure.tup ?_ | refine Pure.clo ?_ ?_ | refine Pure.fp ?_ | exact Pure.mapd _ | assumption)) ?_
  refine Tr.reg [1, 2] (by
      simp only [↓sxd, sxu, ↓zE, ↓exq, St.keep, ↓zM, ↓zI, Nat.reduceBEq, Nat.reduceAdd, Nat.reduceLT, Nat.reduceEqDiff, tysW32_38]
      (repeat' (first | rfl | exact trivial | exact fun h => h | exact fun h => (by rw [h]; rfl) | apply And.intro | omega | exact Nat.le_of_ble_eq_true rfl))) ?_
  have hw2 : (c.wrong.length ≤ 1073741824) = True := by simp; omega
  refine Tr.regD [0, 1, 2, 3, 4, 5, 6, 7, 8] [6, 8] [] [2] mix (by kernel_rfl) (by
      simp only [↓sxd, sxu, ↓zC, zK, ↓exq, St.keep, ↓zD, ↓zA, Nat.reduceBEq, Nat.reduceAdd, Nat.reduceLT, Nat.reduceEqDiff, tysW32_38]
      (repeat ((with_reducible refine And.intro ?_ ?_); (focus (first | with_reducible rfl | trivial | exact fun h => h | exact fun h => (by rw [h]; rfl) | omega | assumption))))
      refine CallD.use (rows_c c.codes hl hls) ?_
      try simp only [↓sxd, sxu, ↓zC, zK, ↓exq, ↓zB, ↓zD, ↓zO, ↓zG, ↓zQ, ↓zA, Nat.reduceBEq, Nat.reduceAdd, Nat.reduceLT, Nat.reduceLeDiff, Nat.reduceEqDiff, tysW32_38, src_vI, vI_all, hw2]
      (repeat' (first | rfl | exact trivial | exact fun h => h | exact fun h => (by rw [h]; rfl) | apply And.intro | omega | exact Nat.le_of_ble_eq_true rfl))) ?_
  refine Tr.imp (st' := ⟨[(2, .ptr 1 0 0)], [(1, .arr 2 [[SL c.codes, SI c.wrong]])], _, _, [], _⟩) (Imp.go (fun i => i) [(1, _)] rfl rfl (.cons _ (.cons_cons _ (.cons _ .slnil))) (fun _ _ => rfl) (fun _ h => h) (by repeat' (first | exact TmT.cons rfl (TnS.d _) ?_ | exact trivial | exact F2.nil | refine F2.append ?_ ?_ | refine F2.map fun _ _ => ?_ | refine F2.cons ?_ ?_ | refine TmT.cons rfl ?_ ?_ | exact TnS.d _ | exact TnS.dx _ | exact TnS.dp _ | exact TnS.slc rfl | exact TnS.ptr rfl | refine TnS.frzf rfl (by simp) (by simp) (by simp) ?_ | refine TnS.frz0 rfl (by simp) (by simp) (by simp) ?_ | refine TnS.frzm rfl (by simp) ?_ | exact TnS.mapr rfl | exact TnS.yld rfl | refine ⟨rfl, ?_⟩ | refine TnO.arr ?_ | refine TnO.map ?_ | exact TnO.raw _ | exact TnO.iter _ _ | refine TnS.agg ?_ | refine TnS.tup ?_ | exact TnS.pure (Pure.clo (by assumption) (by assumption)) | refine TnS.clo ?_ ?_ | exact TnS.unk _ | exact TnS.pure (Pure.clo (by assumption) (by assumption)))) (.cons ⟨rfl, TnO.arr (.cons (.cons (TnS.d _) (.cons (TnS.frz0 (es := vI c.wrong) rfl (by simp) (by simp) (by simp) (vI_fz _)) .nil)) .nil)⟩ .nil) (fun _ => rfl)) ?_
  refine Tr.ret ?_
  (refine ⟨.inr rfl, ?_⟩; first | rfl | exact ⟨rfl, rfl, trivial⟩ | exact ⟨rfl, rfl, rfl, trivial⟩ | (simp only [Res, ResOK, sxu, ↓zD, Nat.reduceAdd, Nat.reduceLT, tysW32_38]; (repeat' (first | rfl | exact trivial | exact fun h => h | exact fun h => (by rw [h]; rfl) | apply And.intro | omega | exact Nat.le_of_ble_eq_true rfl))))
abbrev tysW32_10 := And.intro ty.sz0 <| And.intro ty.agg0 <| And.intro ty.elem0 <| And.intro ty.sz3 <| And.intro ty.agg3 <| And.intro ty.elem3 <| And.intro ty.zero3 <| And.intro ty.und3 <| And.intro ty.sz4 <| And.intro ty.agg4 <| And.intro ty.elem4 <| And.intro ty.zero4 <| And.intro ty.und4 <| And.intro ty.sz31 <| And.intro ty.agg31 <| And.intro ty.elem31 <| And.intro ty.zero31 <| And.intro ty.und31 <| And.intro ty.sz39 <| And.intro ty.agg39 <| And.intro ty.elem39 <| And.intro ty.by39 <| And.intro ty.ez39 <| And.intro ty.zero39 <| And.intro ty.und39 <| And.intro ty.sz43 <| And.intro ty.agg43 <| And.intro ty.elem43 <| And.intro ty.by43 <| And.intro ty.ez43 <| And.intro ty.zero43 <| And.intro ty.und43 <| And.intro ty.sz55 <| And.intro ty.agg55 <| And.intro ty.fld55_0 <| And.intro ty.fld55_1 <| And.intro ty.elem55 <| And.intro ty.zero55 <| And.intro ty.pl55 <| And.intro ty.sz59 <| And.intro ty.agg59 <| And.intro ty.fld59_0 <| And.intro ty.fld59_1 <| And.intro ty.elem59 <| And.intro ty.zero59 <| ty.pl59
set_option maxHeartbeats 4000000 in
theorem SheetSolves_c (c : Coding) (v : List Int) : CallP Tryd.prog G0 10 [c.s, SI v] (B true) := by
  refine CallP.body 58 [.tmp 4] Tryd.func10 (by kernel_rfl) rfl rfl rfl (by repeat' (first | exact Pure.d _ | exact Pure.dx _ | exact Pure.dp _ | exact fa_nil | refine fa_cons ?_ ?_ | refine Pure.agg ?_ | refine Pure.tup ?_ | refine Pure.clo ?_ ?_ | refine Pure.fp ?_ | exact Pure.mapd _ | assumption)) (by repeat' (first | exact Pure.d _ | exact Pure.dx _ | exact Pure.dp _ | exact fa_nil | refine fa_cons ?_ ?_ | refine Pure.agg ?_ | refine Pure.tup ?_ | refine Pure.clo ?_ ?_ | refine Pure.fp ?_ | exact Pure.mapd _ | assumption)) ?_
  refine Tr.reg [1, 2] (by
      simp only [↓sxd, sxu, ↓zE, ↓exq, St.keep, ↓zI, Nat.reduceBEq, Nat.reduceAdd, Nat.reduceLT, Nat.reduceEqDiff]
      (repeat' (first | rfl | exact trivial | exact fun h => h | exact fun h => (by rw [h]; rfl) | apply And.intro | omega | exact Nat.le_of_ble_eq_true rfl))) ?_
  refine Tr.seq ?_
  refine Tr.reg [1, 2, 28] (by
      simp only [↓sxd, sxu, ↓zE, ↓exq, ↓zB, St.keep, ↓zJ, ↓zD, ↓zA, Nat.reduceBEq, Nat.reduceAdd, Nat.reduceLT, Nat.reduceEqDiff, sxe, tysW32_10]
      iterate 2
        (repeat ((with_reducible refine And.intro ?_ ?_); (focus (first | with_reducible rfl | trivial | exact fun h => h | exact fun h => (by rw [h]; rfl) | omega | assumption))))
        refine GdO.mk _ (fun hg => by simp only [sxu, ↓exq, ↓zD, ↓zA, Nat.reduceBEq, Nat.reduceAdd, Nat.reduceLT, Nat.reduceEqDiff, tysW32_10, hg]; (repeat' (first | rfl | exact trivial | exact fun h => h | exact fun h => (by rw [h]; rfl) | apply And.intro | omega | exact Nat.le_of_ble_eq_true rfl))) ?_
        simp only [↓sxd, sxu, ↓zE, Nat.reduceBEq, Nat.reduceLT]
      (repeat ((with_reducible refine And.intro ?_ ?_); (focus (first | with_reducible rfl | trivial | exact fun h => h | exact fun h => (by rw [h]; rfl) | omega | assumption))))
      refine GdO.mk _ (fun hg => by simp only [sxu, ↓exq, ↓zB, hg]; (repeat ((with_reducible refine And.intro ?_ ?_); (focus (first | with_reducible rfl | trivial | exact fun h => h | exact fun h => (by rw [h]; rfl) | omega | assumption)))); exact CallP.use (short_c c.codes) ⟨rfl, rfl, rfl⟩) ?_
      simp only [↓sxd, sxu, ↓zE, Nat.reduceBEq, Nat.reduceLT]
      iterate 8
        (repeat ((with_reducible refine And.intro ?_ ?_); (focus (first | with_reducible rfl | trivial | exact fun h => h | exact fun h => (by rw [h]; rfl) | omega | assumption))))
        refine GdO.mk _ (fun hg => by simp only [↓sxd, sxu, ↓exq, ↓zB, ↓zL, ↓zJ, ↓zD, ↓zA, Nat.reduceBEq, Nat.reduceAdd, Nat.reduceLT, Nat.reduceEqDiff, sxe, tysW32_10, hg]; (repeat' (first | rfl | exact trivial | exact fun h => h | exact fun h => (by rw [h]; rfl) | apply And.intro | omega | exact Nat.le_of_ble_eq_true rfl))) ?_
        simp only [↓sxd, sxu, ↓zE, ↓exq, ↓zH, Nat.reduceBEq, Nat.reduceLT]
      (repeat' (first | rfl | exact trivial | exact fun h => h | exact fun h => (by rw [h]; rfl) | apply And.intro | omega | exact Nat.le_of_ble_eq_true rfl))) ?_
  refine Tr.cond rfl (fun h28 => ?_) (fun h28 => ?_)
  · refine Tr.reg [4] (by
        simp only [↓sxd, sxu, ↓zE, St.keep, Nat.reduceLT]
        (repeat ((with_reducible refine And.intro ?_ ?_); (focus (first | with_reducible rfl | trivial | exact fun h => h | exact fun h => (by rw [h]; rfl) | omega | assumption))))
        refine CallO.use (awake_c) ?_
        try simp only [↓sxd, sxu, ↓zE, ↓exq, Nat.reduceLT]
        (repeat' (first | rfl | exact trivial | exact fun h => h | exact fun h => (by rw [h]; rfl) | apply And.intro | omega | exact Nat.le_of_ble_eq_true rfl))) ?_
    refine Tr.ret ?_
    (refine ⟨.inr rfl, ?_⟩; first | rfl | exact ⟨rfl, rfl, trivial⟩ | exact ⟨rfl, rfl, rfl, trivial⟩ | (simp only [Res, ResL, ResOK, ↓sxd, sxu, ↓zE, ↓zC, zK, ↓exP, ↓exq, ↓zB, St.keep, ↓zH, ↓zL, ↓zJ, ↓zD, ↓zI, ↓zG, ↓zQ, ↓zA, Nat.reduceBEq, Nat.reduceAdd, Nat.reduceLT, Nat.reduceMul, Nat.reduceSub, Nat.reduceLeDiff, Nat.reduceEqDiff, Int.reduceLE, Int.reduceLT, Int.reduceToNat, reduceIte, implies_true, sxe, tysW32_10]; (repeat' (first | rfl | exact trivial | exact fun h => h | exact fun h => (by rw [h]; rfl) | apply And.intro | omega | exact Nat.le_of_ble_eq_true rfl))))
  · have hf : c.codes.length ≤ 5 ∧ shortB c.codes = true ∧ c.wrong.length ≤ 13 ∧ v.length ≤ 13 := by
      simp only [Bool.or_eq_false_iff, decide_eq_false_iff_not, Bool.not_eq_false'] at h28
      obtain ⟨⟨⟨a, b⟩, d⟩, e⟩ := h28
      exact ⟨by omega, b, by omega, by omega⟩
    obtain ⟨h1, h2, h3, h4⟩ := hf
    obtain ⟨_, h5⟩ := short_iff.1 h2
    refine Tr.skip ?_
    refine Tr.reg [1, 2, 5] (by
        simp only [↓sxd, sxu, ↓zE, ↓exq, St.keep, ↓zD, Nat.reduceBEq, Nat.reduceAdd, Nat.reduceLT, tysW32_10]
        (repeat ((with_reducible refine And.intro ?_ ?_); (focus (first | with_reducible rfl | trivial | exact fun h => h | exact fun h => (by rw [h]; rfl) | omega | assumption))))
        refine CallO.use (Coding_c c (by omega) (fun x hx => by have := h5 x hx; omega) (by omega)) ?_
        try simp only [↓sxd, sxu, ↓zE, Nat.reduceLT]
        (repeat ((with_reducible refine And.intro ?_ ?_); (focus (first | with_reducible rfl | trivial | exact fun h => h | exact fun h => (by rw [h]; rfl) | omega | assumption))))
        refine CallO.use (CheckCoding_c c (by omega) (by omega)) ?_
        try simp only [↓sxd, sxu, ↓zE, ↓exq, Nat.reduceBEq, Nat.reduceLT]
        (repeat' (first | rfl | exact trivial | exact fun h => h | exact fun h => (by rw [h]; rfl) | apply And.intro | omega | exact Nat.le_of_ble_eq_true rfl))) ?_
    have hv2 : (v.length ≤ 1073741824) = True := by simp; omega
    refine Tr.reg [1, 2, 5, 6] (by
        simp only [↓sxd, sxu, ↓zE, ↓exq, St.keep, ↓zD, Nat.reduceBEq, Nat.reduceAdd, Nat.reduceLT, tysW32_10]
        (repeat ((with_reducible refine And.intro ?_ ?_); (focus (first | with_reducible rfl | trivial | exact fun h => h | exact fun h => (by rw [h]; rfl) | omega | assumption))))
        refine CallO.use (Coding_c c (by omega) (fun x hx => by have := h5 x hx; omega) (by omega)) ?_
        try simp only [↓sxd, sxu, ↓zE, ↓exq, ↓zB, ↓zG, ↓zQ, Nat.reduceBEq, Nat.reduceAdd, Nat.reduceLT, Nat.reduceLeDiff, Nat.reduceEqDiff, tysW32_10, src_vI, vI_all, hv2]
        (repeat ((with_reducible refine And.intro ?_ ?_); (focus (first | with_reducible rfl | trivial | exact fun h => h | exact fun h => (by rw [h]; rfl) | omega | assumption))))
        refine CallO.useZ [(0, _)] (ProveSolution_c c (by omega) (by omega) v (by omega)) (.cons _ (.refl _)) (.cons (by repeat' (first | exact TmT.cons rfl (TnS.d _) ?_ | exact trivial | exact F2.nil | refine F2.append ?_ ?_ | refine F2.map fun _ _ => ?_ | refine F2.cons ?_ ?_ | refine TmT.cons rfl ?_ ?_ | exact TnS.d _ | exact TnS.dx _ | exact TnS.dp _ | exact TnS.slc rfl | exact TnS.ptr rfl | refine TnS.frzf rfl (by simp) (by simp) (by simp) ?_ | refine TnS.frz0 rfl (by simp) (by simp) (by simp) ?_ | refine TnS.frzm rfl (by simp) ?_ | exact TnS.mapr rfl | exact TnS.yld rfl | refine ⟨rfl, ?_⟩ | refine TnO.arr ?_ | refine TnO.map ?_ | exact TnO.raw _ | exact TnO.iter _ _ | refine TnS.agg ?_ | refine TnS.tup ?_ | exact TnS.pure (Pure.clo (by assumption) (by assumption)) | refine TnS.clo ?_ ?_ | exact TnS.unk _ | exact TnS.pure (Pure.clo (by assumption) (by assumption)))) (.cons (TnS.frz0 (es := vI v) rfl (by simp) (by simp) (by simp) (vI_fz _)) .nil)) ?_
        try simp only [↓sxd, sxu, ↓zE, ↓exq, Nat.reduceBEq, Nat.reduceLT]
        (repeat' (first | rfl | exact trivial | exact fun h => h | exact fun h => (by rw [h]; rfl) | apply And.intro | omega | exact Nat.le_of_ble_eq_true rfl))) ?_
    refine Tr.reg [1, 2, 5, 6, 7] (by
        simp only [↓sxd, sxu, ↓zE, ↓exq, St.keep, ↓zD, Nat.reduceBEq, Nat.reduceAdd, Nat.reduceLT, tysW32_10]
        (repeat ((with_reducible refine And.intro ?_ ?_); (focus (first | with_reducible rfl | trivial | exact fun h => h | exact fun h => (by rw [h]; rfl) | omega | assumption))))
        refine CallO.use (CodingFault_c c (by omega) (by omega) (fun x hx => by have := h5 x hx; omega)) ?_
        try simp only [↓sxd, sxu, ↓zE, ↓exq, Nat.reduceBEq, Nat.reduceLT]
        (repeat' (first | rfl | exact trivial | exact fun h => h | exact fun h => (by rw [h]; rfl) | apply And.intro | omega | exact Nat.le_of_ble_eq_true rfl))) ?_
    refine Tr.reg [4] (by
        simp only [↓sxd, sxu, ↓zE, ↓exq, St.keep, Nat.reduceBEq, Nat.reduceLT]
        iterate 6
          (repeat ((with_reducible refine And.intro ?_ ?_); (focus (first | with_reducible rfl | trivial | exact fun h => h | exact fun h => (by rw [h]; rfl) | omega | assumption))))
          refine GdO.mk _ (fun hg => by simp only [↓sxd, sxu, ↓exq, ↓zD, Nat.reduceBEq, Nat.reduceAdd, Nat.reduceLT, tysW32_10, hg]; (repeat' (first | rfl | exact trivial | exact fun h => h | exact fun h => (by rw [h]; rfl) | apply And.intro | omega | exact Nat.le_of_ble_eq_true rfl))) ?_
          simp only [↓sxd, sxu, ↓zE, Nat.reduceBEq, Nat.reduceLT]
        (repeat ((with_reducible refine And.intro ?_ ?_); (focus (first | with_reducible rfl | trivial | exact fun h => h | exact fun h => (by rw [h]; rfl) | omega | assumption))))
        refine GdO.mk (B (c.isSol v)) (fun hg => by
          have hk : c.check = 0 := by simpa using hg
          simp only [sxu, ↓exq, ↓zB, Nat.reduceBEq, hg]
          (repeat ((with_reducible refine And.intro ?_ ?_); (focus (first | with_reducible rfl | trivial | exact fun h => h | exact fun h => (by rw [h]; rfl) | omega | assumption))))
          exact CallP.use (IsSolution_c c (coding_fine hk) v (by omega)) ⟨rfl, rfl, rfl⟩) ?_
        try simp only [↓sxd, sxu, ↓zE, Nat.reduceBEq, Nat.reduceLT]
        (repeat ((with_reducible refine And.intro ?_ ?_); (focus (first | with_reducible rfl | trivial | exact fun h => h | exact fun h => (by rw [h]; rfl) | omega | assumption))))
        first | refine GdO.and (fun hg => by simp only [sxu, Nat.reduceBEq, pickArgs]; (repeat' (first | rfl | exact trivial | exact fun h => h | exact fun h => (by rw [h]; rfl) | apply And.intro | omega | exact Nat.le_of_ble_eq_true rfl))) ?_ | refine GdO.mk _ (fun hg => by simp only [↓sxd, sxu, ↓zE, ↓zC, zK, ↓exP, ↓exq, ↓zB, St.keep, ↓zH, ↓zL, ↓zJ, ↓zD, ↓zI, ↓zG, ↓zQ, ↓zA, Nat.reduceBEq, Nat.reduceAdd, Nat.reduceLT, Nat.reduceMul, Nat.reduceSub, Nat.reduceLeDiff, Nat.reduceEqDiff, Int.reduceLE, Int.reduceLT, Int.reduceToNat, reduceIte, implies_true, sxe, tysW32_10, hg, if_true]; (repeat' (first | rfl | exact trivial | exact fun h => h | exact fun h => (by rw [h]; rfl) | apply And.intro | omega | exact Nat.le_of_ble_eq_true rfl))) ?_
        simp only [↓sxd, sxu, ↓zE, Nat.reduceBEq, Nat.reduceLT]
        (repeat ((with_reducible refine And.intro ?_ ?_); (focus (first | with_reducible rfl | trivial | exact fun h => h | exact fun h => (by rw [h]; rfl) | omega | assumption))))
        refine GdO.mk _ (fun hg => by simp only [↓sxd, sxu, ↓exq, Nat.reduceBEq, tysW32_10]; (repeat' (first | rfl | exact trivial | exact fun h => h | exact fun h => (by rw [h]; rfl) | apply And.intro | omega | exact Nat.le_of_ble_eq_true rfl))) ?_
        simp only [↓sxd, sxu, ↓zE, ↓exq, ↓zH, Nat.reduceBEq, Nat.reduceLT]
        (repeat ((with_reducible refine And.intro ?_ ?_); (focus (first | with_reducible rfl | trivial | exact fun h => h | exact fun h => (by rw [h]; rfl) | omega | assumption))))
        refine GdO.mk _ (fun hg => by simp only [sxu, ↓exq, ↓zB, hg]; (repeat ((with_reducible refine And.intro ?_ ?_); (focus (first | with_reducible rfl | trivial | exact fun h => h | exact fun h => (by rw [h]; rfl) | omega | assumption)))); exact CallP.use (awake_c) ⟨rfl, rfl, rfl⟩) ?_
        simp only [↓sxd, sxu, ↓zE, ↓exq, ↓zH, Nat.reduceBEq, Nat.reduceLT]
        (repeat' (first | rfl | exact trivial | exact fun h => h | exact fun h => (by rw [h]; rfl) | apply And.intro | omega | exact Nat.le_of_ble_eq_true rfl))) ?_
    refine Tr.ret ?_
    exact ⟨.inr rfl, congrArg (fun n => some (B n)) (by
    have hp : c.proves v = ((c.check == 0) && c.isSol v) := by
      rw [Bool.eq_iff_iff, proves_law, Bool.and_eq_true, isSol_iff, beq_iff_eq]
    rw [hp]
    simp)⟩
end Go.Proofs.YtcnkbdfkjhlbiaaDoor
