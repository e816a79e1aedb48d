/- SheetEnds holds. Conditions: none. -/
import Derived.Test.YtcnkbdfkjhlbiaaDoorYEA
import Derived.Test.YtcnkbdfkjhlbiaaDoorCards
import Derived.Test.YtcnkbdfkjhlbiaaDoorTie
set_option linter.unusedVariables false
namespace Go.Proofs.YtcnkbdfkjhlbiaaDoor
open Go.Sy Go.Deep Go.ChangeShapes Go.WideShapes Go.ChangeAt Go.WideElems Go.RowKit
theorem pars17 : ∀ t ∈ [79, 5], Tryd.prog.readableRec t = true ∧ t < Tryd.prog.types.size := fun t ht => by
  simp only [List.mem_cons, List.not_mem_nil, or_false] at ht
  rcases ht with rfl | rfl
  · exact ⟨by kernel_rfl, of_decide_eq_true (by kernel_rfl)⟩
  · exact ⟨by kernel_rfl, of_decide_eq_true (by kernel_rfl)⟩
set_option maxRecDepth 100000 in
theorem ends_lifted (os : Os) (started : os.Started) (H : Type) (enc : TypeId × Value → H) :
    ReturnsInHanded {} Tryd.checked os 17 .any (fun w args => (Rows.sheetEndsSpec.pre enc Tryd.prog Tryd.f17 [] false w args ∧ laidMetH Tryd.prog laid2 w) ∧ sizedMet enc Tryd.prog Tryd.f17 (OpenSpec.ofChange Rows.sheetEndsSpec) false w args)
      (Rows.sheetEndsSpec.post enc Tryd.prog Tryd.f17 false true false false) := by
  refine returnsInHanded_of_change_and (C := Tryd.checked) (X := fun w _ => laidMetH Tryd.prog laid2 w) (fun _ _ _ hh h => h.of_heap hh) Tryd.ownK started (by kernel_rfl) Tryd.func17
    (ChangeSpec.witness_shaped (enc := enc) (C := Tryd.checked) (os := os) (X := fun w _ => laidMetH Tryd.prog laid2 w) false (World.doorLaid Tryd.prog 4000 os) #[.slice none 0 0, .int .u8 0] 8 rfl (World.shaped_of_RefB (by kernel_rfl) (by kernel_rfl)) (by kernel_rfl) (by kernel_rfl) (by kernel_rfl) (door_met os _)) ?_
  intro W base args ds gs before hval0 hW _ _ hL _
  have hval : ∀ (j : Nat) t v, Tryd.f17.params[j]? = some t → args[j]? = some v → Value.okWide Tryd.prog W .any base t v := hval0
  have hW' := hW
  obtain ⟨p, q, hA0, hV, _, _, _⟩ := hW
  have hA : DataW.TrodAll enc Tryd.prog W 0 (fun _ => true) true Tryd.f17.params.toList args.toList ds p := hA0
  rw [Tryd.params17] at hA hval
  obtain ⟨v0, v1, d0, d1, p0, p1, rfl, rfl, _, h0, h1⟩ := trodAll_two hA
  obtain ⟨x0, y0, z0, rfl⟩ := okWide_slice (show Tryd.prog.underlying 79 = some (.slice 77) by kernel_rfl) (hval 0 79 v0 rfl rfl)
  obtain ⟨a0, e0, s0⟩ : ∃ l : List Nat, (∀ n ∈ l, n < 65536) ∧ SR (fun _ => none) (fun B => ¬ False) W (SW l) (.slice x0 y0 z0) := by
    obtain ⟨fuel, h⟩ := h0
    exact words_of rfl h
  obtain ⟨b1, rfl, _, _, wf1⟩ := open_int (show Tryd.prog.underlying 5 = some (.int .u8) by kernel_rfl) (hval 1 5 v1 rfl rfl) h1
  have bd1 := Go.bounds_u8 wf1
  obtain ⟨a1, rfl⟩ := Int.eq_ofNat_of_zero_le bd1.1
  have := (SheetEnds_c a0 a1 e0 (by omega)).2 (fun _ => False) (fun _ => none) W #[.slice x0 y0 z0, .int .u8 (a1 : Nat)] (fun _ h => h.elim) (of_laid hL ⟨id, id⟩) rfl (fun i hi => by
    match i, hi with
    | 0, _ => exact s0
    | 1, _ => exact SR.d _ _ (DR.lit _ rfl))
  refine (callsIn_wide.1 this).mono fun e W' ⟨v, he, hv, ha⟩ => ?_
  have hv1 : v = .bool true := by cases hv with | d _ _ h => cases h; rfl
  subst hv1
  exact ⟨_, he, post_true rfl (by kernel_rfl) (by rw [Tryd.params17]; exact pars17) hW' rfl ha⟩
theorem sheetEnds_holds : Rows.SheetEndsSaid :=
  OpenClaim.holds_of_wide 17 Tryd.f17 rfl rfl rfl rfl rfl rfl rfl ⟨rfl, rfl, rfl, rfl, rfl⟩ rfl rfl rfl rfl rfl (by kernel_rfl) Tryd.func17 (by kernel_rfl)
    (of_decide_eq_true (by kernel_rfl)) (by unfold Func.isWrapper; first | (rw [if_pos (by decide +kernel)]; kernel_rfl) | (rw [if_neg (by decide +kernel)]; exact ⟨rfl, rfl⟩))
    (fun os started H enc _ => ends_lifted os started H enc)
theorem sheetEndsCard_holds : Rows.SheetEndsCardSaid :=
  Claim7.holds_tied_plain_at .later [] [.data, .data] true (true, "848ff9a12d0f395eb2d927cb6210c0b99462ff90fb257da722d663d696160e83") false
    sheetEnds_holds (fun _ h => by cases h) (by kernel_rfl) (fun _ h => by cases h) sheetEnds_row_tie rfl ⟨rfl, rfl⟩ (by kernel_rfl) rfl
    (fun f fn hf hfn => by
      obtain rfl : f = 17 := Option.some.inj ((show Tryd.prog.funcNamed "tithing/tithinglaw02.SheetEnds" = some 17 by kernel_rfl).symm.trans hf) |>.symm
      obtain rfl : fn = Tryd.f17 := (Option.some.inj (Tryd.func17.symm.trans hfn)).symm
      exact ⟨by kernel_rfl, fun j t ht => by
        rw [Tryd.params17] at ht
        have hm : t ∈ [79, 5] := List.mem_of_getElem? (by simpa using ht)
        simp only [List.mem_cons, List.not_mem_nil, or_false] at hm
        rcases hm with rfl | rfl
        · exact (show Tryd.prog.wantsStandIn 79 = false by kernel_rfl)
        · exact (show Tryd.prog.wantsStandIn 5 = false by kernel_rfl)⟩)
    (by kernel_rfl)
#print axioms sheetEndsCard_holds
end Go.Proofs.YtcnkbdfkjhlbiaaDoor
