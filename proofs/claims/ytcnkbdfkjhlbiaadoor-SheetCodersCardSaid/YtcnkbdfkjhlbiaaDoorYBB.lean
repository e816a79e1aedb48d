/- SheetCoders holds. Conditions: none. -/
import Derived.Test.YtcnkbdfkjhlbiaaDoorYBA
import Derived.Test.YtcnkbdfkjhlbiaaDoorCards
import Derived.Test.YtcnkbdfkjhlbiaaDoorTie
set_option linter.unusedVariables false
namespace Go.Proofs.YtcnkbdfkjhlbiaaDoor
open Go.Sy Go.Deep Go.ChangeShapes Go.WideShapes Go.ChangeAt Go.WideElems Go.RowKit
theorem pars9 : ∀ t ∈ [79, 79, 5, 5, 5], Tryd.prog.readableRec t = true ∧ t < Tryd.prog.types.size := fun t ht => by
  simp only [List.mem_cons, List.not_mem_nil, or_false, or_self] at ht
  rcases ht with rfl | rfl | rfl
  · exact ⟨by kernel_rfl, of_decide_eq_true (by kernel_rfl)⟩
  · exact ⟨by kernel_rfl, of_decide_eq_true (by kernel_rfl)⟩
  · exact ⟨by kernel_rfl, of_decide_eq_true (by kernel_rfl)⟩
set_option maxRecDepth 100000 in
theorem coders_lifted (os : Os) (started : os.Started) (H : Type) (enc : TypeId × Value → H) :
    ReturnsInHanded {} Tryd.checked os 9 .any (fun w args => (Rows.sheetCodersSpec.pre enc Tryd.prog Tryd.f9 [] false w args ∧ laidMetH Tryd.prog laid2 w) ∧ sizedMet enc Tryd.prog Tryd.f9 (OpenSpec.ofChange Rows.sheetCodersSpec) false w args)
      (Rows.sheetCodersSpec.post enc Tryd.prog Tryd.f9 false true false false) := by
  refine returnsInHanded_of_change_and (C := Tryd.checked) (X := fun w _ => laidMetH Tryd.prog laid2 w) (fun _ _ _ hh h => h.of_heap hh) Tryd.ownK started (by kernel_rfl) Tryd.func9
    (ChangeSpec.witness_shaped (enc := enc) (C := Tryd.checked) (os := os) (X := fun w _ => laidMetH Tryd.prog laid2 w) false (World.doorLaid Tryd.prog 4000 os) #[.slice none 0 0, .slice none 0 0, .int .u8 0, .int .u8 0, .int .u8 0] 8 rfl (World.shaped_of_RefB (by kernel_rfl) (by kernel_rfl)) (by kernel_rfl) (by kernel_rfl) (by kernel_rfl) (door_met os _)) ?_
  intro W base args ds gs before hval0 hW _ _ hL _
  have hval : ∀ (j : Nat) t v, Tryd.f9.params[j]? = some t → args[j]? = some v → Value.okWide Tryd.prog W .any base t v := hval0
  have hW' := hW
  obtain ⟨p, q, hA0, hV, _, _, _⟩ := hW
  have hA : DataW.TrodAll enc Tryd.prog W 0 (fun _ => true) true Tryd.f9.params.toList args.toList ds p := hA0
  rw [Tryd.params9] at hA hval
  obtain ⟨v0, v1, v2, v3, v4, d0, d1, d2, d3, d4, p0, p1, p2, p3, p4, rfl, rfl, _, h0, h1, h2, h3, h4⟩ := trodAll_five hA
  obtain ⟨x0, y0, z0, rfl⟩ := okWide_slice (show Tryd.prog.underlying 79 = some (.slice 77) by kernel_rfl) (hval 0 79 v0 rfl rfl)
  obtain ⟨a0, e0, s0⟩ : ∃ l : List Nat, (∀ n ∈ l, n < 65536) ∧ SR (fun _ => none) (fun B => ¬ False) W (SW l) (.slice x0 y0 z0) := by
    obtain ⟨fuel, h⟩ := h0
    exact words_of rfl h
  obtain ⟨x1, y1, z1, rfl⟩ := okWide_slice (show Tryd.prog.underlying 79 = some (.slice 77) by kernel_rfl) (hval 1 79 v1 rfl rfl)
  obtain ⟨a1, e1, s1⟩ : ∃ l : List Nat, (∀ n ∈ l, n < 65536) ∧ SR (fun _ => none) (fun B => ¬ False) W (SW l) (.slice x1 y1 z1) := by
    obtain ⟨fuel, h⟩ := h1
    exact words_of rfl h
  obtain ⟨b2, rfl, _, _, wf2⟩ := open_int (show Tryd.prog.underlying 5 = some (.int .u8) by kernel_rfl) (hval 2 5 v2 rfl rfl) h2
  have bd2 := Go.bounds_u8 wf2
  obtain ⟨a2, rfl⟩ := Int.eq_ofNat_of_zero_le bd2.1
  obtain ⟨b3, rfl, _, _, wf3⟩ := open_int (show Tryd.prog.underlying 5 = some (.int .u8) by kernel_rfl) (hval 3 5 v3 rfl rfl) h3
  have bd3 := Go.bounds_u8 wf3
  obtain ⟨a3, rfl⟩ := Int.eq_ofNat_of_zero_le bd3.1
  obtain ⟨b4, rfl, _, _, wf4⟩ := open_int (show Tryd.prog.underlying 5 = some (.int .u8) by kernel_rfl) (hval 4 5 v4 rfl rfl) h4
  have bd4 := Go.bounds_u8 wf4
  obtain ⟨a4, rfl⟩ := Int.eq_ofNat_of_zero_le bd4.1
  have := (SheetCoders_c a0 a1 a2 a3 a4 e0 e1 (by omega) (by omega) (by omega)).2 (fun _ => False) (fun _ => none) W #[.slice x0 y0 z0, .slice x1 y1 z1, .int .u8 (a2 : Nat), .int .u8 (a3 : Nat), .int .u8 (a4 : Nat)] (fun _ h => h.elim) (of_laid hL ⟨id, id⟩) rfl (fun i hi => by
    match i, hi with
    | 0, _ => exact s0
    | 1, _ => exact s1
    | 2, _ => exact SR.d _ _ (DR.lit _ rfl)
    | 3, _ => exact SR.d _ _ (DR.lit _ rfl)
    | 4, _ => exact SR.d _ _ (DR.lit _ rfl))
  refine (callsIn_wide.1 this).mono fun e W' ⟨v, he, hv, ha⟩ => ?_
  have hv1 : v = .bool true := by cases hv with | d _ _ h => cases h; rfl
  subst hv1
  exact ⟨_, he, post_true rfl (by kernel_rfl) (by rw [Tryd.params9]; exact pars9) hW' rfl ha⟩
theorem sheetCoders_holds : Rows.SheetCodersSaid :=
  OpenClaim.holds_of_wide 9 Tryd.f9 rfl rfl rfl rfl rfl rfl rfl ⟨rfl, rfl, rfl, rfl, rfl⟩ rfl rfl rfl rfl rfl (by kernel_rfl) Tryd.func9 (by kernel_rfl)
    (of_decide_eq_true (by kernel_rfl)) (by unfold Func.isWrapper; first | (rw [if_pos (by decide +kernel)]; kernel_rfl) | (rw [if_neg (by decide +kernel)]; exact ⟨rfl, rfl⟩))
    (fun os started H enc _ => coders_lifted os started H enc)
theorem sheetCodersCard_holds : Rows.SheetCodersCardSaid :=
  Claim7.holds_tied_plain_at .later [] [.data, .data] true (true, "848ff9a12d0f395eb2d927cb6210c0b99462ff90fb257da722d663d696160e83") false
    sheetCoders_holds (fun _ h => by cases h) (by kernel_rfl) (fun _ h => by cases h) sheetCoders_row_tie rfl ⟨rfl, rfl⟩ (by kernel_rfl) rfl
    (fun f fn hf hfn => by
      obtain rfl : f = 9 := Option.some.inj ((show Tryd.prog.funcNamed "tithing/tithinglaw02.SheetCoders" = some 9 by kernel_rfl).symm.trans hf) |>.symm
      obtain rfl : fn = Tryd.f9 := (Option.some.inj (Tryd.func9.symm.trans hfn)).symm
      exact ⟨by kernel_rfl, fun j t ht => by
        rw [Tryd.params9] at ht
        have hm : t ∈ [79, 79, 5, 5, 5] := List.mem_of_getElem? (by simpa using ht)
        simp only [List.mem_cons, List.not_mem_nil, or_false, or_self] at hm
        rcases hm with rfl | rfl | rfl
        · exact (show Tryd.prog.wantsStandIn 79 = false by kernel_rfl)
        · exact (show Tryd.prog.wantsStandIn 79 = false by kernel_rfl)
        · exact (show Tryd.prog.wantsStandIn 5 = false by kernel_rfl)⟩)
    (by kernel_rfl)
#print axioms sheetCodersCard_holds
end Go.Proofs.YtcnkbdfkjhlbiaaDoor
