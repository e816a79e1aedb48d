/- It is proved that the tied card of SheetProves holds: at every input the law returns true and its arguments read behind the call as before. Conditions: none. -/
import Derived.Test.YtcnkbdfkjhlbiaaDoorXZA
import Derived.Test.YtcnkbdfkjhlbiaaDoorCards
import Derived.Test.YtcnkbdfkjhlbiaaDoorTie
set_option linter.unusedVariables false
namespace Go.Proofs.YtcnkbdfkjhlbiaaDoor
open Go.Sy Go.Deep Go.ChangeShapes Go.WideShapes Go.ChangeAt Go.WideElems Go.RowKit
theorem pars12 : ∀ t ∈ [27, 39], Tryd.prog.readableRec t = true ∧ t < Tryd.prog.types.size := fun t ht => by
  simp only [List.mem_cons, List.not_mem_nil, or_false] at ht
  rcases ht with rfl | rfl
  · exact ⟨by kernel_rfl, of_decide_eq_true (by kernel_rfl)⟩
  · exact ⟨by kernel_rfl, of_decide_eq_true (by kernel_rfl)⟩
set_option maxRecDepth 100000 in
theorem proves_lifted (os : Os) (started : os.Started) (H : Type) (enc : TypeId × Value → H) :
    ReturnsInHanded {} Tryd.checked os 12 .any (fun w args => (Rows.sheetProvesSpec.pre enc Tryd.prog Tryd.f12 [] false w args ∧ laidMetH Tryd.prog laid2 w) ∧ sizedMet enc Tryd.prog Tryd.f12 (OpenSpec.ofChange Rows.sheetProvesSpec) false w args)
      (Rows.sheetProvesSpec.post enc Tryd.prog Tryd.f12 false true false false) := by
  refine returnsInHanded_of_change_and (C := Tryd.checked) (X := fun w _ => laidMetH Tryd.prog laid2 w) (fun _ _ _ hh h => h.of_heap hh) Tryd.ownK started (by kernel_rfl) Tryd.func12
    (ChangeSpec.witness_shaped (enc := enc) (C := Tryd.checked) (os := os) (X := fun w _ => laidMetH Tryd.prog laid2 w) false (World.doorLaid Tryd.prog 4000 os) #[.agg #[.slice none 0 0, .slice none 0 0, .slice none 0 0, .int .i64 0, .int .i64 0, .int .i64 0, .int .i64 0], .slice none 0 0] 8 rfl (World.shaped_of_RefB (by kernel_rfl) (by kernel_rfl)) (by kernel_rfl) (by kernel_rfl) (by kernel_rfl) (door_met os _)) ?_
  intro W base args ds gs before hval0 hW _ _ hL _
  have hval : ∀ (j : Nat) t v, Tryd.f12.params[j]? = some t → args[j]? = some v → Value.okWide Tryd.prog W .any base t v := hval0
  have hW' := hW
  obtain ⟨p, q, hA0, hV, _, _, _⟩ := hW
  have hA : DataW.TrodAll enc Tryd.prog W 0 (fun _ => true) true Tryd.f12.params.toList args.toList ds p := hA0
  rw [Tryd.params12] at hA hval
  obtain ⟨v0, v1, d0, d1, p0, p1, rfl, rfl, _, h0, h1⟩ := trodAll_two hA
  obtain ⟨a0, s0⟩ : ∃ c : Census, SR (fun _ => none) (fun B => ¬ False) W c.s v0 := by
    obtain ⟨fuel, h⟩ := h0
    obtain ⟨c, _, h1⟩ := rd27 _ _ _ h
    exact ⟨c, agg_of (by show (7 : Nat) ≠ 1; decide) h1⟩
  obtain ⟨x1, y1, z1, rfl⟩ := okWide_slice (show Tryd.prog.underlying 39 = some (.slice 43) by kernel_rfl) (hval 1 39 v1 rfl rfl)
  obtain ⟨a1, s1⟩ : ∃ l : List (List Int), SR (fun _ => none) (fun B => ¬ False) W (SL l) (.slice x1 y1 z1) := by
    obtain ⟨fuel, h⟩ := h1
    obtain ⟨l, _, h1⟩ := rd39 _ _ _ h
    exact ⟨l, one_of rfl h1⟩
  have := (SheetProves_c a0 a1).2 (fun _ => False) (fun _ => none) W #[v0, .slice x1 y1 z1] (fun _ h => h.elim) (of_laid hL ⟨id, id⟩) rfl (fun i hi => by
    match i, hi with
    | 0, _ => exact s0
    | 1, _ => exact s1)
  refine (callsIn_wide.1 this).mono fun e W' ⟨v, he, hv, ha⟩ => ?_
  have hv1 : v = .bool true := by cases hv with | d _ _ h => cases h; rfl
  subst hv1
  exact ⟨_, he, post_true rfl (by kernel_rfl) (by rw [Tryd.params12]; exact pars12) hW' rfl ha⟩
theorem sheetProves_holds : Rows.SheetProvesSaid :=
  OpenClaim.holds_of_wide 12 Tryd.f12 rfl rfl rfl rfl rfl rfl rfl ⟨rfl, rfl, rfl, rfl, rfl⟩ rfl rfl rfl rfl rfl (by kernel_rfl) Tryd.func12 (by kernel_rfl)
    (of_decide_eq_true (by kernel_rfl)) (by unfold Func.isWrapper; first | (rw [if_pos (by decide +kernel)]; kernel_rfl) | (rw [if_neg (by decide +kernel)]; exact ⟨rfl, rfl⟩))
    (fun os started H enc _ => proves_lifted os started H enc)
theorem sheetProvesCard_holds : Rows.SheetProvesCardSaid :=
  Claim7.holds_tied_plain_at .later [] [.data, .data] true (true, "848ff9a12d0f395eb2d927cb6210c0b99462ff90fb257da722d663d696160e83") false
    sheetProves_holds (fun _ h => by cases h) (by kernel_rfl) (fun _ h => by cases h) sheetProves_row_tie rfl ⟨rfl, rfl⟩ (by kernel_rfl) rfl
    (fun f fn hf hfn => by
      obtain rfl : f = 12 := Option.some.inj ((show Tryd.prog.funcNamed "tithing/tithinglaw02.SheetProves" = some 12 by kernel_rfl).symm.trans hf) |>.symm
      obtain rfl : fn = Tryd.f12 := (Option.some.inj (Tryd.func12.symm.trans hfn)).symm
      exact ⟨by kernel_rfl, fun j t ht => by
        rw [Tryd.params12] at ht
        have hm : t ∈ [27, 39] := List.mem_of_getElem? (by simpa using ht)
        simp only [List.mem_cons, List.not_mem_nil, or_false] at hm
        rcases hm with rfl | rfl
        · exact (show Tryd.prog.wantsStandIn 27 = false by kernel_rfl)
        · exact (show Tryd.prog.wantsStandIn 39 = false by kernel_rfl)⟩)
    (by kernel_rfl)
#print axioms sheetProvesCard_holds
end Go.Proofs.YtcnkbdfkjhlbiaaDoor
