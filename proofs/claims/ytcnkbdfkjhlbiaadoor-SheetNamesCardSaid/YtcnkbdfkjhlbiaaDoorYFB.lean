/- SheetNames holds. Conditions: none. -/
import Derived.Test.YtcnkbdfkjhlbiaaDoorYFA
import Derived.Test.YtcnkbdfkjhlbiaaDoorCards
import Derived.Test.YtcnkbdfkjhlbiaaDoorTie
set_option linter.unusedVariables false
namespace Go.Proofs.YtcnkbdfkjhlbiaaDoor
open Go.Sy Go.Deep Go.ChangeShapes Go.WideShapes Go.ChangeAt Go.WideElems Go.RowKit
set_option maxRecDepth 100000 in
theorem names_lifted (os : Os) (started : os.Started) (H : Type) (enc : TypeId × Value → H) :
    ReturnsInHanded {} Tryd.checked os 18 .any (fun w args => (Rows.sheetNamesSpec.pre enc Tryd.prog Tryd.f18 [] false w args ∧ laidMetH Tryd.prog laid2 w) ∧ sizedMet enc Tryd.prog Tryd.f18 (OpenSpec.ofChange Rows.sheetNamesSpec) false w args)
      (Rows.sheetNamesSpec.post enc Tryd.prog Tryd.f18 false true false false) := by
  refine returnsInHanded_of_change_and (C := Tryd.checked) (X := fun w _ => laidMetH Tryd.prog laid2 w) (fun _ _ _ hh h => h.of_heap hh) Tryd.ownK started (by kernel_rfl) Tryd.func18
    (ChangeSpec.witness_shaped (enc := enc) (C := Tryd.checked) (os := os) (X := fun w _ => laidMetH Tryd.prog laid2 w) false (World.doorLaid Tryd.prog 4000 os) #[] 8 rfl (World.shaped_of_RefB (by kernel_rfl) (by kernel_rfl)) (by kernel_rfl) (by kernel_rfl) (by kernel_rfl) (door_met os _)) ?_
  intro W base args ds gs before hval0 hW _ _ hL _
  have hW' := hW
  obtain ⟨p, q, hA0, hV, _, _, _⟩ := hW
  have hA : DataW.TrodAll enc Tryd.prog W 0 (fun _ => true) true Tryd.f18.params.toList args.toList ds p := hA0
  rw [Tryd.params18] at hA
  have hargs : args = #[] := by
    cases args with
    | mk l => cases l with
      | nil => rfl
      | cons v l => cases ds <;> simp [DataW.TrodAll] at hA
  subst hargs
  have hds : ds = [] := by
    cases ds with
    | nil => rfl
    | cons d l => simp [DataW.TrodAll] at hA
  subst hds
  have := SheetNames_c.2 (fun _ => False) (fun _ => none) W #[] (fun _ h => h.elim) (of_laid hL ⟨id, id⟩) rfl (fun i hi => absurd hi (Nat.not_lt_zero _))
  refine (callsIn_wide.1 this).mono fun e W' ⟨v, he, hv, ha⟩ => ?_
  have hv1 : v = .bool true := by cases hv with | d _ _ h => cases h; rfl
  subst hv1
  exact ⟨_, he, post_true rfl (by kernel_rfl) (by rw [Tryd.params18]; exact fun t ht => by cases ht) hW' rfl ha⟩
theorem sheetNames_holds : Rows.SheetNamesSaid :=
  OpenClaim.holds_of_wide 18 Tryd.f18 rfl rfl rfl rfl rfl rfl rfl ⟨rfl, rfl, rfl, rfl, rfl⟩ rfl rfl rfl rfl rfl (by kernel_rfl) Tryd.func18 (by kernel_rfl)
    (of_decide_eq_true (by kernel_rfl)) (by unfold Func.isWrapper; first | (rw [if_pos (by decide +kernel)]; kernel_rfl) | (rw [if_neg (by decide +kernel)]; exact ⟨rfl, rfl⟩))
    (fun os started H enc _ => names_lifted os started H enc)
theorem sheetNamesCard_holds : Rows.SheetNamesCardSaid :=
  Claim7.holds_tied_plain_at .later [] [.data, .data] true (true, "848ff9a12d0f395eb2d927cb6210c0b99462ff90fb257da722d663d696160e83") false
    sheetNames_holds (fun _ h => by cases h) (by kernel_rfl) (fun _ h => by cases h) sheetNames_row_tie rfl ⟨rfl, rfl⟩ (by kernel_rfl) rfl
    (fun f fn hf hfn => by
      obtain rfl : f = 18 := Option.some.inj ((show Tryd.prog.funcNamed "tithing/tithinglaw02.SheetNames" = some 18 by kernel_rfl).symm.trans hf) |>.symm
      obtain rfl : fn = Tryd.f18 := (Option.some.inj (Tryd.func18.symm.trans hfn)).symm
      exact ⟨by kernel_rfl, fun j t ht => by
        rw [Tryd.params18] at ht
        simp at ht⟩)
    (by kernel_rfl)
#print axioms sheetNamesCard_holds
end Go.Proofs.YtcnkbdfkjhlbiaaDoor
