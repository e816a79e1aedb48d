/- It is proved that the tied card of SheetDrops holds: at every input the law returns true and its argument reads behind the call as before. Conditions: none. -/
import Derived.Test.YtcnkbdfkjhlbiaaDoorXQA
import Derived.Test.YtcnkbdfkjhlbiaaDoorCards
import Derived.Test.YtcnkbdfkjhlbiaaDoorTie
set_option linter.unusedVariables false
namespace Go.Proofs.YtcnkbdfkjhlbiaaDoor
open Go.Sy Go.Deep Go.ChangeShapes Go.WideShapes Go.ChangeAt Go.WideElems Go.RowKit
theorem pars27b : Tryd.prog.readableRec 27 = true ∧ 27 < Tryd.prog.types.size := ⟨by kernel_rfl, of_decide_eq_true (by kernel_rfl)⟩
set_option maxRecDepth 100000 in
theorem drops_lifted (os : Os) (started : os.Started) (H : Type) (enc : TypeId × Value → H) :
    ReturnsInHanded {} Tryd.checked os 4 .any (fun w args => (Rows.sheetDropsSpec.pre enc Tryd.prog Tryd.f4 [] false w args ∧ laidMetH Tryd.prog laid2 w) ∧ sizedMet enc Tryd.prog Tryd.f4 (OpenSpec.ofChange Rows.sheetDropsSpec) false w args)
      (Rows.sheetDropsSpec.post enc Tryd.prog Tryd.f4 false true false false) := by
  refine returnsInHanded_of_change_and (C := Tryd.checked) (X := fun w _ => laidMetH Tryd.prog laid2 w) (fun _ _ _ hh h => h.of_heap hh) Tryd.ownK started (by kernel_rfl) Tryd.func4
    (ChangeSpec.witness_shaped (enc := enc) (C := Tryd.checked) (os := os) (X := fun w _ => laidMetH Tryd.prog laid2 w) false (World.doorLaid Tryd.prog 4000 os) #[.agg #[.slice none 0 0, .slice none 0 0, .slice none 0 0, .int .i64 0, .int .i64 0, .int .i64 0, .int .i64 0]] 8 rfl (World.shaped_of_RefB (by kernel_rfl) (by kernel_rfl)) (by kernel_rfl) (by kernel_rfl) (by kernel_rfl) (door_met os _)) ?_
  intro W base args ds gs before _ hW _ _ hL _
  have hW' := hW
  obtain ⟨p, q, hA0, hV, _, _, _⟩ := hW
  have hA : DataW.TrodAll enc Tryd.prog W 0 (fun _ => true) true Tryd.f4.params.toList args.toList ds p := hA0
  rw [Tryd.params4] at hA
  obtain ⟨v0, d0, rfl, rfl, fuel, h0⟩ := trodAll_one hA
  obtain ⟨c, hc⟩ : ∃ c : Census, SR (fun _ => none) (fun B => ¬ False) W c.s v0 := by
    obtain ⟨c, _, h1⟩ := rd27 _ _ _ h0
    exact ⟨c, agg_of (by show (7 : Nat) ≠ 1; decide) h1⟩
  have := (SheetDrops_c c).2 (fun _ => False) (fun _ => none) W #[v0] (fun _ h => h.elim) (of_laid hL ⟨id, id⟩) rfl (fun i hi => by
    obtain rfl : i = 0 := by simp at hi; omega
    exact hc)
  refine (callsIn_wide.1 this).mono fun e W' ⟨v, he, hv, ha⟩ => ?_
  have hv1 : v = .bool true := by cases hv with | d _ _ h => cases h; rfl
  subst hv1
  exact ⟨_, he, post_true rfl (by kernel_rfl) (by rw [Tryd.params4]; intro t ht; obtain rfl := List.mem_singleton.1 ht; exact pars27b) hW' rfl ha⟩
theorem sheetDrops_holds : Rows.SheetDropsSaid :=
  OpenClaim.holds_of_wide 4 Tryd.f4 rfl rfl rfl rfl rfl rfl rfl ⟨rfl, rfl, rfl, rfl, rfl⟩ rfl rfl rfl rfl rfl (by kernel_rfl) Tryd.func4 (by kernel_rfl)
    (of_decide_eq_true (by kernel_rfl)) (by unfold Func.isWrapper; first | (rw [if_pos (by decide +kernel)]; kernel_rfl) | (rw [if_neg (by decide +kernel)]; exact ⟨rfl, rfl⟩))
    (fun os started H enc _ => drops_lifted os started H enc)
theorem sheetDropsCard_holds : Rows.SheetDropsCardSaid :=
  Claim7.holds_tied_plain_at .later [] [.data, .data] true (true, "848ff9a12d0f395eb2d927cb6210c0b99462ff90fb257da722d663d696160e83") false
    sheetDrops_holds (fun _ h => by cases h) (by kernel_rfl) (fun _ h => by cases h) sheetDrops_row_tie rfl ⟨rfl, rfl⟩ (by kernel_rfl) rfl
    (fun f fn hf hfn => by
      obtain rfl : f = 4 := Option.some.inj ((show Tryd.prog.funcNamed "tithing/tithinglaw02.SheetDrops" = some 4 by kernel_rfl).symm.trans hf) |>.symm
      obtain rfl : fn = Tryd.f4 := (Option.some.inj (Tryd.func4.symm.trans hfn)).symm
      exact ⟨by kernel_rfl, fun j t ht => by
        rw [Tryd.params4] at ht
        have h3 : t = 27 := by
          rcases j with _ | j
          · simpa using ht.symm
          · simp at ht
        subst h3
        exact (show Tryd.prog.wantsStandIn 27 = false by kernel_rfl)⟩)
    (by kernel_rfl)
#print axioms sheetDropsCard_holds
end Go.Proofs.YtcnkbdfkjhlbiaaDoor
