/- HideEasier: whatever the input, the law returns true, and each argument reads behind the call as it read before. Conditions: none. -/
import Derived.Test.YtijechcadlklhaaQBA
import Derived.Test.YtijechcadlklhaaRows
set_option linter.unusedVariables false
namespace Go.Proofs.Ytijechcadlklhaa
open Go.Sy Go.Deep Go.ChangeShapes Go.WideShapes Go.ChangeAt Go.WideElems Go.RowKit
theorem hideEasier_pars : ∀ t ∈ [24, 25, 46, 5, 5], Try.prog.readableRec t = true ∧ t < Try.prog.types.size := fun t ht => by
  rcases List.mem_cons.1 ht with rfl | h0
  · exact ⟨by kernel_rfl, of_decide_eq_true (by kernel_rfl)⟩
  rcases List.mem_cons.1 h0 with rfl | h1
  · exact ⟨by kernel_rfl, of_decide_eq_true (by kernel_rfl)⟩
  rcases List.mem_cons.1 h1 with rfl | h2
  · exact ⟨by kernel_rfl, of_decide_eq_true (by kernel_rfl)⟩
  rcases List.mem_cons.1 h2 with rfl | h3
  · exact ⟨by kernel_rfl, of_decide_eq_true (by kernel_rfl)⟩
  rcases List.mem_cons.1 h3 with rfl | h4
  · exact ⟨by kernel_rfl, of_decide_eq_true (by kernel_rfl)⟩
  cases h4
set_option maxRecDepth 100000 in
theorem hideEasier_lifted (os : Os) (started : os.Started) (H : Type) (enc : TypeId × Value → H) :
    ReturnsInHanded {} Try.checked os 4 .any (Rows.hideEasierSpec.pre6 enc Try.prog Try.f4 [] false) (Rows.hideEasierSpec.post enc Try.prog Try.f4 false true false false) := by
  refine returnsInHanded_of_change (C := Try.checked) Try.ownK started (by kernel_rfl) Try.func4
    (ChangeSpec.witness6 (enc := enc) (C := Try.checked) false ⟨#[], #[.agg #[.slice none 0 0, .int .i64 0], .slice none 0 0, .slice none 0 0, .int .u8 0, .int .u8 0], []⟩ 8 (by kernel_rfl) (by kernel_rfl) (by kernel_rfl) (by kernel_rfl)) ?_
  intro W base args ds gs before hval0 hW _ _
  have hval : ∀ (j : Nat) t v, Try.f4.params[j]? = some t → args[j]? = some v → Value.okWide Try.prog W .any base t v := hval0
  have hW' := hW
  obtain ⟨p, q, hA0, hV, _, _, _⟩ := hW
  have hA : DataW.TrodAll enc Try.prog W 0 (fun _ => true) true Try.f4.params.toList args.toList ds p := hA0
  rw [Try.params4] at hA hval
  obtain ⟨v0, v1, v2, v3, v4, d0, d1, d2, d3, d4, p0, p1, p2, p3, p4, rfl, rfl, _, h0, h1, h2, h3, h4⟩ := trodAll_five hA
  obtain ⟨a0, s0⟩ : ∃ c : HT, SR (fun _ => none) (fun B => ¬ False) W c.s v0 := by
    obtain ⟨fuel, h⟩ := h0
    obtain ⟨c, _, h1⟩ := rdT _ _ _ h
    exact ⟨c, agg_of (by show (2 : Nat) ≠ 1; decide) h1⟩
  obtain ⟨x1, y1, z1, rfl⟩ := okWide_slice (show Try.prog.underlying 25 = some (.slice 43) by kernel_rfl) (hval 1 25 v1 rfl rfl)
  obtain ⟨a1, s1⟩ : ∃ l : List HC, SR (fun _ => none) (fun B => ¬ False) W (SC l) (.slice x1 y1 z1) := by
    obtain ⟨fuel, h⟩ := h1
    obtain ⟨l, _, h1⟩ := rdCells _ _ _ h
    exact ⟨l, one_of rfl h1⟩
  obtain ⟨x2, y2, z2, rfl⟩ := okWide_slice (show Try.prog.underlying 46 = some (.slice 49) by kernel_rfl) (hval 2 46 v2 rfl rfl)
  obtain ⟨a2, s2⟩ : ∃ l : List HQ, SR (fun _ => none) (fun B => ¬ False) W (SQ l) (.slice x2 y2 z2) := by
    obtain ⟨fuel, h⟩ := h2
    obtain ⟨l, _, h1⟩ := rdQs _ _ _ h
    exact ⟨l, one_of rfl h1⟩
  obtain ⟨b3, rfl, _, _, wf3⟩ := open_int (show Try.prog.underlying 5 = some (.int .u8) by kernel_rfl) (hval 3 5 v3 rfl rfl) h3
  have bd3 := Go.bounds_u8 wf3
  obtain ⟨a3, rfl⟩ := Int.eq_ofNat_of_zero_le bd3.1
  obtain ⟨b4, rfl, _, _, wf4⟩ := open_int (show Try.prog.underlying 5 = some (.int .u8) by kernel_rfl) (hval 4 5 v4 rfl rfl) h4
  have bd4 := Go.bounds_u8 wf4
  obtain ⟨a4, rfl⟩ := Int.eq_ofNat_of_zero_le bd4.1
  have := (HideEasier_c a0 a1 a2 a3 a4 (by omega) (by omega)).2 (fun _ => False) (fun _ => none) W #[v0, .slice x1 y1 z1, .slice x2 y2 z2, .int .u8 (a3 : Nat), .int .u8 (a4 : Nat)] (fun _ h => h.elim) (fun g cs h => by cases h) rfl (fun i hi => by
    match i, hi with
    | 0, _ => exact s0
    | 1, _ => exact s1
    | 2, _ => exact s2
    | 3, _ => exact SR.d _ _ (DR.lit _ rfl)
    | 4, _ => exact SR.d _ _ (DR.lit _ rfl))
  refine (callsIn_wide.1 this).mono fun e W' ⟨v, he, hv, ha⟩ => ?_
  have hv1 : v = .bool true := by cases hv with | d _ _ h => cases h; rfl
  subst hv1
  exact ⟨_, he, post_true rfl (by kernel_rfl) (by rw [Try.params4]; exact hideEasier_pars) hW' rfl ha⟩
theorem hideEasier_holds : Rows.HideEasierSaid :=
  OpenClaim.holds_of_wide 4 Try.f4 rfl rfl rfl rfl rfl rfl rfl ⟨rfl, rfl, rfl, rfl, rfl⟩ rfl rfl rfl rfl rfl (by kernel_rfl) Try.func4 (by kernel_rfl)
    (of_decide_eq_true (by kernel_rfl)) (by unfold Func.isWrapper; first | (rw [if_pos (by decide +kernel)]; kernel_rfl) | (rw [if_neg (by decide +kernel)]; exact ⟨rfl, rfl⟩))
    (fun os started H enc _ => hideEasier_lifted os started H enc)
#print axioms hideEasier_holds
end Go.Proofs.Ytijechcadlklhaa
