/- HideExposes: whatever the input, the law returns true, and each argument reads behind the call as it read before. Conditions: none. -/
import Derived.Test.YtijechcadlklhaaGreatZABB
set_option linter.unusedVariables false
namespace Go.Proofs.YtijechcadlklhaaGreat
open Go.Sy Go.Deep Go.ChangeShapes Go.WideShapes Go.ChangeAt Go.WideElems Go.RowKit
theorem hideExposes_pars : ∀ t ∈ [24, 25, 26], Tryz.prog.readableRec t = true ∧ t < Tryz.prog.types.size := fun t ht => by
  rcases List.mem_cons.1 ht with rfl | h0
  · exact ⟨by kernel_rfl, of_decide_eq_true (by kernel_rfl)⟩
  rcases List.mem_cons.1 h0 with rfl | h1
  · exact ⟨by kernel_rfl, of_decide_eq_true (by kernel_rfl)⟩
  rcases List.mem_cons.1 h1 with rfl | h2
  · exact ⟨by kernel_rfl, of_decide_eq_true (by kernel_rfl)⟩
  cases h2
set_option maxRecDepth 100000 in
theorem hideExposes_lifted (os : Os) (started : os.Started) (H : Type) (enc : TypeId × Value → H) :
    ReturnsInHanded {} Tryz.checked os 3 .any (Rows.hideExposesSpec.pre6 enc Tryz.prog Tryz.f3 [] false) (Rows.hideExposesSpec.post enc Tryz.prog Tryz.f3 false true false false) := by
  refine returnsInHanded_of_change (C := Tryz.checked) Tryz.ownK started (by kernel_rfl) Tryz.func3
    (ChangeSpec.witness6 (enc := enc) (C := Tryz.checked) false ⟨#[], #[.agg #[.slice none 0 0, .int .i64 0], .slice none 0 0, .slice none 0 0], []⟩ 8 (by kernel_rfl) (by kernel_rfl) (by kernel_rfl) (by kernel_rfl)) ?_
  intro W base args ds gs before hval0 hW _ _
  have hval : ∀ (j : Nat) t v, Tryz.f3.params[j]? = some t → args[j]? = some v → Value.okWide Tryz.prog W .any base t v := hval0
  have hW' := hW
  obtain ⟨p, q, hA0, hV, _, _, _⟩ := hW
  have hA : DataW.TrodAll enc Tryz.prog W 0 (fun _ => true) true Tryz.f3.params.toList args.toList ds p := hA0
  rw [Tryz.params3] at hA hval
  obtain ⟨v0, v1, v2, d0, d1, d2, p0, p1, p2, rfl, rfl, _, h0, h1, h2⟩ := trodAll_three hA
  obtain ⟨a0, s0⟩ : ∃ c : HT, SR (fun _ => none) (fun B => ¬ False) W c.s v0 := by
    obtain ⟨fuel, h⟩ := h0
    obtain ⟨c, _, h1⟩ := rdT _ _ _ h
    exact ⟨c, agg_of (by show (2 : Nat) ≠ 1; decide) h1⟩
  obtain ⟨x1, y1, z1, rfl⟩ := okWide_slice (show Tryz.prog.underlying 25 = some (.slice 41) by kernel_rfl) (hval 1 25 v1 rfl rfl)
  obtain ⟨a1, s1⟩ : ∃ l : List HC, SR (fun _ => none) (fun B => ¬ False) W (SC l) (.slice x1 y1 z1) := by
    obtain ⟨fuel, h⟩ := h1
    obtain ⟨l, _, h1⟩ := rdCells _ _ _ h
    exact ⟨l, one_of rfl h1⟩
  obtain ⟨x2, y2, z2, rfl⟩ := okWide_slice (show Tryz.prog.underlying 26 = some (.slice 43) by kernel_rfl) (hval 2 26 v2 rfl rfl)
  obtain ⟨a2, s2⟩ : ∃ l : List HQ, SR (fun _ => none) (fun B => ¬ False) W (SQ l) (.slice x2 y2 z2) := by
    obtain ⟨fuel, h⟩ := h2
    obtain ⟨l, _, h1⟩ := rdQs _ _ _ h
    exact ⟨l, one_of rfl h1⟩
  have := (HideExposes_c a0 a1 a2).2 (fun _ => False) (fun _ => none) W #[v0, .slice x1 y1 z1, .slice x2 y2 z2] (fun _ h => h.elim) (fun g cs h => by cases h) rfl (fun i hi => by
    match i, hi with
    | 0, _ => exact s0
    | 1, _ => exact s1
    | 2, _ => exact s2)
  refine (callsIn_wide.1 this).mono fun e W' ⟨v, he, hv, ha⟩ => ?_
  have hv1 : v = .bool true := by cases hv with | d _ _ h => cases h; rfl
  subst hv1
  exact ⟨_, he, post_true rfl (by kernel_rfl) (by rw [Tryz.params3]; exact hideExposes_pars) hW' rfl ha⟩
theorem hideExposes_holds : Rows.HideExposesSaid :=
  OpenClaim.holds_of_wide 3 Tryz.f3 rfl rfl rfl rfl rfl rfl rfl ⟨rfl, rfl, rfl, rfl, rfl⟩ rfl rfl rfl rfl rfl (by kernel_rfl) Tryz.func3 (by kernel_rfl)
    (of_decide_eq_true (by kernel_rfl)) (by unfold Func.isWrapper; first | (rw [if_pos (by decide +kernel)]; kernel_rfl) | (rw [if_neg (by decide +kernel)]; exact ⟨rfl, rfl⟩))
    (fun os started H enc _ => hideExposes_lifted os started H enc)
#print axioms hideExposes_holds
end Go.Proofs.YtijechcadlklhaaGreat
