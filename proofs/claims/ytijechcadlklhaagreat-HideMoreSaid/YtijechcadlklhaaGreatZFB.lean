/- HideMore: whatever the input, the law returns true, and each argument reads behind the call as it read before. Conditions: none. -/
import Derived.Test.YtijechcadlklhaaGreatZFA
import Derived.Test.YtijechcadlklhaaGreatRows
set_option linter.unusedVariables false
namespace Go.Proofs.YtijechcadlklhaaGreat
open Go.Sy Go.Deep Go.ChangeShapes Go.WideShapes Go.ChangeAt Go.WideElems Go.RowKit
theorem hideMore_pars : ∀ t ∈ [24, 25, 5, 43], Tryz.prog.readableRec t = true ∧ t < Tryz.prog.types.size := fun t ht => by
  rcases List.mem_cons.1 ht with rfl | h0
  · exact ⟨by kernel_rfl, of_decide_eq_true (by kernel_rfl)⟩
  rcases List.mem_cons.1 h0 with rfl | h1
  · exact ⟨by kernel_rfl, of_decide_eq_true (by kernel_rfl)⟩
  rcases List.mem_cons.1 h1 with rfl | h2
  · exact ⟨by kernel_rfl, of_decide_eq_true (by kernel_rfl)⟩
  rcases List.mem_cons.1 h2 with rfl | h3
  · exact ⟨by kernel_rfl, of_decide_eq_true (by kernel_rfl)⟩
  cases h3
set_option maxRecDepth 100000 in
theorem hideMore_lifted (os : Os) (started : os.Started) (H : Type) (enc : TypeId × Value → H) :
    ReturnsInHanded {} Tryz.checked os 5 .any (Rows.hideMoreSpec.pre6 enc Tryz.prog Tryz.f5 [] false) (Rows.hideMoreSpec.post enc Tryz.prog Tryz.f5 false true false false) := by
  refine returnsInHanded_of_change (C := Tryz.checked) Tryz.ownK started (by kernel_rfl) Tryz.func5
    (ChangeSpec.witness6 (enc := enc) (C := Tryz.checked) false ⟨#[], #[.agg #[.slice none 0 0, .int .i64 0], .slice none 0 0, .int .u8 0, .agg #[.int .i64 0, .int .i64 0, .int .i64 0, .int .i64 0]], []⟩ 8 (by kernel_rfl) (by kernel_rfl) (by kernel_rfl) (by kernel_rfl)) ?_
  intro W base args ds gs before hval0 hW _ _
  have hval : ∀ (j : Nat) t v, Tryz.f5.params[j]? = some t → args[j]? = some v → Value.okWide Tryz.prog W .any base t v := hval0
  have hW' := hW
  obtain ⟨p, q, hA0, hV, _, _, _⟩ := hW
  have hA : DataW.TrodAll enc Tryz.prog W 0 (fun _ => true) true Tryz.f5.params.toList args.toList ds p := hA0
  rw [Tryz.params5] at hA hval
  obtain ⟨v0, v1, v2, v3, d0, d1, d2, d3, p0, p1, p2, p3, rfl, rfl, _, h0, h1, h2, h3⟩ := trodAll_four hA
  obtain ⟨a0, s0⟩ : ∃ c : HT, SR (fun _ => none) (fun B => ¬ False) W c.s v0 := by
    obtain ⟨fuel, h⟩ := h0
    obtain ⟨c, _, h1⟩ := rdT _ _ _ h
    exact ⟨c, agg_of (by show (2 : Nat) ≠ 1; decide) h1⟩
  obtain ⟨x1, y1, z1, rfl⟩ := okWide_slice (show Tryz.prog.underlying 25 = some (.slice 41) by kernel_rfl) (hval 1 25 v1 rfl rfl)
  obtain ⟨a1, s1⟩ : ∃ l : List HC, SR (fun _ => none) (fun B => ¬ False) W (SC l) (.slice x1 y1 z1) := by
    obtain ⟨fuel, h⟩ := h1
    obtain ⟨l, _, h1⟩ := rdCells _ _ _ h
    exact ⟨l, one_of rfl h1⟩
  obtain ⟨b2, rfl, _, _, wf2⟩ := open_int (show Tryz.prog.underlying 5 = some (.int .u8) by kernel_rfl) (hval 2 5 v2 rfl rfl) h2
  have bd2 := Go.bounds_u8 wf2
  obtain ⟨a2, rfl⟩ := Int.eq_ofNat_of_zero_le bd2.1
  obtain ⟨a3, s3⟩ : ∃ c : HQ, SR (fun _ => none) (fun B => ¬ False) W c.s v3 := by
    obtain ⟨fuel, h⟩ := h3
    obtain ⟨c, _, h1⟩ := rdQ _ _ _ h
    exact ⟨c, agg_of (by show (4 : Nat) ≠ 1; decide) h1⟩
  have := (HideMore_c a0 a1 a2 a3 (by omega)).2 (fun _ => False) (fun _ => none) W #[v0, .slice x1 y1 z1, .int .u8 (a2 : Nat), v3] (fun _ h => h.elim) (fun g cs h => by cases h) rfl (fun i hi => by
    match i, hi with
    | 0, _ => exact s0
    | 1, _ => exact s1
    | 2, _ => exact SR.d _ _ (DR.lit _ rfl)
    | 3, _ => exact s3)
  refine (callsIn_wide.1 this).mono fun e W' ⟨v, he, hv, ha⟩ => ?_
  have hv1 : v = .bool true := by cases hv with | d _ _ h => cases h; rfl
  subst hv1
  exact ⟨_, he, post_true rfl (by kernel_rfl) (by rw [Tryz.params5]; exact hideMore_pars) hW' rfl ha⟩
theorem hideMore_holds : Rows.HideMoreSaid :=
  OpenClaim.holds_of_wide 5 Tryz.f5 rfl rfl rfl rfl rfl rfl rfl ⟨rfl, rfl, rfl, rfl, rfl⟩ rfl rfl rfl rfl rfl (by kernel_rfl) Tryz.func5 (by kernel_rfl)
    (of_decide_eq_true (by kernel_rfl)) (by unfold Func.isWrapper; first | (rw [if_pos (by decide +kernel)]; kernel_rfl) | (rw [if_neg (by decide +kernel)]; exact ⟨rfl, rfl⟩))
    (fun os started H enc _ => hideMore_lifted os started H enc)
#print axioms hideMore_holds
end Go.Proofs.YtijechcadlklhaaGreat
