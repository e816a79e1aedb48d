/- Lemmas, part XTA. Conditions: none. -/
import Derived.Test.YtcnkbdfkjhlbiaaDoorXPBC
import Derived.Carry
set_option linter.unusedVariables false
namespace Go.Proofs.YtcnkbdfkjhlbiaaDoor
open Go.Sy
theorem ty.sz77 : tsz Tryd.prog 77 = some 1 := by kernel_rfl
theorem ty.agg77 : tagg Tryd.prog 77 = some false := by kernel_rfl
theorem ty.zero77 : tzero Tryd.prog 77 = some (SV.d (.lit (.int .u16 0)) :: []) := by kernel_rfl
theorem ty.elem77 : telem Tryd.prog 77 = none := by kernel_rfl
theorem ty.und77 : Tryd.prog.underlying 77 = some (.int .u16) := by kernel_rfl
end Go.Proofs.YtcnkbdfkjhlbiaaDoor
namespace Go.Sy
theorem exPick_and (a b : Bool) (K : SV → Prop) (h : K (.d (.lit (.bool (a && b))))) : zH (.d (.lit (.bool a))) (if a = true then .d (.lit (.bool b)) else .unk) (.d (.lit (.bool false))) K := by
  cases a <;> cases b <;> exact h
section
variable {P : Program} {G : Nat → Option (List D)}
end
end Go.Sy
namespace Go.Proofs.YtcnkbdfkjhlbiaaDoor
set_option maxRecDepth 8000
theorem lexB_anti : ∀ (a b : List Int), a.length = b.length → lexB a b = false → lexB b a = false → a = b
  | [], [], _, _, _ => rfl
  | [], b :: y, h, _, _ => by cases h
  | a :: x, [], h, _, _ => by cases h
  | a :: x, b :: y, h, h1, h2 => by
    unfold lexB at h1 h2
    by_cases hab : a = b
    · subst hab
      rw [if_pos rfl] at h1 h2
      rw [lexB_anti x y (by simpa using h) h1 h2]
    · rw [if_neg hab, decide_eq_false_iff_not] at h1
      rw [if_neg (fun hc => hab hc.symm), decide_eq_false_iff_not] at h2
      omega
theorem lexB_trans : ∀ (a b c : List Int), a.length = b.length → b.length = c.length → lexB b a = false → lexB c b = false → lexB c a = false
  | [], _, c, _, _, _, _ => by cases c <;> rfl
  | a :: x, [], _, h, _, _, _ => by cases h
  | a :: x, b :: y, [], _, h, _, _ => by cases h
  | a :: x, b :: y, c :: z, h, h', h1, h2 => by
    unfold lexB at h1 h2 ⊢
    by_cases hab : b = a
    · subst hab
      rw [if_pos rfl] at h1
      by_cases hcb : c = b
      · subst hcb
        rw [if_pos rfl] at h2 ⊢
        exact lexB_trans x y z (by simpa using h) (by simpa using h') h1 h2
      · rw [if_neg hcb] at h2 ⊢; exact h2
    · rw [if_neg hab, decide_eq_false_iff_not] at h1
      by_cases hcb : c = b
      · subst hcb
        rw [if_neg hab, decide_eq_false_iff_not]; exact h1
      · rw [if_neg hcb, decide_eq_false_iff_not] at h2
        rw [if_neg (by omega), decide_eq_false_iff_not]; omega
theorem lessB_anti {a b : List Int} (h1 : lessB a b = false) (h2 : lessB b a = false) : a = b := by
  unfold lessB at h1 h2
  by_cases h : a.length = b.length
  · rw [if_pos h] at h1; rw [if_pos h.symm] at h2
    exact lexB_anti a b h h1 h2
  · rw [if_neg h, decide_eq_false_iff_not] at h1
    rw [if_neg (fun hc => h hc.symm), decide_eq_false_iff_not] at h2
    omega
theorem lessB_trans {a b c : List Int} (h1 : lessB b a = false) (h2 : lessB c b = false) : lessB c a = false := by
  unfold lessB at h1 h2 ⊢
  by_cases h : b.length = a.length
  · rw [if_pos h] at h1
    by_cases h' : c.length = b.length
    · rw [if_pos h'] at h2
      rw [if_pos (by omega)]
      exact lexB_trans a b c h.symm h'.symm h1 h2
    · rw [if_neg h', decide_eq_false_iff_not] at h2
      rw [if_neg (by omega), decide_eq_false_iff_not]; omega
  · rw [if_neg h, decide_eq_false_iff_not] at h1
    by_cases h' : c.length = b.length
    · rw [if_neg (by omega), decide_eq_false_iff_not]; omega
    · rw [if_neg h', decide_eq_false_iff_not] at h2
      rw [if_neg (by omega), decide_eq_false_iff_not]; omega
theorem cmp_eq {a b : Int} : cmp a b = 0 ↔ a = b := by
  unfold cmp
  split
  · constructor <;> intro h <;> omega
  · split
    · constructor <;> intro h <;> omega
    · constructor <;> intro h <;> omega
theorem cmp_pos {a b : Int} : cmp a b > 0 ↔ b < a := by
  unfold cmp
  split
  · constructor <;> intro h <;> omega
  · split
    · constructor <;> intro h <;> omega
    · constructor <;> intro h <;> omega
theorem cmpL_pos : ∀ (a b : List Int), a.length = b.length → (decide (cmpL a b > 0) = lexB b a)
  | [], [], _ => rfl
  | [], b :: y, h => by cases h
  | a :: x, [], h => by cases h
  | a :: x, b :: y, h => by
    unfold cmpL lexB
    by_cases hab : a = b
    · rw [if_pos (cmp_eq.2 hab), if_pos hab.symm]
      exact cmpL_pos x y (by simpa using h)
    · rw [if_neg (fun hc => hab (cmp_eq.1 hc)), if_neg (fun hc => hab hc.symm), decide_eq_decide]
      exact cmp_pos
theorem Best.zero {f : Nat → List Int} {ok : Nat → Bool} : Best f ok 0 none := ⟨fun l h => (by cases h), fun b hb => (by omega)⟩
theorem Best.keep {f : Nat → List Int} {ok : Nat → Bool} {n : Nat} {o : Option (List Int)} (h : Best f ok n o) (hk : ok n = true → ∃ l, o = some l ∧ lessB (f n) l = false) : Best f ok (n + 1) o := by
  refine ⟨fun l hl => ?_, fun b hb hok => ?_⟩
  · obtain ⟨b, h1, h2⟩ := h.from' l hl; exact ⟨b, by omega, h2⟩
  · by_cases hbn : b = n
    · subst hbn; exact hk hok
    · exact h.least b (by omega) hok
theorem Best.take {f : Nat → List Int} {ok : Nat → Bool} {n : Nat} {o : Option (List Int)} (h : Best f ok n o) (hn : ok n = true) (hk : ∀ l, o = some l → lessB l (f n) = false) : Best f ok (n + 1) (some (f n)) := by
  refine ⟨fun l hl => ⟨n, by omega, hn, Option.some.inj hl⟩, fun b hb hok => ⟨f n, rfl, ?_⟩⟩
  by_cases hbn : b = n
  · subst hbn
    unfold lessB; rw [if_pos rfl]
    have : ∀ l : List Int, lexB l l = false := by
      intro l
      induction l with
      | nil => rfl
      | cons a l ih => unfold lexB; rw [if_pos rfl, ih]
    exact this _
  · obtain ⟨l, h1, h2⟩ := h.least b (by omega) hok
    exact lessB_trans (hk l h1) h2
theorem Best.uniq {f : Nat → List Int} {ok : Nat → Bool} {n : Nat} {o o' : Option (List Int)} (h : Best f ok n o) (h' : Best f ok n o') : o = o' := by
  cases ho : o with
  | none =>
    cases ho' : o' with
    | none => rfl
    | some l' =>
      obtain ⟨b, h1, h2, _⟩ := h'.from' l' ho'
      obtain ⟨l, h3, _⟩ := h.least b h1 h2
      rw [ho] at h3; cases h3
  | some l =>
    obtain ⟨b, h1, h2, h3⟩ := h.from' l ho
    obtain ⟨l', h4, h5⟩ := h'.least b h1 h2
    obtain ⟨b', h6, h7, h8⟩ := h'.from' l' h4
    obtain ⟨l2, h9, h10⟩ := h.least b' h6 h7
    rw [ho] at h9
    obtain rfl := Option.some.inj h9
    rw [h3] at h5; rw [h8] at h10
    rw [h4, lessB_anti h5 h10]
def Census.refStep (c : Census) (o : Option (List Int)) (s : Nat) : Option (List Int) :=
  if (o.isNone || lessB (nats (elems s)) (o.getD [])) && decide (((c.without s).all.length : Int) > 0) then some (nats (elems s)) else o
def Census.refDrop (c : Census) (n : Nat) : Option (List Int) := (List.range n).foldl c.refStep none
theorem refDrop_succ (c : Census) (n : Nat) : c.refDrop (n + 1) = c.refStep (c.refDrop n) n := by simp [Census.refDrop, List.range_succ]
theorem without_fine {c : Census} (h : Fine c) (s : Nat) : Fine (c.without s) := by
  refine ⟨h.n10, Nat.le_trans (kept_len _ _ _) h.s6, Nat.le_trans (kept_len _ _ _) h.a6, h.ents, fun p hp => h.ps p (kept_mem (Nat.le_refl _) hp), fun p hp => h.pa p (kept_mem (Nat.le_refl _) hp), h.om, h.nu⟩
theorem lenPos {c : Census} (h : Fine c) : decide ((c.all.length : Int) > 0) = c.cons := by
  have h1 := all_nil h
  cases hc : c.cons
  · rw [h1.2 hc]; rfl
  · rw [decide_eq_true_eq]
    have : c.all ≠ [] := fun h2 => by rw [h1.1 h2] at hc; cases hc
    have := List.length_pos_iff.2 this
    omega
theorem refDrop_best {c : Census} (h : Fine c) : ∀ n, Best (fun s => nats (elems s)) (fun s => (c.without s).cons) n (c.refDrop n)
  | 0 => Best.zero
  | n + 1 => by
    have ih := refDrop_best h n
    rw [refDrop_succ]
    unfold Census.refStep
    rw [lenPos (without_fine h n)]
    by_cases hc : (c.without n).cons = true
    · rw [hc, Bool.and_true]
      by_cases hg : ((c.refDrop n).isNone || lessB (nats (elems n)) ((c.refDrop n).getD [])) = true
      · rw [if_pos hg]
        refine ih.take hc fun l hl => ?_
        rw [hl] at hg
        have hg : lessB (nats (elems n)) l = true := by simpa using hg
        cases hx : lessB l (nats (elems n))
        · rfl
        · exfalso
          unfold lessB at hg hx
          by_cases he : (nats (elems n)).length = l.length
          · rw [if_pos he] at hg; rw [if_pos he.symm] at hx
            have asy : ∀ (a b : List Int), lexB a b = true → lexB b a = true → False := by
              intro a
              induction a with
              | nil => intro b h1; simp [lexB] at h1
              | cons a x ih =>
                intro b h1 h2
                cases b with
                | nil => simp [lexB] at h1
                | cons b y =>
                  unfold lexB at h1 h2
                  by_cases hab : a = b
                  · subst hab
                    rw [if_pos rfl] at h1 h2
                    exact ih y h1 h2
                  · rw [if_neg hab, decide_eq_true_eq] at h1
                    rw [if_neg (fun hc => hab hc.symm), decide_eq_true_eq] at h2
                    omega
            exact asy _ _ hg hx
          · rw [if_neg he, decide_eq_true_eq] at hg
            rw [if_neg (fun hc => he hc.symm), decide_eq_true_eq] at hx
            omega
      · rw [if_neg hg]
        refine ih.keep fun _ => ?_
        cases ho : c.refDrop n with
        | none => rw [ho] at hg; exact absurd rfl hg
        | some l =>
          rw [ho] at hg
          exact ⟨l, rfl, by simpa using hg⟩
    · rw [if_neg (by simp [hc])]
      exact ih.keep fun h2 => absurd h2 hc
theorem dropOf_best {c : Census} (k : Nat) : ∀ n, Best (fun s => nats (elems s)) (fun s => (c.without s).cons && (elems s).length == k) n ((c.dropOf c.pairs k n).map nats)
  | 0 => Best.zero
  | n + 1 => by
    have ih := dropOf_best (c := c) k n
    rw [dropOf_succ]
    unfold Census.dropStep
    by_cases hg : ((elems n).length ≠ k ∨ ((c.dropOf c.pairs k n).isSome = true ∧ decide (cmpL (nats (elems n)) (nats ((c.dropOf c.pairs k n).getD [])) > 0) = true)) ∨ (c.without n).cons = false
    · rw [if_pos hg]
      refine ih.keep fun h2 => ?_
      simp only [Bool.and_eq_true, beq_iff_eq] at h2
      rcases hg with (hg | ⟨hg1, hg2⟩) | hg
      · exact absurd h2.2 hg
      · cases ho : c.dropOf c.pairs k n with
        | none => rw [ho] at hg1; cases hg1
        | some l =>
          rw [ho] at hg2 ih
          refine ⟨nats l, rfl, ?_⟩
          obtain ⟨b, _, hb, hbl⟩ := ih.from' (nats l) rfl
          simp only [Bool.and_eq_true, beq_iff_eq] at hb
          have hlen : (nats (elems n)).length = (nats l).length := by rw [← hbl, nats_len, nats_len]; omega
          have hg2 : decide (cmpL (nats (elems n)) (nats l) > 0) = true := hg2
          rw [cmpL_pos _ _ hlen] at hg2
          unfold lessB
          rw [if_pos hlen]
          cases hx : lexB (nats (elems n)) (nats l)
          · rfl
          · exfalso
            have asy : ∀ (a b : List Int), lexB a b = true → lexB b a = true → False := by
              intro a
              induction a with
              | nil => intro b h1; simp [lexB] at h1
              | cons a x ih =>
                intro b h1 h2
                cases b with
                | nil => simp [lexB] at h1
                | cons b y =>
                  unfold lexB at h1 h2
                  by_cases hab : a = b
                  · subst hab
                    rw [if_pos rfl] at h1 h2
                    exact ih y h1 h2
                  · rw [if_neg hab, decide_eq_true_eq] at h1
                    rw [if_neg (fun hc => hab hc.symm), decide_eq_true_eq] at h2
                    omega
            exact asy _ _ hg2 hx
      · rw [hg] at h2; cases h2.1
    · rw [if_neg hg]
      rw [not_or, not_or] at hg
      obtain ⟨⟨g1, g2⟩, g3⟩ := hg
      have g1 : (elems n).length = k := Decidable.not_not.1 g1
      have g3 : (c.without n).cons = true := by simpa using g3
      refine ih.take (by simp [g1, g3]) fun l hl => ?_
      cases ho : c.dropOf c.pairs k n with
      | none => rw [ho] at hl; cases hl
      | some l' =>
        rw [ho] at hl g2 ih
        obtain rfl : nats l' = l := Option.some.inj hl
        obtain ⟨b, _, hb, hbl⟩ := ih.from' (nats l') rfl
        simp only [Bool.and_eq_true, beq_iff_eq] at hb
        have hlen : (nats (elems n)).length = (nats l').length := by rw [← hbl, nats_len, nats_len]; omega
        have g2 : ¬ (decide (cmpL (nats (elems n)) (nats l') > 0) = true) := fun hc => g2 ⟨rfl, hc⟩
        rw [cmpL_pos _ _ hlen] at g2
        unfold lessB
        rw [if_pos hlen.symm]
        simpa using g2
theorem without_allow {c : Census} {s : Nat} {f : Nat → Nat} (h : Allow (c.without s) f) {t : Nat} (hst : ∀ i, i < c.pairs → s.testBit i = true → t.testBit i = true) : Allow (c.without t) f := by
  have key : ∀ (l : List Pair) (o : Nat), o + l.length ≤ c.pairs → ∀ p, p ∈ kept (fun i => !t.testBit (o + i)) l l.length → p ∈ kept (fun i => !s.testBit (o + i)) l l.length := by
    intro l o ho p hp
    simp only [kept, List.mem_map, List.mem_filter, List.mem_range] at hp ⊢
    obtain ⟨i, ⟨hi, hg⟩, rfl⟩ := hp
    refine ⟨i, ⟨hi, ?_⟩, rfl⟩
    cases hs : s.testBit (o + i)
    · rfl
    · rw [hst (o + i) (by omega) hs] at hg; cases hg
  refine ⟨h.fits, fun p hp => h.same p ?_, fun p hp => h.apart p ?_⟩
  · have := key c.same 0 (by unfold Census.pairs; omega) p (by simpa [Census.without] using hp)
    simpa [Census.without] using this
  · exact key c.apart c.same.length (Nat.le_refl _) p hp
theorem without_mono {c : Census} (h : Fine c) {s t : Nat} (hst : ∀ i, i < c.pairs → s.testBit i = true → t.testBit i = true) (hs : (c.without s).cons = true) : (c.without t).cons = true := by
  have h1 := without_fine h s
  have h2 := without_fine h t
  obtain ⟨m, ⟨f, ha, he⟩, hm⟩ := (cons_iff h1.pairs h1.n10 h1.lims).1 hs
  exact (cons_iff h2.pairs h2.n10 h2.lims).2 ⟨m, ⟨f, without_allow ha hst, he⟩, hm⟩
theorem drop_none {c : Census} (h : Fine c) (hn : (c.without (2 ^ c.pairs - 1)).cons = false) (s : Nat) : (c.without s).cons = false := by
  cases hs : (c.without s).cons
  · rfl
  · rw [without_mono h (t := 2 ^ c.pairs - 1) (fun i hi _ => by rw [Nat.testBit_two_pow_sub_one, decide_eq_true_eq]; exact hi) hs] at hn; cases hn
theorem dropL_best {c : Census} (h : Fine c) (hn : (c.without (2 ^ c.pairs - 1)).cons = true) : Best (fun s => nats (elems s)) (fun s => (c.without s).cons) (2 ^ c.pairs) (some (nats c.dropL)) := by
  have hp12 : c.pairs ≤ 12 := by have := h.s6; have := h.a6; unfold Census.pairs; omega
  have hel : ∀ b, b < 2 ^ c.pairs → (elems b).length ≤ c.pairs := fun b hb => by
    have hsub : (elems b) ⊆ List.range c.pairs := fun x hx => List.mem_range.2 (elems_lt hx hb)
    have hnd : (elems b).Nodup := (elems_sorted b).imp fun h => Nat.ne_of_lt h
    have := hnd.length_le_of_subset hsub
    rwa [List.length_range] at this
  have hw : 2 ^ c.pairs - 1 < 2 ^ c.pairs := Nat.sub_lt (Nat.two_pow_pos _) (by omega)
  have hex : ∃ k, k < c.pairs + 1 ∧ (c.dropOf c.pairs k (2 ^ c.pairs)).isSome = true := by
    refine ⟨(elems (2 ^ c.pairs - 1)).length, by have := hel _ hw; omega, ?_⟩
    obtain ⟨l, hl, _⟩ := (dropOf_best (c := c) (elems (2 ^ c.pairs - 1)).length (2 ^ c.pairs)).least _ hw (by simp [hn])
    cases ho : c.dropOf c.pairs (elems (2 ^ c.pairs - 1)).length (2 ^ c.pairs) with
    | none => rw [ho] at hl; cases hl
    | some l => rfl
  have hfirst : ∀ m, m ≤ c.pairs + 1 → (∃ k, k < m ∧ (c.dropOf c.pairs k (2 ^ c.pairs)).isSome = true) → ∃ k l, k < c.pairs + 1 ∧ c.dropOf c.pairs k (2 ^ c.pairs) = some l ∧ ∀ j, j < k → c.dropOf c.pairs j (2 ^ c.pairs) = none := by
    intro m
    induction m with
    | zero => rintro _ ⟨k, hk, _⟩; omega
    | succ m ih =>
      intro hm hx
      by_cases hx2 : ∃ k, k < m ∧ (c.dropOf c.pairs k (2 ^ c.pairs)).isSome = true
      · exact ih (by omega) hx2
      · obtain ⟨k, hk, hs⟩ := hx
        have : k = m := by
          by_cases hkm : k = m
          · exact hkm
          · exact absurd ⟨k, by omega, hs⟩ hx2
        subst this
        obtain ⟨l, hl⟩ := Option.isSome_iff_exists.1 hs
        refine ⟨k, l, by omega, hl, fun j hj => ?_⟩
        cases hd : c.dropOf c.pairs j (2 ^ c.pairs) with
        | none => rfl
        | some x => exact absurd ⟨j, hj, by rw [hd]; rfl⟩ hx2
  obtain ⟨k, l, hk, hl, hno⟩ := hfirst (c.pairs + 1) (Nat.le_refl _) hex
  have hdl : c.dropL = l := by
    unfold Census.dropL
    rw [fs_some hno hl hk]; rfl
  rw [hdl]
  have hb := dropOf_best (c := c) k (2 ^ c.pairs)
  rw [hl] at hb
  refine ⟨fun l' hl' => ?_, fun b hb' hok => ⟨nats l, rfl, ?_⟩⟩
  · obtain ⟨b, h1, h2, h3⟩ := hb.from' l' hl'
    simp only [Bool.and_eq_true] at h2
    exact ⟨b, h1, h2.1, h3⟩
  · obtain ⟨b0, _, h2, h3⟩ := hb.from' (nats l) rfl
    simp only [Bool.and_eq_true, beq_iff_eq] at h2
    have hll : (nats l).length = k := by rw [← h3, nats_len]; exact h2.2
    have hge : k ≤ (elems b).length := by
      rcases Nat.lt_or_ge (elems b).length k with hlt | hge
      · exfalso
        obtain ⟨x, hx, _⟩ := (dropOf_best (c := c) (elems b).length (2 ^ c.pairs)).least b hb' (by simp [hok])
        rw [hno _ hlt] at hx; cases hx
      · exact hge
    by_cases he : (elems b).length = k
    · obtain ⟨x, hx, hx2⟩ := hb.least b hb' (by simp [hok, he])
      obtain rfl := Option.some.inj hx
      exact hx2
    · unfold lessB
      rw [nats_len, if_neg (by omega), decide_eq_false_iff_not]; omega
theorem drop_law {c : Census} (h : Fine c) : (c.refDrop (2 ^ c.pairs) = none ∧ c.dropS = ([], 9)) ∨ (∃ l, c.refDrop (2 ^ c.pairs) = some l ∧ nats c.dropL = l ∧ c.dropS = (c.dropL, 0)) := by
  have hck := fine_iff.2 h
  have hz : ¬ (c.check ≠ 0) := fun hc => hc hck
  have hr := refDrop_best h (2 ^ c.pairs)
  have hw : 2 ^ c.pairs - 1 < 2 ^ c.pairs := Nat.sub_lt (Nat.two_pow_pos _) (by omega)
  unfold Census.dropS
  rw [if_neg hz]
  cases hn : (c.without (2 ^ c.pairs - 1)).cons
  · rw [if_pos rfl]
    cases ho : c.refDrop (2 ^ c.pairs) with
    | none => exact .inl ⟨rfl, rfl⟩
    | some l =>
      obtain ⟨b, _, h2, _⟩ := hr.from' l ho
      have := drop_none h hn b
      have h2 : (c.without b).cons = true := h2
      rw [this] at h2; cases h2
  · rw [if_neg (by decide)]
    have hb := (dropL_best h hn).uniq hr
    exact .inr ⟨_, hb.symm, rfl, rfl⟩
end Go.Proofs.YtcnkbdfkjhlbiaaDoor
namespace Go.Sy
section
variable {P : Program} {G : Nat → Option (List D)} {ro : Option Nat} {ops : Array Oper} {ul louds : List Nat}
theorem GdV.and {i : Nat} {acc : List (Nat × Tmp)} {o : Oper} {os : List Oper} {st : St} {g : Bool} {lds : List Nat} {K : St → Prop} {a b : Bool} (h : g = true → pickArgs o (fun x => gstrip (ev G st.tm x)) = some (.d (.lit (.bool a)), if a = true then .d (.lit (.bool b)) else .unk, .d (.lit (.bool false))))
    (k : exV P G ul louds os (i + 1) (addA i o.dst acc) ⟨putT o.dst (.whn g (.d (.lit (.bool (a && b))))) st.tm, st.hp, st.nx, st.nt, st.df, st.nb⟩ lds K) : GdV P G ul louds i acc o os st g lds K :=
  GdV.mk _ (fun hg => by rw [x5 (pick_callV (h hg))]; exact exq_pick (h hg) (exPick_and a b _ ⟨rfl, rfl, rfl⟩)) k
end
end Go.Sy
namespace Go.Proofs.YtcnkbdfkjhlbiaaDoor
open Go.Sy
set_option maxRecDepth 8000
theorem nats_at (v : List Nat) (k : Nat) : (nats v).getD k 0 = (v.getD k 0 : Nat) := by
  unfold nats
  simp only [List.getD_eq_getElem?_getD, List.getElem?_map]
  cases v[k]? <;> rfl
theorem ib (p q : Nat) : ((p : Int) == (q : Int)) = (p == q) := by
  rw [Bool.eq_iff_iff, beq_iff_eq, beq_iff_eq]; omega
end Go.Proofs.YtcnkbdfkjhlbiaaDoor
namespace Go.Proofs.YtcnkbdfkjhlbiaaDoor
open Go.Sy
set_option maxRecDepth 8000
theorem shr_i {a n : Nat} (ha : a < 18446744073709551616) : (a : Int).fdiv (2 ^ min n IntKind.i64.bits) = ((a >>> n : Nat) : Int) := shr_u ha
theorem shr_step (s k : Nat) : s >>> (k + 1) = s >>> k / 2 := by rw [Nat.shiftRight_succ]
theorem tmod2 (n : Nat) : ((n : Int).tmod 2 == 1) = (n % 2 == 1) := by
  rw [show (n : Int).tmod 2 = ((n % 2 : Nat) : Int) from by rw [Int.natCast_emod, Int.tmod_eq_emod_of_nonneg (Int.natCast_nonneg _)]; rfl]
  have : n % 2 = 0 ∨ n % 2 = 1 := by omega
  rcases this with h | h <;> rw [h] <;> rfl
abbrev tysW28_30 := And.intro ty.sz3 <| And.intro ty.agg3 <| And.intro ty.elem3 <| And.intro ty.zero3 <| And.intro ty.und3 <| And.intro ty.sz4 <| And.intro ty.agg4 <| And.intro ty.elem4 <| And.intro ty.zero4 <| And.intro ty.und4 <| And.intro ty.sz43 <| And.intro ty.agg43 <| And.intro ty.elem43 <| And.intro ty.by43 <| And.intro ty.ez43 <| And.intro ty.zero43 <| And.intro ty.und43 <| And.intro ty.sz49 <| And.intro ty.agg49 <| And.intro ty.elem49 <| And.intro ty.zero49 <| ty.und49
theorem List_c (s : Nat) (h : s < 4096) : CallP Tryd.prog G0 30 [I s] (SI (nats (elems s))) := by
  refine CallP.body 23 [.tmp 2] Tryd.func30 (by kernel_rfl) rfl rfl rfl (by repeat' (first | exact Pure.d _ | exact Pure.dx _ | exact Pure.dp _ | exact fa_nil | refine fa_cons ?_ ?_ | refine Pure.agg ?_ | refine Pure.tup ?_ | refine Pure.clo ?_ ?_ | refine Pure.fp ?_ | exact Pure.mapd _ | assumption)) (by repeat' (first | exact Pure.d _ | exact Pure.dx _ | exact Pure.dp _ | exact fa_nil | refine fa_cons ?_ ?_ | refine Pure.agg ?_ | refine Pure.tup ?_ | refine Pure.clo ?_ ?_ | refine Pure.fp ?_ | exact Pure.mapd _ | assumption)) ?_
  refine Tr.reg [0] (by
      simp only [↓sxd, sxu, ↓zE, ↓exq, St.keep, Nat.reduceBEq, Nat.reduceLT]
      (repeat' (first | rfl | exact trivial | exact fun h => h | exact fun h => (by rw [h]; rfl) | apply And.intro | omega | exact Nat.le_of_ble_eq_true rfl))) ?_
  refine Tr.reg [0, 3] (by
      simp only [↓sxd, sxu, ↓zE, ↓exq, St.keep, Nat.reduceBEq, Nat.reduceLT]
      (repeat' (first | rfl | exact trivial | exact fun h => h | exact fun h => (by rw [h]; rfl) | apply And.intro | omega | exact Nat.le_of_ble_eq_true rfl))) ?_
  refine Tr.seq ?_
  refine Tr.reg [0, 3, 4] (by
      simp only [↓sxd, sxu, ↓zE, ↓exq, St.keep, Nat.reduceBEq, Nat.reduceLT]
      (repeat' (first | rfl | exact trivial | exact fun h => h | exact fun h => (by rw [h]; rfl) | apply And.intro | omega | exact Nat.le_of_ble_eq_true rfl))) ?_
  refine Tr.imp (st' := ⟨[(0, I s), (3, .slc 0 1 0 [].length [].length), (4, I 0)], [(0, .arr 1 ([].map fun (n : Nat) => [I n]))], 1, 23, [], 0⟩) (Imp.goV 1 rfl rfl rfl rfl (by repeat' (first | exact trivial | exact F2.nil | refine F2.cons ?_ ?_ | refine TmV.cons rfl VnS.nil ?_ | refine TmV.cons rfl VnS.same ?_ | refine ⟨rfl, ?_⟩ | exact VnO.same _ | refine VnO.arr ?_ | exact VnS.nil | exact VnS.same | exact F2.refl fun _ _ => VnS.same)) (by repeat' (first | exact trivial | exact F2.nil | refine F2.cons ?_ ?_ | refine TmV.cons rfl VnS.nil ?_ | refine TmV.cons rfl VnS.same ?_ | refine ⟨rfl, ?_⟩ | exact VnO.same _ | refine VnO.arr ?_ | exact VnS.nil | exact VnS.same | exact F2.refl fun _ _ => VnS.same))) (Tr.block (Tr.loopI (fun mm ss => ∃ (o : List Nat) (k : Nat), (k ≤ 12 ∧ o.length ≤ k ∧ o ++ el (16 - k) k (s >>> k) = elems s) ∧ 16 - k = mm ∧ ss = ⟨[(0, I s), (3, .slc 0 1 0 o.length o.length), (4, I k)], [(0, .arr 1 (o.map fun (n : Nat) => [I n]))], 1, 23, [], 0⟩) _ ⟨[], 0, ?_, rfl, rfl⟩ ?_))
  · exact ⟨by omega, Nat.zero_le _, rfl⟩
  rintro mm ss ⟨o, k, hI, rfl, rfl⟩
  obtain ⟨hI, hol, he⟩ := hI
  have wk : IntKind.u64.wrap (k : Int) = (k : Int) := wun (by omega)
  have hs64 : s < 18446744073709551616 := by omega
  refine Tr.seq ?_
  refine Tr.reg [0, 3, 4, 9] (by
      simp only [↓sxd, sxu, ↓zE, ↓exq, St.keep, ↓xB, Nat.reduceBEq, Nat.reduceLT, sxe, tysW28_30, wk, shr_i hs64]
      (repeat' (first | rfl | exact trivial | exact fun h => h | exact fun h => (by rw [h]; rfl) | apply And.intro | omega | exact Nat.le_of_ble_eq_true rfl))) ?_
  refine Tr.cond rfl (fun h9 => ?_) (fun h9 => ?_)
  · have hx0 : s >>> k ≠ 0 := by have := of_decide_eq_true h9; omega
    have hk12 : k < 12 := by
      refine Classical.byContradiction fun hn => hx0 ?_
      rw [Nat.shiftRight_eq_div_pow]
      exact Nat.div_eq_of_lt (Nat.lt_of_lt_of_le h (Nat.pow_le_pow_right (n := 2) (by omega) (show 12 ≤ k by omega)))
    have hel : el (16 - k) k (s >>> k) = if s >>> k % 2 = 1 then k :: el (16 - (k + 1)) (k + 1) (s >>> (k + 1)) else el (16 - (k + 1)) (k + 1) (s >>> (k + 1)) := by
      rw [show 16 - k = (16 - (k + 1)) + 1 by omega, el, if_neg hx0, shr_step]
    refine Tr.skip ?_
    refine Tr.seq ?_
    refine Tr.block ?_
    refine Tr.reg [0, 3, 4, 17] (by
        simp only [↓sxd, sxu, ↓zE, ↓exq, St.keep, ↓xB, Nat.reduceBEq, Nat.reduceLT, sxe, tysW28_30, wk, shr_i hs64]
        (repeat' (first | rfl | exact trivial | exact fun h => h | exact fun h => (by rw [h]; rfl) | apply And.intro | omega | exact Nat.le_of_ble_eq_true rfl))) ?_
    refine Tr.cond rfl (fun h17 => ?_) (fun h17 => ?_)
    · have hb : s >>> k % 2 = 1 := by rw [tmod2] at h17; simpa using h17
      rw [if_pos hb] at hel
      refine Tr.reg1 [0, 3, 4] (by
          simp only [↓sxd, sxu, ↓zE, ↓exq, ↓zB, St.keep, ↓zG, ↓zQ, Nat.reduceBEq, Nat.reduceAdd, Nat.reduceLT, Nat.reduceLeDiff, Nat.reduceEqDiff, tysW28_30]
          (repeat' (first | rfl | exact trivial | exact fun h => h | exact fun h => (by rw [h]; rfl) | apply And.intro | omega | exact Nat.le_of_ble_eq_true rfl))) ?_
      have w1 : IntKind.i64.wrap ((k : Int) + 1) = ((k + 1 : Nat) : Int) := by rw [wr (by omega) (by omega)]; rfl
      refine Tr.reg1 [0, 3, 4] (by
          simp only [↓sxd, sxu, ↓zE, ↓exq, St.keep, Nat.reduceBEq, Nat.reduceLT, w1]
          (repeat' (first | rfl | exact trivial | exact fun h => h | exact fun h => (by rw [h]; rfl) | apply And.intro | omega | exact Nat.le_of_ble_eq_true rfl))) ?_
      first |(exact ⟨_, _, by omega, Imp.go (fun i => i + 1) _ rfl rfl (List.Sublist.refl _) (by simp) (by simp) (by simp only [List.length_append, List.length_cons, List.length_nil, Nat.zero_add, Int.natCast_add, Int.natCast_one]; repeat' (first | exact TmT.cons rfl (TnS.d _) ?_ | exact trivial | exact F2.nil | refine F2.append ?_ ?_ | refine F2.map fun _ _ => ?_ | refine F2.cons ?_ ?_ | refine TmT.cons rfl ?_ ?_ | exact TnS.d _ | exact TnS.dx _ | exact TnS.dp _ | exact TnS.slc rfl | exact TnS.ptr rfl | refine TnS.frzf rfl (by simp) (by simp) (by simp) ?_ | refine TnS.frz0 rfl (by simp) (by simp) (by simp) ?_ | refine TnS.frzm rfl (by simp) ?_ | exact TnS.mapr rfl | exact TnS.yld rfl | refine ⟨rfl, ?_⟩ | refine TnO.arr ?_ | refine TnO.map ?_ | exact TnO.raw _ | exact TnO.iter _ _ | refine TnS.agg ?_ | refine TnS.tup ?_ | exact TnS.pure (Pure.clo (by assumption) (by assumption)) | refine TnS.clo ?_ ?_ | exact TnS.unk _ | exact TnS.pure (Pure.clo (by assumption) (by assumption)))) (by simp only [List.map_append, List.map_cons, List.map_nil]; repeat' (first | exact TmT.cons rfl (TnS.d _) ?_ | exact trivial | exact F2.nil | refine F2.append ?_ ?_ | refine F2.map fun _ _ => ?_ | refine F2.cons ?_ ?_ | refine TmT.cons rfl ?_ ?_ | exact TnS.d _ | exact TnS.dx _ | exact TnS.dp _ | exact TnS.slc rfl | exact TnS.ptr rfl | refine TnS.frzf rfl (by simp) (by simp) (by simp) ?_ | refine TnS.frz0 rfl (by simp) (by simp) (by simp) ?_ | refine TnS.frzm rfl (by simp) ?_ | exact TnS.mapr rfl | exact TnS.yld rfl | refine ⟨rfl, ?_⟩ | refine TnO.arr ?_ | refine TnO.map ?_ | exact TnO.raw _ | exact TnO.iter _ _ | refine TnS.agg ?_ | refine TnS.tup ?_ | exact TnS.pure (Pure.clo (by assumption) (by assumption)) | refine TnS.clo ?_ ?_ | exact TnS.unk _ | exact TnS.pure (Pure.clo (by assumption) (by assumption)))) (fun _ => rfl), ⟨o ++ [k], k + 1, ⟨by omega, by simp; omega, by rw [← he, hel, List.append_assoc]; rfl⟩, rfl, rfl⟩⟩) |(exact ⟨_, _, by omega, Imp.keepAll, ⟨o, k + 1, ⟨by omega, by omega, by rw [← he, hel]⟩, rfl, rfl⟩⟩)
    · have hb : ¬ s >>> k % 2 = 1 := by rw [tmod2] at h17; simpa using h17
      rw [if_neg hb] at hel
      refine Tr.skip ?_
      have w1 : IntKind.i64.wrap ((k : Int) + 1) = ((k + 1 : Nat) : Int) := by rw [wr (by omega) (by omega)]; rfl
      refine Tr.reg1 [0, 3, 4] (by
          simp only [↓sxd, sxu, ↓zE, ↓exq, St.keep, Nat.reduceBEq, Nat.reduceLT, w1]
          (repeat' (first | rfl | exact trivial | exact fun h => h | exact fun h => (by rw [h]; rfl) | apply And.intro | omega | exact Nat.le_of_ble_eq_true rfl))) ?_
      first |(exact ⟨_, _, by omega, Imp.go (fun i => i + 1) _ rfl rfl (List.Sublist.refl _) (by simp) (by simp) (by simp only [List.length_append, List.length_cons, List.length_nil, Nat.zero_add, Int.natCast_add, Int.natCast_one]; repeat' (first | exact TmT.cons rfl (TnS.d _) ?_ | exact trivial | exact F2.nil | refine F2.append ?_ ?_ | refine F2.map fun _ _ => ?_ | refine F2.cons ?_ ?_ | refine TmT.cons rfl ?_ ?_ | exact TnS.d _ | exact TnS.dx _ | exact TnS.dp _ | exact TnS.slc rfl | exact TnS.ptr rfl | refine TnS.frzf rfl (by simp) (by simp) (by simp) ?_ | refine TnS.frz0 rfl (by simp) (by simp) (by simp) ?_ | refine TnS.frzm rfl (by simp) ?_ | exact TnS.mapr rfl | exact TnS.yld rfl | refine ⟨rfl, ?_⟩ | refine TnO.arr ?_ | refine TnO.map ?_ | exact TnO.raw _ | exact TnO.iter _ _ | refine TnS.agg ?_ | refine TnS.tup ?_ | exact TnS.pure (Pure.clo (by assumption) (by assumption)) | refine TnS.clo ?_ ?_ | exact TnS.unk _ | exact TnS.pure (Pure.clo (by assumption) (by assumption)))) (by simp only [List.map_append, List.map_cons, List.map_nil]; repeat' (first | exact TmT.cons rfl (TnS.d _) ?_ | exact trivial | exact F2.nil | refine F2.append ?_ ?_ | refine F2.map fun _ _ => ?_ | refine F2.cons ?_ ?_ | refine TmT.cons rfl ?_ ?_ | exact TnS.d _ | exact TnS.dx _ | exact TnS.dp _ | exact TnS.slc rfl | exact TnS.ptr rfl | refine TnS.frzf rfl (by simp) (by simp) (by simp) ?_ | refine TnS.frz0 rfl (by simp) (by simp) (by simp) ?_ | refine TnS.frzm rfl (by simp) ?_ | exact TnS.mapr rfl | exact TnS.yld rfl | refine ⟨rfl, ?_⟩ | refine TnO.arr ?_ | refine TnO.map ?_ | exact TnO.raw _ | exact TnO.iter _ _ | refine TnS.agg ?_ | refine TnS.tup ?_ | exact TnS.pure (Pure.clo (by assumption) (by assumption)) | refine TnS.clo ?_ ?_ | exact TnS.unk _ | exact TnS.pure (Pure.clo (by assumption) (by assumption)))) (fun _ => rfl), ⟨o ++ [k], k + 1, ⟨by omega, by simp; omega, by rw [← he, hel, List.append_assoc]; rfl⟩, rfl, rfl⟩⟩) |(exact ⟨_, _, by omega, Imp.keepAll, ⟨o, k + 1, ⟨by omega, by omega, by rw [← he, hel]⟩, rfl, rfl⟩⟩)
  · have hx0 : s >>> k = 0 := by have := of_decide_eq_false h9; generalize s >>> k = z at this ⊢; omega
    rw [hx0, show 16 - k = (16 - (k + 1)) + 1 by omega, el, if_pos rfl, List.append_nil] at he
    refine Tr.exit ?_
    refine Tr.reg [2] (by
        simp only [↓sxd, sxu, ↓zE, ↓exq, St.keep, Nat.reduceBEq, Nat.reduceLT]
        (repeat' (first | rfl | exact trivial | exact fun h => h | exact fun h => (by rw [h]; rfl) | apply And.intro | omega | exact Nat.le_of_ble_eq_true rfl))) ?_
    refine Tr.imp (Imp.fin (tm' := [(2, SI (nats (elems s)))]) ?_) ?_
    · rw [← he]
      refine TmT.cons rfl (TnS.frz0 rfl (by simp) (by simp) (by simp) ?_) trivial
      rw [nats, dI, List.map_map]
      exact F2.map fun n _ => .cons (TnS.d _) .nil
    refine Tr.ret ?_
    (refine ⟨.inr rfl, ?_⟩; first | rfl | exact ⟨rfl, rfl, trivial⟩ | exact ⟨rfl, rfl, rfl, trivial⟩ | (simp only [Res, ResL, ResOK, ↓sxd, sxu, ↓zE, ↓zC, zK, ↓exP, ↓exq, ↓zB, St.keep, ↓xB, ↓zL, ↓zG, ↓zQ, Nat.reduceBEq, Nat.reduceAdd, Nat.reduceLT, Nat.reduceMul, Nat.reduceSub, Nat.reduceLeDiff, Nat.reduceEqDiff, Int.reduceLE, Int.reduceLT, Int.reduceToNat, reduceIte, implies_true, sxe, tysW28_30]; (repeat' (first | rfl | exact trivial | exact fun h => h | exact fun h => (by rw [h]; rfl) | apply And.intro | omega | exact Nat.le_of_ble_eq_true rfl))))
theorem lexB_at : ∀ (i : Nat) (a b : List Int), a.length = b.length → (∀ j, j < i → a.getD j 0 = b.getD j 0) → i < a.length → a.getD i 0 ≠ b.getD i 0 → lexB a b = decide (a.getD i 0 < b.getD i 0)
  | _, [], _, _, _, h, _ => by cases h
  | _, _ :: _, [], h, _, _, _ => by cases h
  | 0, a :: x, b :: y, _, _, _, hn => by
    unfold lexB
    exact if_neg hn
  | i + 1, a :: x, b :: y, hl, hp, hi, hn => by
    unfold lexB
    rw [if_pos (show a = b from hp 0 (by omega))]
    exact lexB_at i x y (by simpa using hl) (fun j hj => hp (j + 1) (by omega)) (by simpa using hi) hn
theorem lexB_all : ∀ (a b : List Int), a = b → lexB a b = false
  | [], _, h => by subst h; rfl
  | a :: x, _, h => by subst h; unfold lexB; rw [if_pos rfl]; exact lexB_all x x rfl
abbrev tysW28_31 := And.intro ty.sz0 <| And.intro ty.agg0 <| And.intro ty.elem0 <| And.intro ty.sz3 <| And.intro ty.agg3 <| And.intro ty.elem3 <| And.intro ty.zero3 <| And.intro ty.und3 <| And.intro ty.sz4 <| And.intro ty.agg4 <| And.intro ty.elem4 <| And.intro ty.zero4 <| And.intro ty.und4 <| And.intro ty.sz43 <| And.intro ty.agg43 <| And.intro ty.elem43 <| And.intro ty.by43 <| And.intro ty.ez43 <| And.intro ty.zero43 <| ty.und43
theorem Less_c (a b : List Int) (ha : a.length < 4611686018427387904) (hb : b.length < 4611686018427387904) : CallP Tryd.prog G0 31 [SI a, SI b] (B (lessB a b)) := by
  refine CallP.body 42 [.tmp 4] Tryd.func31 (by kernel_rfl) rfl rfl rfl (by repeat' (first | exact Pure.d _ | exact Pure.dx _ | exact Pure.dp _ | exact fa_nil | refine fa_cons ?_ ?_ | refine Pure.agg ?_ | refine Pure.tup ?_ | refine Pure.clo ?_ ?_ | refine Pure.fp ?_ | exact Pure.mapd _ | assumption)) (by repeat' (first | exact Pure.d _ | exact Pure.dx _ | exact Pure.dp _ | exact fa_nil | refine fa_cons ?_ ?_ | refine Pure.agg ?_ | refine Pure.tup ?_ | refine Pure.clo ?_ ?_ | refine Pure.fp ?_ | exact Pure.mapd _ | assumption)) ?_
  refine Tr.reg [0, 1] (by
      simp only [↓sxd, sxu, ↓zE, ↓exq, St.keep, Nat.reduceBEq, Nat.reduceAdd, Nat.reduceLT]
      (repeat' (first | rfl | exact trivial | exact fun h => h | exact fun h => (by rw [h]; rfl) | apply And.intro | omega | exact Nat.le_of_ble_eq_true rfl))) ?_
  refine Tr.seq ?_
  refine Tr.reg [0, 1, 5] (by
      simp only [↓sxd, sxu, ↓zE, ↓exq, St.keep, Nat.reduceBEq, Nat.reduceLT]
      (repeat' (first | rfl | exact trivial | exact fun h => h | exact fun h => (by rw [h]; rfl) | apply And.intro | omega | exact Nat.le_of_ble_eq_true rfl))) ?_
  refine Tr.imp (st' := ⟨[(0, SI a), (1, SI b), (5, I 0)], [], 0, 42, [], 0⟩) (Imp.keepAll) (Tr.block (Tr.loopI (fun mm ss => ∃ (i : Nat), (i ≤ a.length ∧ (i = 0 ∨ a.length = b.length) ∧ ∀ j, j < i → a.getD j 0 = b.getD j 0) ∧ a.length - i = mm ∧ ss = ⟨[(0, SI a), (1, SI b), (5, I i)], [], 0, 42, [], 0⟩) _ ⟨0, ?_, rfl, rfl⟩ ?_))
  · exact ⟨Nat.zero_le _, .inl rfl, fun j hj => absurd hj (Nat.not_lt_zero _)⟩
  rintro mm ss ⟨i, hI, rfl, rfl⟩
  obtain ⟨hI, hz, heq⟩ := hI
  refine Tr.seq ?_
  refine Tr.reg [0, 1, 5, 16] (by
      simp only [↓sxd, sxu, ↓zE, ↓exq, ↓zB, St.keep, ↓zJ, Nat.reduceBEq, Nat.reduceLT, sxe, tysW28_31]
      iterate 5
        (repeat ((with_reducible refine And.intro ?_ ?_); (focus (first | with_reducible rfl | trivial | exact fun h => h | exact fun h => (by rw [h]; rfl) | omega | assumption))))
        refine GdO.mk _ (fun hg => by simp only [↓sxd, sxu, ↓exq, ↓zB, ↓zJ, Nat.reduceBEq, sxe, tysW28_31, hg]; (repeat' (first | rfl | exact trivial | exact fun h => h | exact fun h => (by rw [h]; rfl) | apply And.intro | omega | exact Nat.le_of_ble_eq_true rfl))) ?_
        simp only [↓sxd, sxu, ↓zE, ↓exq, ↓zH, Nat.reduceBEq, Nat.reduceLT]
      (repeat' (first | rfl | exact trivial | exact fun h => h | exact fun h => (by rw [h]; rfl) | apply And.intro | omega | exact Nat.le_of_ble_eq_true rfl))) ?_
  refine Tr.cond rfl (fun h16 => ?_) (fun h16 => ?_)
  · have hlt : i < a.length := by simp at h16; omega
    have hlen : a.length = b.length := by simp at h16; omega
    have hlt2 : i < b.length := by omega
    refine Tr.skip ?_
    refine Tr.seq ?_
    refine Tr.block ?_
    refine Tr.regD [0, 1, 2, 3, 4, 5, 6, 7, 8] [] [] [0, 1, 5, 27] mix (by kernel_rfl) (by
        simp only [↓sxd, sxu, ↓zC, zK, ↓exq, St.keep, ↓zD, Nat.reduceBEq, Nat.reduceLT, sxe, tysW28_31, hlt, hlt2]
        (repeat' (first | rfl | exact trivial | exact fun h => h | exact fun h => (by rw [h]; rfl) | apply And.intro | omega | exact Nat.le_of_ble_eq_true rfl))) ?_
    refine Tr.cond rfl (fun h27 => ?_) (fun h27 => ?_)
    · have hne : a.getD i 0 ≠ b.getD i 0 := by simpa using h27
      rw [show lessB a b = decide (a.getD i 0 < b.getD i 0) by unfold lessB; rw [if_pos hlen]; exact lexB_at i a b hlen heq hlt hne]
      refine Tr.regD [0, 1, 2, 3, 4, 5, 6, 7, 8, 9] [] [] [4] mix (by kernel_rfl) (by
          simp only [↓sxd, sxu, ↓zC, zK, ↓exq, St.keep, ↓zD, Nat.reduceBEq, Nat.reduceLT, sxe, tysW28_31, hlt, hlt2]
          (repeat' (first | rfl | exact trivial | exact fun h => h | exact fun h => (by rw [h]; rfl) | apply And.intro | omega | exact Nat.le_of_ble_eq_true rfl))) ?_
      refine Tr.ret ?_
      (refine ⟨.inr rfl, ?_⟩; first | rfl | exact ⟨rfl, rfl, trivial⟩ | exact ⟨rfl, rfl, rfl, trivial⟩ | (simp only [Res, ResL, ResOK, ↓sxd, sxu, ↓zE, ↓zC, zK, ↓exP, ↓exq, ↓zB, St.keep, ↓zH, ↓zL, ↓zJ, ↓zD, Nat.reduceBEq, Nat.reduceAdd, Nat.reduceLT, Nat.reduceMul, Nat.reduceSub, Nat.reduceLeDiff, Nat.reduceEqDiff, Int.reduceLE, Int.reduceLT, Int.reduceToNat, reduceIte, implies_true, sxe, tysW28_31]; (repeat' (first | rfl | exact trivial | exact fun h => h | exact fun h => (by rw [h]; rfl) | apply And.intro | omega | exact Nat.le_of_ble_eq_true rfl))))
    · have he : a.getD i 0 = b.getD i 0 := by simpa using h27
      refine Tr.skip ?_
      have w1 : IntKind.i64.wrap ((i : Int) + 1) = ((i + 1 : Nat) : Int) := by rw [wr (by omega) (by omega)]; rfl
      refine Tr.reg1 [0, 1, 5] (by
          simp only [↓sxd, sxu, ↓zE, ↓exq, St.keep, Nat.reduceBEq, Nat.reduceLT, w1]
          (repeat' (first | rfl | exact trivial | exact fun h => h | exact fun h => (by rw [h]; rfl) | apply And.intro | omega | exact Nat.le_of_ble_eq_true rfl))) ?_
      exact ⟨_, _, by omega, Imp.keepAll, ⟨i + 1, ⟨hlt, .inr hlen, fun j hj => by
        by_cases hji : j = i
        · subst hji; exact he
        · exact heq j (by omega)⟩, rfl, rfl⟩⟩
  · have hge : ¬ (i < a.length ∧ a.length = b.length) := fun hh => by simp at h16; omega
    have hfin : decide ((a.length : Int) < (b.length : Int)) = lessB a b := by
      unfold lessB
      by_cases hl : a.length = b.length
      · rw [if_pos hl]
        have hi : i = a.length := by omega
        subst hi
        rw [lexB_all a b (list_ext hl heq), decide_eq_false (by omega)]
      · rw [if_neg hl]; exact decide_eq_decide.2 (by omega)
    rw [← hfin]
    refine Tr.exit ?_
    refine Tr.reg [4] (by
        simp only [↓sxd, sxu, ↓zE, ↓exq, ↓zB, St.keep, ↓zJ, Nat.reduceBEq, Nat.reduceLT, sxe, tysW28_31]
        (repeat' (first | rfl | exact trivial | exact fun h => h | exact fun h => (by rw [h]; rfl) | apply And.intro | omega | exact Nat.le_of_ble_eq_true rfl))) ?_
    refine Tr.ret ?_
    (refine ⟨.inr rfl, ?_⟩; first | rfl | exact ⟨rfl, rfl, trivial⟩ | exact ⟨rfl, rfl, rfl, trivial⟩ | (simp only [Res, ResOK, sxu, sxe]; (repeat' (first | rfl | exact trivial | exact fun h => h | exact fun h => (by rw [h]; rfl) | apply And.intro | omega | exact Nat.le_of_ble_eq_true rfl))))
theorem bit_mod (s k : Nat) : ((((s >>> k : Nat) : Int)).tmod 2 == 0) = !s.testBit k := by
  rw [show ((s >>> k : Nat) : Int).tmod 2 = ((s >>> k % 2 : Nat) : Int) from by rw [Int.natCast_emod, Int.tmod_eq_emod_of_nonneg (Int.natCast_nonneg _)]; rfl]
  rw [Nat.testBit_eq_decide_div_mod_eq, ← Nat.shiftRight_eq_div_pow]
  have : s >>> k % 2 = 0 ∨ s >>> k % 2 = 1 := by omega
  rcases this with h | h <;> rw [h] <;> rfl
abbrev tysW28_33 := And.intro ty.sz0 <| And.intro ty.agg0 <| And.intro ty.elem0 <| And.intro ty.sz3 <| And.intro ty.agg3 <| And.intro ty.elem3 <| And.intro ty.zero3 <| And.intro ty.und3 <| And.intro ty.sz4 <| And.intro ty.agg4 <| And.intro ty.elem4 <| And.intro ty.zero4 <| And.intro ty.und4 <| And.intro ty.sz23 <| And.intro ty.agg23 <| And.intro ty.elem23 <| And.intro ty.by23 <| And.intro ty.ez23 <| And.intro ty.zero23 <| And.intro ty.und23 <| And.intro ty.sz27 <| And.intro ty.agg27 <| And.intro ty.fld27_0 <| And.intro ty.fld27_1 <| And.intro ty.fld27_2 <| And.intro ty.fld27_3 <| And.intro ty.fld27_4 <| And.intro ty.elem27 <| And.intro ty.zero27 <| And.intro ty.pl27 <| And.intro ty.sz49 <| And.intro ty.agg49 <| And.intro ty.elem49 <| And.intro ty.zero49 <| And.intro ty.und49 <| And.intro ty.sz73 <| And.intro ty.agg73 <| And.intro ty.fld73_0 <| And.intro ty.fld73_1 <| And.intro ty.elem73 <| And.intro ty.zero73 <| ty.pl73
theorem Without_c (c : Census) (s : Nat) (hs : s < 18446744073709551616) (h1 : c.same.length ≤ 1000) (h2 : c.apart.length ≤ 1000) : CallP Tryd.prog G0 33 [c.s, I s] (c.without s).s := by
  obtain ⟨zr, hzr⟩ : ∃ x : List SV, x = [.dx [], .dx [], .dx [], I 0, I 0, I 0, I 0] := ⟨_, rfl⟩
  refine CallP.body 62 [.cell 4 27] Tryd.func33 (by kernel_rfl) rfl rfl rfl (by repeat' (first | exact Pure.d _ | exact Pure.dx _ | exact Pure.dp _ | exact fa_nil | refine fa_cons ?_ ?_ | refine Pure.agg ?_ | refine Pure.tup ?_ | refine Pure.clo ?_ ?_ | refine Pure.fp ?_ | exact Pure.mapd _ | assumption)) (by repeat' (first | exact Pure.d _ | exact Pure.dx _ | exact Pure.dp _ | exact fa_nil | refine fa_cons ?_ ?_ | refine Pure.agg ?_ | refine Pure.tup ?_ | refine Pure.clo ?_ ?_ | refine Pure.fp ?_ | exact Pure.mapd _ | assumption)) ?_
  refine Tr.reg [1, 2, 4] (by
      simp only [↓sxd, sxu, ↓zE, ↓exq, St.keep, ↓zM, ↓zI, Nat.reduceBEq, Nat.reduceAdd, Nat.reduceLT, Nat.reduceEqDiff, tysW28_33]
      (repeat' (first | rfl | exact trivial | exact fun h => h | exact fun h => (by rw [h]; rfl) | apply And.intro | omega | exact Nat.le_of_ble_eq_true rfl))) ?_
  refine Tr.reg [1, 2, 4, 5] (by
      simp only [↓sxd, sxu, ↓zE, ↓exq, St.keep, ↓zD, ↓zM, Nat.reduceBEq, Nat.reduceAdd, Nat.reduceLT, Nat.reduceEqDiff, tysW28_33]
      (repeat' (first | rfl | exact trivial | exact fun h => h | exact fun h => (by rw [h]; rfl) | apply And.intro | omega | exact Nat.le_of_ble_eq_true rfl))) ?_
  refine Tr.reg [1, 2, 4, 5] (by
      simp only [↓sxd, sxu, ↓zE, ↓exq, St.keep, ↓zA, Nat.reduceBEq, Nat.reduceAdd, Nat.reduceLT, Nat.reduceLeDiff, Nat.reduceEqDiff, tysW28_33]
      (repeat' (first | rfl | exact trivial | exact fun h => h | exact fun h => (by rw [h]; rfl) | apply And.intro | omega | exact Nat.le_of_ble_eq_true rfl))) ?_
  refine Tr.seq ?_
  refine Tr.reg [1, 2, 4, 5, 6] (by
      simp only [↓sxd, sxu, ↓zE, ↓exq, St.keep, Nat.reduceBEq, Nat.reduceLT]
      (repeat' (first | rfl | exact trivial | exact fun h => h | exact fun h => (by rw [h]; rfl) | apply And.intro | omega | exact Nat.le_of_ble_eq_true rfl))) ?_
  refine Tr.imp (st' := ⟨[(1, I s), (2, .ptr 0 0 0), (4, .ptr 1 0 0), (5, .ptr 2 0 0), (6, I 0)], [(3, .arr 2 (pp [])), (2, .arr 7 [cs c (.slc 3 2 0 [].length [].length) (.dx [])]), (1, .arr 7 [[.dx [], .dx [], .dx [], I 0, I 0, I 0, I 0]]), (0, .arr 7 [cs c (SP c.same) (SP c.apart)])], 4, 62, [], 0⟩) (Imp.goV 2 rfl rfl rfl rfl (by repeat' (first | exact trivial | exact F2.nil | refine F2.cons ?_ ?_ | refine TmV.cons rfl VnS.nil ?_ | refine TmV.cons rfl VnS.same ?_ | refine ⟨rfl, ?_⟩ | exact VnO.same _ | refine VnO.arr ?_ | exact VnS.nil | exact VnS.same | exact F2.refl fun _ _ => VnS.same)) (by repeat' (first | exact trivial | exact F2.nil | refine F2.cons ?_ ?_ | refine TmV.cons rfl VnS.nil ?_ | refine TmV.cons rfl VnS.same ?_ | refine ⟨rfl, ?_⟩ | exact VnO.same _ | refine VnO.arr ?_ | exact VnS.nil | exact VnS.same | exact F2.refl fun _ _ => VnS.same))) (Tr.block (Tr.loopI (fun mm ss => ∃ (k : Nat) (o : List Pair), (k ≤ c.same.length ∧ o = kept (fun i => !s.testBit i) c.same k) ∧ c.same.length - k = mm ∧ ss = ⟨[(1, I s), (2, .ptr 0 0 0), (4, .ptr 1 0 0), (5, .ptr 2 0 0), (6, I k)], [(3, .arr 2 (pp o)), (2, .arr 7 [cs c (.slc 3 2 0 o.length o.length) (.dx [])]), (1, .arr 7 [[.dx [], .dx [], .dx [], I 0, I 0, I 0, I 0]]), (0, .arr 7 [cs c (SP c.same) (SP c.apart)])], 4, 62, [], 0⟩) _ ⟨0, [], ?_, rfl, rfl⟩ ?_))
  · exact ⟨Nat.zero_le _, rfl⟩
  rintro mm ss ⟨k, o, hI, rfl, rfl⟩
  obtain ⟨hI, ho⟩ := hI
  have hol : o.length ≤ k := by rw [ho]; exact kept_len _ _ _
  refine Tr.seq ?_
  refine Tr.reg [1, 2, 4, 5, 6, 15] (by
      simp only [↓sxd, sxu, ↓zE, ↓exq, ↓zB, St.keep, ↓zJ, ↓zD, ↓zA, Nat.reduceBEq, Nat.reduceAdd, Nat.reduceLT, Nat.reduceEqDiff, sxe, tysW28_33]
      (repeat' (first | rfl | exact trivial | exact fun h => h | exact fun h => (by rw [h]; rfl) | apply And.intro | omega | exact Nat.le_of_ble_eq_true rfl))) ?_
  refine Tr.cond rfl (fun h15 => ?_) (fun h15 => ?_)
  · have hlt : k < c.same.length := by simpa using h15
    refine Tr.skip ?_
    refine Tr.seq ?_
    refine Tr.block ?_
    have wk : IntKind.u64.wrap (k : Int) = (k : Int) := wun (by omega)
    refine Tr.reg [1, 2, 4, 5, 6, 23] (by
        simp only [↓sxd, sxu, ↓zE, ↓exq, St.keep, ↓xB, Nat.reduceBEq, Nat.reduceLT, sxe, tysW28_33, wk, shr_i hs, bit_mod]
        (repeat' (first | rfl | exact trivial | exact fun h => h | exact fun h => (by rw [h]; rfl) | apply And.intro | omega | exact Nat.le_of_ble_eq_true rfl))) ?_
    refine Tr.cond rfl (fun h23 => ?_) (fun h23 => ?_)
    · have hg : (!s.testBit k) = true := h23
      have hol2 : (o.length + 1 ≤ 1073741824) = True := by simp; omega
      refine Tr.regD1 [0, 1, 2, 3, 4, 5, 6, 7, 8, 9, 10] [8, 10] [] [1, 2, 4, 5, 6] mix (by kernel_rfl) (by
          simp only [↓sxd, sxu, ↓zC, zK, ↓exq, ↓zB, St.keep, ↓zD, ↓zG, ↓zQ, ↓zA, Nat.reduceBEq, Nat.reduceAdd, Nat.reduceLT, Nat.reduceLeDiff, Nat.reduceEqDiff, sxe, tysW28_33, hlt, pp_len, hol2]
          (repeat' (first | rfl | exact trivial | exact fun h => h | exact fun h => (by rw [h]; rfl) | apply And.intro | omega | exact Nat.le_of_ble_eq_true rfl))) ?_
      have w1 : IntKind.i64.wrap ((k : Int) + 1) = ((k + 1 : Nat) : Int) := by rw [wr (by omega) (by omega)]; rfl
      refine Tr.reg1 [1, 2, 4, 5, 6] (by
          simp only [↓sxd, sxu, ↓zE, ↓exq, St.keep, Nat.reduceBEq, Nat.reduceLT, w1]
          (repeat' (first | rfl | exact trivial | exact fun h => h | exact fun h => (by rw [h]; rfl) | apply And.intro | omega | exact Nat.le_of_ble_eq_true rfl))) ?_
      have hsu := kept_succ (fun i => !s.testBit i) c.same k
      simp only [hg] at hsu
      rw [← ho] at hsu
      have hpp : pp (o ++ [c.same.getD k default]) = pp o ++ [[I (c.same.getD k default).fst, I (c.same.getD k default).snd]] := by simp [pp, dP]
      first |(exact ⟨_, _, by omega, Imp.go (fun i => if i < 3 then i else i + 1) [_, _, _, _] rfl rfl (.refl _) (fun _ h => absurd h (Nat.not_lt_zero _)) (fun id h => by simp only [show ¬ id < 3 by omega, if_false]; omega) (by repeat' (first | exact TmT.cons rfl (TnS.d _) ?_ | exact trivial | exact F2.nil | refine F2.append ?_ ?_ | refine F2.map fun _ _ => ?_ | refine F2.cons ?_ ?_ | refine TmT.cons rfl ?_ ?_ | exact TnS.d _ | exact TnS.dx _ | exact TnS.dp _ | exact TnS.slc rfl | exact TnS.ptr rfl | refine TnS.frzf rfl (by simp) (by simp) (by simp) ?_ | refine TnS.frz0 rfl (by simp) (by simp) (by simp) ?_ | refine TnS.frzm rfl (by simp) ?_ | exact TnS.mapr rfl | exact TnS.yld rfl | refine ⟨rfl, ?_⟩ | refine TnO.arr ?_ | refine TnO.map ?_ | exact TnO.raw _ | exact TnO.iter _ _ | refine TnS.agg ?_ | refine TnS.tup ?_ | exact TnS.pure (Pure.clo (by assumption) (by assumption)) | refine TnS.clo ?_ ?_ | exact TnS.unk _ | exact TnS.pure (Pure.clo (by assumption) (by assumption)))) (by simp only [hpp, List.length_append, List.length_cons, List.length_nil, Nat.zero_add]; repeat' (first | exact TmT.cons rfl (TnS.d _) ?_ | exact trivial | exact F2.nil | refine F2.append ?_ ?_ | refine F2.map fun _ _ => ?_ | refine F2.cons ?_ ?_ | refine TmT.cons rfl ?_ ?_ | exact TnS.d _ | exact TnS.dx _ | exact TnS.dp _ | exact TnS.slc rfl | exact TnS.ptr rfl | refine TnS.frzf rfl (by simp) (by simp) (by simp) ?_ | refine TnS.frz0 rfl (by simp) (by simp) (by simp) ?_ | refine TnS.frzm rfl (by simp) ?_ | exact TnS.mapr rfl | exact TnS.yld rfl | refine ⟨rfl, ?_⟩ | refine TnO.arr ?_ | refine TnO.map ?_ | exact TnO.raw _ | exact TnO.iter _ _ | refine TnS.agg ?_ | refine TnS.tup ?_ | exact TnS.pure (Pure.clo (by assumption) (by assumption)) | refine TnS.clo ?_ ?_ | exact TnS.unk _ | exact TnS.pure (Pure.clo (by assumption) (by assumption)))) (fun _ => rfl), ⟨k + 1, o ++ [c.same.getD k default], ⟨hlt, by rw [hsu]; rfl⟩, rfl, rfl⟩⟩) |(exact ⟨_, _, by omega, Imp.keepAll, ⟨k + 1, o, ⟨hlt, by rw [hsu]; simp⟩, rfl, rfl⟩⟩)
    · have hg : (!s.testBit k) = false := h23
      refine Tr.skip ?_
      have w1 : IntKind.i64.wrap ((k : Int) + 1) = ((k + 1 : Nat) : Int) := by rw [wr (by omega) (by omega)]; rfl
      refine Tr.reg1 [1, 2, 4, 5, 6] (by
          simp only [↓sxd, sxu, ↓zE, ↓exq, St.keep, Nat.reduceBEq, Nat.reduceLT, w1]
          (repeat' (first | rfl | exact trivial | exact fun h => h | exact fun h => (by rw [h]; rfl) | apply And.intro | omega | exact Nat.le_of_ble_eq_true rfl))) ?_
      have hsu := kept_succ (fun i => !s.testBit i) c.same k
      simp only [hg] at hsu
      rw [← ho] at hsu
      have hpp : pp (o ++ [c.same.getD k default]) = pp o ++ [[I (c.same.getD k default).fst, I (c.same.getD k default).snd]] := by simp [pp, dP]
      first |(exact ⟨_, _, by omega, Imp.go (fun i => if i < 3 then i else i + 1) [_, _, _, _] rfl rfl (.refl _) (fun _ h => absurd h (Nat.not_lt_zero _)) (fun id h => by simp only [show ¬ id < 3 by omega, if_false]; omega) (by repeat' (first | exact TmT.cons rfl (TnS.d _) ?_ | exact trivial | exact F2.nil | refine F2.append ?_ ?_ | refine F2.map fun _ _ => ?_ | refine F2.cons ?_ ?_ | refine TmT.cons rfl ?_ ?_ | exact TnS.d _ | exact TnS.dx _ | exact TnS.dp _ | exact TnS.slc rfl | exact TnS.ptr rfl | refine TnS.frzf rfl (by simp) (by simp) (by simp) ?_ | refine TnS.frz0 rfl (by simp) (by simp) (by simp) ?_ | refine TnS.frzm rfl (by simp) ?_ | exact TnS.mapr rfl | exact TnS.yld rfl | refine ⟨rfl, ?_⟩ | refine TnO.arr ?_ | refine TnO.map ?_ | exact TnO.raw _ | exact TnO.iter _ _ | refine TnS.agg ?_ | refine TnS.tup ?_ | exact TnS.pure (Pure.clo (by assumption) (by assumption)) | refine TnS.clo ?_ ?_ | exact TnS.unk _ | exact TnS.pure (Pure.clo (by assumption) (by assumption)))) (by simp only [hpp, List.length_append, List.length_cons, List.length_nil, Nat.zero_add]; repeat' (first | exact TmT.cons rfl (TnS.d _) ?_ | exact trivial | exact F2.nil | refine F2.append ?_ ?_ | refine F2.map fun _ _ => ?_ | refine F2.cons ?_ ?_ | refine TmT.cons rfl ?_ ?_ | exact TnS.d _ | exact TnS.dx _ | exact TnS.dp _ | exact TnS.slc rfl | exact TnS.ptr rfl | refine TnS.frzf rfl (by simp) (by simp) (by simp) ?_ | refine TnS.frz0 rfl (by simp) (by simp) (by simp) ?_ | refine TnS.frzm rfl (by simp) ?_ | exact TnS.mapr rfl | exact TnS.yld rfl | refine ⟨rfl, ?_⟩ | refine TnO.arr ?_ | refine TnO.map ?_ | exact TnO.raw _ | exact TnO.iter _ _ | refine TnS.agg ?_ | refine TnS.tup ?_ | exact TnS.pure (Pure.clo (by assumption) (by assumption)) | refine TnS.clo ?_ ?_ | exact TnS.unk _ | exact TnS.pure (Pure.clo (by assumption) (by assumption)))) (fun _ => rfl), ⟨k + 1, o ++ [c.same.getD k default], ⟨hlt, by rw [hsu]; rfl⟩, rfl, rfl⟩⟩) |(exact ⟨_, _, by omega, Imp.keepAll, ⟨k + 1, o, ⟨hlt, by rw [hsu]; simp⟩, rfl, rfl⟩⟩)
  · have hge : k = c.same.length := by simp at h15; omega
    subst hge
    obtain ⟨o1, ho1⟩ : ∃ o1, o1 = o := ⟨_, rfl⟩
    rw [← ho1] at ho ⊢
    have hk1 := ho
    refine Tr.exit ?_
    refine Tr.seq ?_
    refine Tr.reg [1, 2, 4, 5, 7] (by
        simp only [↓sxd, sxu, ↓zE, ↓exq, St.keep, Nat.reduceBEq, Nat.reduceLT]
        (repeat' (first | rfl | exact trivial | exact fun h => h | exact fun h => (by rw [h]; rfl) | apply And.intro | omega | exact Nat.le_of_ble_eq_true rfl))) ?_
    refine Tr.imp (st' := ⟨[(1, I s), (2, .ptr 0 0 0), (4, .ptr 1 0 0), (5, .ptr 2 0 0), (7, I 0)], [(4, .arr 2 (pp [])), (3, .arr 2 (pp o1)), (2, .arr 7 [cs c (.slc 3 2 0 o1.length o1.length) (.slc 4 2 0 [].length [].length)]), (1, .arr 7 [[.dx [], .dx [], .dx [], I 0, I 0, I 0, I 0]]), (0, .arr 7 [cs c (SP c.same) (SP c.apart)])], 5, 62, [], 0⟩) (Imp.goV 2 rfl rfl rfl rfl (by repeat' (first | exact trivial | exact F2.nil | refine F2.cons ?_ ?_ | refine TmV.cons rfl VnS.nil ?_ | refine TmV.cons rfl VnS.same ?_ | refine ⟨rfl, ?_⟩ | exact VnO.same _ | refine VnO.arr ?_ | exact VnS.nil | exact VnS.same | exact F2.refl fun _ _ => VnS.same)) (by repeat' (first | exact trivial | exact F2.nil | refine F2.cons ?_ ?_ | refine TmV.cons rfl VnS.nil ?_ | refine TmV.cons rfl VnS.same ?_ | refine ⟨rfl, ?_⟩ | exact VnO.same _ | refine VnO.arr ?_ | exact VnS.nil | exact VnS.same | exact F2.refl fun _ _ => VnS.same))) (Tr.block (Tr.loopI (fun mm ss => ∃ (k : Nat) (o : List Pair), (k ≤ c.apart.length ∧ o = kept (fun i => !s.testBit (c.same.length + i)) c.apart k) ∧ c.apart.length - k = mm ∧ ss = ⟨[(1, I s), (2, .ptr 0 0 0), (4, .ptr 1 0 0), (5, .ptr 2 0 0), (7, I k)], [(4, .arr 2 (pp o)), (3, .arr 2 (pp o1)), (2, .arr 7 [cs c (.slc 3 2 0 o1.length o1.length) (.slc 4 2 0 o.length o.length)]), (1, .arr 7 [[.dx [], .dx [], .dx [], I 0, I 0, I 0, I 0]]), (0, .arr 7 [cs c (SP c.same) (SP c.apart)])], 5, 62, [], 0⟩) _ ⟨0, [], ?_, rfl, rfl⟩ ?_))
    · exact ⟨Nat.zero_le _, rfl⟩
    rintro mm ss ⟨k, o, hI, rfl, rfl⟩
    obtain ⟨hI, ho⟩ := hI
    have hol : o.length ≤ k := by rw [ho]; exact kept_len _ _ _
    refine Tr.seq ?_
    refine Tr.reg [1, 2, 4, 5, 7, 38] (by
        simp only [↓sxd, sxu, ↓zE, ↓exq, ↓zB, St.keep, ↓zJ, ↓zD, ↓zA, Nat.reduceBEq, Nat.reduceAdd, Nat.reduceLT, Nat.reduceEqDiff, sxe, tysW28_33]
        (repeat' (first | rfl | exact trivial | exact fun h => h | exact fun h => (by rw [h]; rfl) | apply And.intro | omega | exact Nat.le_of_ble_eq_true rfl))) ?_
    refine Tr.cond rfl (fun h38 => ?_) (fun h38 => ?_)
    · have hlt : k < c.apart.length := by simpa using h38
      refine Tr.skip ?_
      refine Tr.seq ?_
      refine Tr.block ?_
      have w2 : IntKind.i64.wrap ((c.same.length : Int) + (k : Int)) = ((c.same.length + k : Nat) : Int) := by rw [wr (by omega) (by omega)]; rfl
      have wk : IntKind.u64.wrap ((c.same.length + k : Nat) : Int) = ((c.same.length + k : Nat) : Int) := wun (by omega)
      refine Tr.reg [1, 2, 4, 5, 7, 50] (by
          simp only [↓sxd, sxu, ↓zE, ↓exq, ↓zB, St.keep, ↓xB, ↓zJ, ↓zD, ↓zA, Nat.reduceBEq, Nat.reduceAdd, Nat.reduceLT, Nat.reduceEqDiff, sxe, tysW28_33, w2, wk, shr_i hs, bit_mod]
          (repeat' (first | rfl | exact trivial | exact fun h => h | exact fun h => (by rw [h]; rfl) | apply And.intro | omega | exact Nat.le_of_ble_eq_true rfl))) ?_
      refine Tr.cond rfl (fun h50 => ?_) (fun h50 => ?_)
      · have hg : (!s.testBit (c.same.length + k)) = true := h50
        have hol2 : (o.length + 1 ≤ 1073741824) = True := by simp; omega
        refine Tr.regD1 [0, 1, 2, 3, 4, 5, 6, 7, 8, 9, 10] [8, 10] [] [1, 2, 4, 5, 7] mix (by kernel_rfl) (by
            simp only [↓sxd, sxu, ↓zC, zK, ↓exq, ↓zB, St.keep, ↓zD, ↓zG, ↓zQ, ↓zA, Nat.reduceBEq, Nat.reduceAdd, Nat.reduceLT, Nat.reduceLeDiff, Nat.reduceEqDiff, sxe, tysW28_33, hlt, pp_len, hol2]
            (repeat' (first | rfl | exact trivial | exact fun h => h | exact fun h => (by rw [h]; rfl) | apply And.intro | omega | exact Nat.le_of_ble_eq_true rfl))) ?_
        have w1 : IntKind.i64.wrap ((k : Int) + 1) = ((k + 1 : Nat) : Int) := by rw [wr (by omega) (by omega)]; rfl
        refine Tr.reg1 [1, 2, 4, 5, 7] (by
            simp only [↓sxd, sxu, ↓zE, ↓exq, St.keep, Nat.reduceBEq, Nat.reduceLT, w1]
            (repeat' (first | rfl | exact trivial | exact fun h => h | exact fun h => (by rw [h]; rfl) | apply And.intro | omega | exact Nat.le_of_ble_eq_true rfl))) ?_
        have hsu := kept_succ (fun i => !s.testBit (c.same.length + i)) c.apart k
        simp only [hg] at hsu
        rw [← ho] at hsu
        have hpp : pp (o ++ [c.apart.getD k default]) = pp o ++ [[I (c.apart.getD k default).fst, I (c.apart.getD k default).snd]] := by simp [pp, dP]
        first |(exact ⟨_, _, by omega, Imp.go (fun i => if i < 4 then i else i + 1) [_, _, _, _, _] rfl rfl (.refl _) (fun _ h => absurd h (Nat.not_lt_zero _)) (fun id h => by simp only [show ¬ id < 4 by omega, if_false]; omega) (by repeat' (first | exact TmT.cons rfl (TnS.d _) ?_ | exact trivial | exact F2.nil | refine F2.append ?_ ?_ | refine F2.map fun _ _ => ?_ | refine F2.cons ?_ ?_ | refine TmT.cons rfl ?_ ?_ | exact TnS.d _ | exact TnS.dx _ | exact TnS.dp _ | exact TnS.slc rfl | exact TnS.ptr rfl | refine TnS.frzf rfl (by simp) (by simp) (by simp) ?_ | refine TnS.frz0 rfl (by simp) (by simp) (by simp) ?_ | refine TnS.frzm rfl (by simp) ?_ | exact TnS.mapr rfl | exact TnS.yld rfl | refine ⟨rfl, ?_⟩ | refine TnO.arr ?_ | refine TnO.map ?_ | exact TnO.raw _ | exact TnO.iter _ _ | refine TnS.agg ?_ | refine TnS.tup ?_ | exact TnS.pure (Pure.clo (by assumption) (by assumption)) | refine TnS.clo ?_ ?_ | exact TnS.unk _ | exact TnS.pure (Pure.clo (by assumption) (by assumption)))) (by simp only [hpp, List.length_append, List.length_cons, List.length_nil, Nat.zero_add]; repeat' (first | exact TmT.cons rfl (TnS.d _) ?_ | exact trivial | exact F2.nil | refine F2.append ?_ ?_ | refine F2.map fun _ _ => ?_ | refine F2.cons ?_ ?_ | refine TmT.cons rfl ?_ ?_ | exact TnS.d _ | exact TnS.dx _ | exact TnS.dp _ | exact TnS.slc rfl | exact TnS.ptr rfl | refine TnS.frzf rfl (by simp) (by simp) (by simp) ?_ | refine TnS.frz0 rfl (by simp) (by simp) (by simp) ?_ | refine TnS.frzm rfl (by simp) ?_ | exact TnS.mapr rfl | exact TnS.yld rfl | refine ⟨rfl, ?_⟩ | refine TnO.arr ?_ | refine TnO.map ?_ | exact TnO.raw _ | exact TnO.iter _ _ | refine TnS.agg ?_ | refine TnS.tup ?_ | exact TnS.pure (Pure.clo (by assumption) (by assumption)) | refine TnS.clo ?_ ?_ | exact TnS.unk _ | exact TnS.pure (Pure.clo (by assumption) (by assumption)))) (fun _ => rfl), ⟨k + 1, o ++ [c.apart.getD k default], ⟨hlt, by rw [hsu]; rfl⟩, rfl, rfl⟩⟩) |(exact ⟨_, _, by omega, Imp.keepAll, ⟨k + 1, o, ⟨hlt, by rw [hsu]; simp⟩, rfl, rfl⟩⟩)
      · have hg : (!s.testBit (c.same.length + k)) = false := h50
        refine Tr.skip ?_
        have w1 : IntKind.i64.wrap ((k : Int) + 1) = ((k + 1 : Nat) : Int) := by rw [wr (by omega) (by omega)]; rfl
        refine Tr.reg1 [1, 2, 4, 5, 7] (by
            simp only [↓sxd, sxu, ↓zE, ↓exq, St.keep, Nat.reduceBEq, Nat.reduceLT, w1]
            (repeat' (first | rfl | exact trivial | exact fun h => h | exact fun h => (by rw [h]; rfl) | apply And.intro | omega | exact Nat.le_of_ble_eq_true rfl))) ?_
        have hsu := kept_succ (fun i => !s.testBit (c.same.length + i)) c.apart k
        simp only [hg] at hsu
        rw [← ho] at hsu
        have hpp : pp (o ++ [c.apart.getD k default]) = pp o ++ [[I (c.apart.getD k default).fst, I (c.apart.getD k default).snd]] := by simp [pp, dP]
        first |(exact ⟨_, _, by omega, Imp.go (fun i => if i < 4 then i else i + 1) [_, _, _, _, _] rfl rfl (.refl _) (fun _ h => absurd h (Nat.not_lt_zero _)) (fun id h => by simp only [show ¬ id < 4 by omega, if_false]; omega) (by repeat' (first | exact TmT.cons rfl (TnS.d _) ?_ | exact trivial | exact F2.nil | refine F2.append ?_ ?_ | refine F2.map fun _ _ => ?_ | refine F2.cons ?_ ?_ | refine TmT.cons rfl ?_ ?_ | exact TnS.d _ | exact TnS.dx _ | exact TnS.dp _ | exact TnS.slc rfl | exact TnS.ptr rfl | refine TnS.frzf rfl (by simp) (by simp) (by simp) ?_ | refine TnS.frz0 rfl (by simp) (by simp) (by simp) ?_ | refine TnS.frzm rfl (by simp) ?_ | exact TnS.mapr rfl | exact TnS.yld rfl | refine ⟨rfl, ?_⟩ | refine TnO.arr ?_ | refine TnO.map ?_ | exact TnO.raw _ | exact TnO.iter _ _ | refine TnS.agg ?_ | refine TnS.tup ?_ | exact TnS.pure (Pure.clo (by assumption) (by assumption)) | refine TnS.clo ?_ ?_ | exact TnS.unk _ | exact TnS.pure (Pure.clo (by assumption) (by assumption)))) (by simp only [hpp, List.length_append, List.length_cons, List.length_nil, Nat.zero_add]; repeat' (first | exact TmT.cons rfl (TnS.d _) ?_ | exact trivial | exact F2.nil | refine F2.append ?_ ?_ | refine F2.map fun _ _ => ?_ | refine F2.cons ?_ ?_ | refine TmT.cons rfl ?_ ?_ | exact TnS.d _ | exact TnS.dx _ | exact TnS.dp _ | exact TnS.slc rfl | exact TnS.ptr rfl | refine TnS.frzf rfl (by simp) (by simp) (by simp) ?_ | refine TnS.frz0 rfl (by simp) (by simp) (by simp) ?_ | refine TnS.frzm rfl (by simp) ?_ | exact TnS.mapr rfl | exact TnS.yld rfl | refine ⟨rfl, ?_⟩ | refine TnO.arr ?_ | refine TnO.map ?_ | exact TnO.raw _ | exact TnO.iter _ _ | refine TnS.agg ?_ | refine TnS.tup ?_ | exact TnS.pure (Pure.clo (by assumption) (by assumption)) | refine TnS.clo ?_ ?_ | exact TnS.unk _ | exact TnS.pure (Pure.clo (by assumption) (by assumption)))) (fun _ => rfl), ⟨k + 1, o ++ [c.apart.getD k default], ⟨hlt, by rw [hsu]; rfl⟩, rfl, rfl⟩⟩) |(exact ⟨_, _, by omega, Imp.keepAll, ⟨k + 1, o, ⟨hlt, by rw [hsu]; simp⟩, rfl, rfl⟩⟩)
    · have hge : k = c.apart.length := by simp at h38; omega
      refine Tr.exit ?_
      refine Tr.reg [4] (by
          simp only [↓sxd, sxu, ↓zE, ↓exq, St.keep, ↓zD, Nat.reduceBEq, Nat.reduceAdd, Nat.reduceLT, Nat.reduceEqDiff, tysW28_33]
          (repeat' (first | rfl | exact trivial | exact fun h => h | exact fun h => (by rw [h]; rfl) | apply And.intro | omega | exact Nat.le_of_ble_eq_true rfl))) ?_
      subst hge
      refine Tr.imp (st' := ⟨[(4, .ptr 1 0 0)], [(1, .arr 7 [cs c (SP (c.without s).same) (SP (c.without s).apart)])], _, _, [], _⟩) (Imp.go (fun i => i) [(1, _)] rfl rfl (.cons _ (.cons _ (.cons _ (.cons_cons _ (.cons _ .slnil))))) (fun _ _ => rfl) (fun _ h => h) ?_ ?_ (fun _ => rfl)) ?_
      · repeat' (first | exact TmT.cons rfl (TnS.d _) ?_ | exact trivial | exact F2.nil | refine F2.append ?_ ?_ | refine F2.map fun _ _ => ?_ | refine F2.cons ?_ ?_ | refine TmT.cons rfl ?_ ?_ | exact TnS.d _ | exact TnS.dx _ | exact TnS.dp _ | exact TnS.slc rfl | exact TnS.ptr rfl | refine TnS.frzf rfl (by simp) (by simp) (by simp) ?_ | refine TnS.frz0 rfl (by simp) (by simp) (by simp) ?_ | refine TnS.frzm rfl (by simp) ?_ | exact TnS.mapr rfl | exact TnS.yld rfl | refine ⟨rfl, ?_⟩ | refine TnO.arr ?_ | refine TnO.map ?_ | exact TnO.raw _ | exact TnO.iter _ _ | refine TnS.agg ?_ | refine TnS.tup ?_ | exact TnS.pure (Pure.clo (by assumption) (by assumption)) | refine TnS.clo ?_ ?_ | exact TnS.unk _ | exact TnS.pure (Pure.clo (by assumption) (by assumption)))
      · refine .cons ⟨rfl, TnO.arr ?_⟩ .nil
        refine .cons (.cons (TnS.d _) (.cons ?_ (.cons ?_ (by repeat' (first | exact TmT.cons rfl (TnS.d _) ?_ | exact trivial | exact F2.nil | refine F2.append ?_ ?_ | refine F2.map fun _ _ => ?_ | refine F2.cons ?_ ?_ | refine TmT.cons rfl ?_ ?_ | exact TnS.d _ | exact TnS.dx _ | exact TnS.dp _ | exact TnS.slc rfl | exact TnS.ptr rfl | refine TnS.frzf rfl (by simp) (by simp) (by simp) ?_ | refine TnS.frz0 rfl (by simp) (by simp) (by simp) ?_ | refine TnS.frzm rfl (by simp) ?_ | exact TnS.mapr rfl | exact TnS.yld rfl | refine ⟨rfl, ?_⟩ | refine TnO.arr ?_ | refine TnO.map ?_ | exact TnO.raw _ | exact TnO.iter _ _ | refine TnS.agg ?_ | refine TnS.tup ?_ | exact TnS.pure (Pure.clo (by assumption) (by assumption)) | refine TnS.clo ?_ ?_ | exact TnS.unk _ | exact TnS.pure (Pure.clo (by assumption) (by assumption))))))) .nil
        · exact pfz (l := (c.without s).same) rfl (by rw [hk1]; rfl) (by simp) (by rw [hk1]; rfl)
        · exact pfz (l := (c.without s).apart) rfl (by rw [ho]; rfl) (by simp) (by rw [ho]; rfl)
      refine Tr.ret ?_
      (refine ⟨.inr rfl, ?_⟩; first | rfl | exact ⟨rfl, rfl, trivial⟩ | exact ⟨rfl, rfl, rfl, trivial⟩ | (simp only [Res, ResOK, sxu, ↓zD, Nat.reduceAdd, Nat.reduceLT, tysW28_33]; (repeat' (first | rfl | exact trivial | exact fun h => h | exact fun h => (by rw [h]; rfl) | apply And.intro | omega | exact Nat.le_of_ble_eq_true rfl))))
end Go.Proofs.YtcnkbdfkjhlbiaaDoor
namespace Go.Proofs.YtcnkbdfkjhlbiaaDoor
open Go.Sy
set_option maxRecDepth 8000
theorem shl_i {n : Nat} (h : n < 62) : IntKind.i64.wrap ((1 : Int) * 2 ^ min n IntKind.i64.bits) = ((2 ^ n : Nat) : Int) := by
  have e : min n IntKind.i64.bits = n := Nat.min_eq_left (show n ≤ 64 by omega)
  rw [e, Int.one_mul]
  have e2 : ((2 : Int) ^ n) = ((2 ^ n : Nat) : Int) := by simp
  have h3 : 2 ^ n < 2 ^ 62 := Nat.pow_lt_pow_right (a := 2) (by omega) h
  rw [e2]
  generalize 2 ^ n = z at h3 ⊢
  exact wr (by omega) (by omega)
end Go.Proofs.YtcnkbdfkjhlbiaaDoor
namespace Go.Proofs.YtcnkbdfkjhlbiaaDoor
set_option maxRecDepth 8000
structure Says (c x : Census) : Prop where
  len : x.entries.length = c.entries.length
  ent : ∀ i, i < c.entries.length → (x.entry i).sched = (c.entry i).sched ∧ (x.entry i).sex = (c.entry i).sex ∧ (x.entry i).key = (c.entry i).key ∧ (c.entry i).ages.lo ≤ (x.entry i).ages.lo ∧ (x.entry i).ages.hi ≤ (c.entry i).ages.hi
  same : ∀ p ∈ c.same, p ∈ x.same
  apart : ∀ p ∈ c.apart, p ∈ x.apart
  om : c.omitted.lo ≤ x.omitted.lo ∧ x.omitted.hi ≤ c.omitted.hi
  nu : c.number.lo ≤ x.number.lo ∧ x.number.hi ≤ c.number.hi
theorem fine_tried {c : Census} (h : Fine c) : c.tried true = if c.cons then 0 else 9 := by
  have hk := fine_iff.2 h
  unfold Census.tried Census.cons
  rw [if_neg (fun hc => hc hk)]
  simp only [Bool.not_true, Bool.false_eq_true, if_false, decide_eq_true_eq]
  by_cases hg : (readW c).persons.lo > (readW c).persons.hi
  · rw [if_pos hg, if_neg (by omega)]
  · rw [if_neg hg, if_pos (by omega)]
theorem personsS_yes {c : Census} (h : Fine c) (hc : c.cons = true) : c.personsS = (pers c, c.omitted.cut (c.number.lo - (pers c).hi) (c.number.hi - (pers c).lo), 0) := by
  have h0 : 0 ≤ (readW c).persons.lo ∧ (readW c).persons.hi ≤ c.entries.length := pers_lo h.pairs h.n10
  have h1 : (readW c).persons.lo ≤ (readW c).persons.hi := cons_lo hc
  have h10 := h.n10
  have ho := h.om
  have hn := h.nu
  unfold Census.personsS
  rw [if_pos (by rw [fine_tried h, hc]; rfl), wr_id (by omega) (by omega), wr_id (by omega) (by omega)]
theorem personsS_no {c : Census} (h : Fine c) (hc : c.cons = false) : c.personsS = (⟨0, 0⟩, ⟨0, 0⟩, 9) := by
  unfold Census.personsS
  rw [fine_tried h, hc, if_neg (by decide)]
  rfl
structure Moves (c x : Census) (s : Nat → Nat) : Prop where
  len : x.entries.length = c.entries.length
  to : ∀ i, i < c.entries.length → s i < c.entries.length
  inj : ∀ i k, i < c.entries.length → k < c.entries.length → s i = s k → i = k
  sur : ∀ j, j < c.entries.length → ∃ i, i < c.entries.length ∧ s i = j
  ent : ∀ i, i < c.entries.length → x.entry i = c.entry (s i)
  same : ∀ p ∈ x.same, ∃ q ∈ c.same, s p.fst.toNat = q.fst.toNat ∧ s p.snd.toNat = q.snd.toNat
  apart : ∀ p ∈ x.apart, ∃ q ∈ c.apart, s p.fst.toNat = q.fst.toNat ∧ s p.snd.toNat = q.snd.toNat
end Go.Proofs.YtcnkbdfkjhlbiaaDoor
namespace Go.Proofs.YtcnkbdfkjhlbiaaDoor
set_option maxRecDepth 8000
def setOf (l : List Nat) : Nat := l.foldl (fun a x => a ||| 2 ^ x) 0
theorem setOf_test {j : Nat} : ∀ (l : List Nat) (a : Nat), (l.foldl (fun a x => a ||| 2 ^ x) a).testBit j = true ↔ a.testBit j = true ∨ j ∈ l
  | [], a => by simp
  | x :: l, a => by
    rw [List.foldl_cons, setOf_test l, Nat.testBit_or, Bool.or_eq_true, List.mem_cons]
    have : (2 ^ x).testBit j = true ↔ j = x := by
      rw [Nat.testBit_two_pow, decide_eq_true_eq]; exact ⟨Eq.symm, Eq.symm⟩
    rw [this, or_assoc]
theorem setOf_elems {s : Nat} (h : s < 2 ^ 16) : setOf (elems s) = s := by
  refine Nat.eq_of_testBit_eq fun j => ?_
  rw [Bool.eq_iff_iff]
  unfold setOf
  rw [setOf_test, mem_elems]
  constructor
  · rintro (h | h)
    · rw [Nat.zero_testBit] at h; cases h
    · exact h.2
  · exact fun ht => .inr ⟨testBit_lt ht h, ht⟩
theorem nats_inj {a b : List Nat} (h : nats a = nats b) : a = b := by
  unfold nats at h
  exact List.map_inj_right (fun x y hxy => by omega) |>.1 h
theorem dropped_law {c : Census} (h : Fine c) {t : Nat} (ht : t < 2 ^ c.pairs) :
    (c.dropS = ([], 9) ∧ (c.without t).cons = false) ∨
    (∃ b, b < 2 ^ c.pairs ∧ c.dropS = (elems b, 0) ∧ (c.without b).cons = true ∧ ((c.without t).cons = true → lessB (nats (elems t)) (nats (elems b)) = false)) := by
  have hb := refDrop_best h (2 ^ c.pairs)
  rcases drop_law h with ⟨h1, h2⟩ | ⟨l, h1, h2, h3⟩
  · left
    refine ⟨h2, ?_⟩
    cases hc : (c.without t).cons
    · rfl
    · obtain ⟨l, h4, _⟩ := hb.least t ht hc
      rw [h1] at h4; cases h4
  · right
    obtain ⟨b, h4, h5, h6⟩ := hb.from' l h1
    have h6 : nats (elems b) = l := h6
    have he : c.dropL = elems b := nats_inj (by rw [h2, h6])
    refine ⟨b, h4, by rw [h3, he], h5, fun hc => ?_⟩
    obtain ⟨l', h7, h8⟩ := hb.least t ht hc
    rw [h1] at h7
    obtain rfl := Option.some.inj h7
    rw [h6]; exact h8
end Go.Proofs.YtcnkbdfkjhlbiaaDoor
namespace Go.Proofs.YtcnkbdfkjhlbiaaDoor
open Go.Sy
set_option maxRecDepth 8000
theorem prefix_get {l : List Nat} (h : l.Pairwise (· < ·)) {i : Nat} (hi : i < l.length) (h0 : 0 < i) : l.getD (i - 1) 0 < l.getD i 0 := by
  have := List.pairwise_iff_getElem.1 h (i - 1) i (by omega) hi (by omega)
  simpa [List.getD_eq_getElem?_getD, hi, show i - 1 < l.length by omega] using this
theorem setOf_take {l : List Nat} {i : Nat} (h : i < l.length) : setOf (l.take (i + 1)) = setOf (l.take i) ||| 2 ^ (l.getD i 0) := by
  unfold setOf
  rw [List.take_succ_eq_append_getElem h, List.foldl_append]
  simp [List.getD_eq_getElem?_getD, h]
theorem setOf_lt {n : Nat} : ∀ (l : List Nat), (∀ x ∈ l, x < n) → setOf l < 2 ^ n := fun l h => by
  refine Nat.lt_pow_two_of_testBit _ fun j hj => ?_
  rw [← Bool.not_eq_true]
  unfold setOf
  rw [setOf_test]
  rintro (hc | hc)
  · rw [Nat.zero_testBit] at hc; cases hc
  · have := h j hc; omega
theorem bv_i {a : Nat} (ha : a < 18446744073709551616) : (BitVec.ofInt IntKind.i64.bits (a : Int)).toNat = a := bv ha
theorem or_i {a b : Nat} (ha : a < 4096) (hb : b < 4096) :
    IntKind.i64.wrap ((BitVec.ofInt IntKind.i64.bits (a : Int) ||| BitVec.ofInt IntKind.i64.bits (b : Int)).toNat : Int) = ((a ||| b : Nat) : Int) := by
  rw [BitVec.toNat_or, bv_i (by omega), bv_i (by omega)]
  have : a ||| b < 2 ^ 12 := Nat.or_lt_two_pow (by omega) (by omega)
  exact wr (by omega) (by omega)
theorem tmod_pow {a n : Nat} : ((a : Nat) : Int).tmod ((2 ^ n : Nat) : Int) = ((a % 2 ^ n : Nat) : Int) := by
  rw [Int.natCast_emod, Int.tmod_eq_emod_of_nonneg (Int.natCast_nonneg _)]
theorem wi {n : Nat} (h : n < 9223372036854775808) : IntKind.i64.wrap (n : Int) = n := wr (by omega) (by omega)
theorem persons_fine {c : Census} (h : Fine c) : ∃ r o e, c.personsS = (r, o, e) ∧ ((e = 0 ∧ c.cons = true) ∨ (e = 9 ∧ c.cons = false)) := by
  cases hq : c.cons with
  | true => exact ⟨_, _, _, personsS_yes h hq, .inl ⟨rfl, rfl⟩⟩
  | false => exact ⟨_, _, _, personsS_no h hq, .inr ⟨rfl, rfl⟩⟩
theorem fine_small {c : Census} (h : Fine c) : c.small := ⟨by have := h.n10; omega, by have := h.s6; omega, by have := h.a6; omega⟩
theorem PersonsF_c (c : Census) (h : Fine c) : CallP Tryd.prog G0 21 [c.s] (.tup [c.personsS.1.s, c.personsS.2.1.s, I c.personsS.2.2]) := Persons_c c (fine_small h) (fun hk => Census.readable hk)
abbrev tysW34_8 := And.intro ty.sz0 <| And.intro ty.agg0 <| And.intro ty.elem0 <| And.intro ty.sz3 <| And.intro ty.agg3 <| And.intro ty.elem3 <| And.intro ty.zero3 <| And.intro ty.und3 <| And.intro ty.sz4 <| And.intro ty.agg4 <| And.intro ty.elem4 <| And.intro ty.zero4 <| And.intro ty.und4 <| And.intro ty.sz23 <| And.intro ty.agg23 <| And.intro ty.elem23 <| And.intro ty.by23 <| And.intro ty.ez23 <| And.intro ty.zero23 <| And.intro ty.und23 <| And.intro ty.sz27 <| And.intro ty.agg27 <| And.intro ty.fld27_0 <| And.intro ty.fld27_1 <| And.intro ty.fld27_2 <| And.intro ty.fld27_3 <| And.intro ty.fld27_4 <| And.intro ty.elem27 <| And.intro ty.zero27 <| And.intro ty.pl27 <| And.intro ty.sz30 <| And.intro ty.agg30 <| And.intro ty.fld30_0 <| And.intro ty.fld30_1 <| And.intro ty.elem30 <| And.intro ty.zero30 <| And.intro ty.pl30 <| And.intro ty.sz31 <| And.intro ty.agg31 <| And.intro ty.elem31 <| And.intro ty.zero31 <| And.intro ty.und31 <| And.intro ty.sz32 <| And.intro ty.agg32 <| And.intro ty.elem32 <| And.intro ty.sz37 <| And.intro ty.agg37 <| And.intro ty.fld37_0 <| And.intro ty.fld37_1 <| And.intro ty.fld37_2 <| And.intro ty.fld37_3 <| And.intro ty.fld37_4 <| And.intro ty.elem37 <| And.intro ty.zero37 <| And.intro ty.pl37 <| And.intro ty.sz43 <| And.intro ty.agg43 <| And.intro ty.elem43 <| And.intro ty.by43 <| And.intro ty.ez43 <| And.intro ty.zero43 <| And.intro ty.und43 <| And.intro ty.sz47 <| And.intro ty.agg47 <| And.intro ty.elem47 <| And.intro ty.sz49 <| And.intro ty.agg49 <| And.intro ty.elem49 <| And.intro ty.zero49 <| And.intro ty.und49 <| And.intro ty.sz77 <| And.intro ty.agg77 <| And.intro ty.elem77 <| And.intro ty.zero77 <| ty.und77
set_option maxHeartbeats 4000000 in
theorem SheetDropped_c (c : Census) (bits : Nat) (hb : bits < 65536) : CallP Tryd.prog G0 8 [c.s, .d (.lit (.int .u16 (bits : Nat)))] (B true) := by
  refine CallP.body 139 [.tmp 4] Tryd.func8 (by kernel_rfl) rfl rfl rfl (by repeat' (first | exact Pure.d _ | exact Pure.dx _ | exact Pure.dp _ | exact fa_nil | refine fa_cons ?_ ?_ | refine Pure.agg ?_ | refine Pure.tup ?_ | refine Pure.clo ?_ ?_ | refine Pure.fp ?_ | exact Pure.mapd _ | assumption)) (by repeat' (first | exact Pure.d _ | exact Pure.dx _ | exact Pure.dp _ | exact fa_nil | refine fa_cons ?_ ?_ | refine Pure.agg ?_ | refine Pure.tup ?_ | refine Pure.clo ?_ ?_ | refine Pure.fp ?_ | exact Pure.mapd _ | assumption)) ?_
  refine Tr.reg [1, 2] (by
      simp only [↓sxd, sxu, ↓zE, ↓exq, St.keep, ↓zI, Nat.reduceBEq, Nat.reduceAdd, Nat.reduceLT, Nat.reduceEqDiff]
      (repeat' (first | rfl | exact trivial | exact fun h => h | exact fun h => (by rw [h]; rfl) | apply And.intro | omega | exact Nat.le_of_ble_eq_true rfl))) ?_
  refine Tr.seq ?_
  refine Tr.reg [1, 2, 24] (by
      simp only [↓sxd, sxu, ↓zE, ↓exq, St.keep, ↓zD, Nat.reduceBEq, Nat.reduceAdd, Nat.reduceLT, tysW34_8]
      (repeat ((with_reducible refine And.intro ?_ ?_); (focus (first | with_reducible rfl | trivial | exact fun h => h | exact fun h => (by rw [h]; rfl) | omega | assumption))))
      refine CallO.use (Thin_c _ c) ?_
      try simp only [↓sxd, sxu, ↓zE, ↓exq, ↓zL, Nat.reduceLT]
      (repeat ((with_reducible refine And.intro ?_ ?_); (focus (first | with_reducible rfl | trivial | exact fun h => h | exact fun h => (by rw [h]; rfl) | omega | assumption))))
      refine GdO.mk _ (fun hg => by simp only [sxu, ↓exq, ↓zD, Nat.reduceBEq, Nat.reduceAdd, Nat.reduceLT, tysW34_8]; (repeat' (first | rfl | exact trivial | exact fun h => h | exact fun h => (by rw [h]; rfl) | apply And.intro | omega | exact Nat.le_of_ble_eq_true rfl))) ?_
      simp only [↓sxd, sxu, ↓zE, Nat.reduceBEq, Nat.reduceLT]
      (repeat ((with_reducible refine And.intro ?_ ?_); (focus (first | with_reducible rfl | trivial | exact fun h => h | exact fun h => (by rw [h]; rfl) | omega | assumption))))
      refine GdO.mk (I c.check) (fun hg => by
        obtain ⟨h1, h2, h3⟩ := thin_len (by simpa using hg)
        simp only [sxu, ↓exq, ↓zB, hg]
        (repeat ((with_reducible refine And.intro ?_ ?_); (focus (first | with_reducible rfl | trivial | exact fun h => h | exact fun h => (by rw [h]; rfl) | omega | assumption))))
        exact CallP.use (fault_c c (by omega) (by omega) (by omega)) ⟨rfl, rfl, rfl⟩) ?_
      try simp only [↓sxd, sxu, ↓zE, Nat.reduceBEq, Nat.reduceLT]
      (repeat ((with_reducible refine And.intro ?_ ?_); (focus (first | with_reducible rfl | trivial | exact fun h => h | exact fun h => (by rw [h]; rfl) | omega | assumption))))
      refine GdO.mk _ (fun hg => by simp only [↓sxd, sxu, ↓exq, hg]; (repeat' (first | rfl | exact trivial | exact fun h => h | exact fun h => (by rw [h]; rfl) | apply And.intro | omega | exact Nat.le_of_ble_eq_true rfl))) ?_
      simp only [↓sxd, sxu, ↓zE, ↓exq, ↓zH, Nat.reduceBEq, Nat.reduceLT]
      (repeat' (first | rfl | exact trivial | exact fun h => h | exact fun h => (by rw [h]; rfl) | apply And.intro | omega | exact Nat.le_of_ble_eq_true rfl))) ?_
  refine Tr.cond rfl (fun h24 => ?_) (fun h24 => ?_)
  · refine Tr.reg [4] (by
        simp only [↓sxd, sxu, ↓zE, St.keep, Nat.reduceLT]
        (repeat ((with_reducible refine And.intro ?_ ?_); (focus (first | with_reducible rfl | trivial | exact fun h => h | exact fun h => (by rw [h]; rfl) | omega | assumption))))
        refine CallO.use (awake_c) ?_
        try simp only [↓sxd, sxu, ↓zE, ↓exq, Nat.reduceLT]
        (repeat' (first | rfl | exact trivial | exact fun h => h | exact fun h => (by rw [h]; rfl) | apply And.intro | omega | exact Nat.le_of_ble_eq_true rfl))) ?_
    refine Tr.ret ?_
    (refine ⟨.inr rfl, ?_⟩; first | rfl | exact ⟨rfl, rfl, trivial⟩ | exact ⟨rfl, rfl, rfl, trivial⟩ | (simp only [Res, ResL, ResOK, ↓sxd, sxu, ↓zE, ↓zC, zK, ↓exP, ↓exq, ↓zB, St.keep, ↓zH, ↓xB, ↓zL, ↓zJ, ↓zD, ↓zN, ↓zM, ↓zI, ↓zA, Nat.reduceBEq, Nat.reduceAdd, Nat.reduceLT, Nat.reduceMul, Nat.reduceSub, Nat.reduceLeDiff, Nat.reduceEqDiff, Int.reduceLE, Int.reduceLT, Int.reduceToNat, reduceIte, implies_true, sxe, tysW34_8]; (repeat' (first | rfl | exact trivial | exact fun h => h | exact fun h => (by rw [h]; rfl) | apply And.intro | omega | exact Nat.le_of_ble_eq_true rfl))))
  · have hF : c.thin = true ∧ c.check = 0 := by
      cases hx : c.thin with
      | true => rw [hx] at h24; simpa using h24
      | false => rw [hx] at h24; cases h24
    obtain ⟨hth, hck⟩ := hF
    have hf := fine_iff.1 hck
    have hsm := small_thin hth
    have h6 := hf.s6
    have ha6 := hf.a6
    have hp12 : c.pairs ≤ 12 := by unfold Census.pairs; omega
    have hpw : 2 ^ c.pairs ≤ 2 ^ 12 := Nat.pow_le_pow_right (n := 2) (by omega) hp12
    have hp0 : 0 < 2 ^ c.pairs := Nat.two_pow_pos _
    have w0 : IntKind.i64.wrap ((c.same.length : Int) + (c.apart.length : Int)) = (c.pairs : Int) := wr (by omega) (by omega)
    obtain ⟨t, ht⟩ : ∃ t, t = bits % 2 ^ c.pairs := ⟨_, rfl⟩
    have htl : t < 2 ^ c.pairs := by rw [ht]; exact Nat.mod_lt _ hp0
    have hlaw := dropped_law hf htl
    obtain ⟨l, e, hde⟩ : ∃ l e, c.dropS = (l, e) := ⟨_, _, rfl⟩
    have hP := Drop_c c hsm
    rw [hde] at hP hlaw
    obtain ⟨r1, o1, f, hpf, hfe⟩ := persons_fine (without_fine hf t)
    have hQ := PersonsF_c _ (without_fine hf t)
    rw [hpf] at hQ
    refine Tr.skip ?_
    refine Tr.reg [1, 2, 5] (by
        simp only [↓sxd, sxu, ↓zE, ↓exq, ↓zB, St.keep, ↓zJ, ↓zD, ↓zA, Nat.reduceBEq, Nat.reduceAdd, Nat.reduceLT, Nat.reduceEqDiff, sxe, tysW34_8, w0]
        (repeat' (first | rfl | exact trivial | exact fun h => h | exact fun h => (by rw [h]; rfl) | apply And.intro | omega | exact Nat.le_of_ble_eq_true rfl))) ?_
    refine Tr.reg [1, 2, 5, 6, 7] (by
        simp only [↓sxd, sxu, ↓zE, ↓exq, St.keep, ↓zD, Nat.reduceBEq, Nat.reduceAdd, Nat.reduceLT, tysW34_8]
        (repeat ((with_reducible refine And.intro ?_ ?_); (focus (first | with_reducible rfl | trivial | exact fun h => h | exact fun h => (by rw [h]; rfl) | omega | assumption))))
        refine CallO.use (lCensus_c c hsm) ?_
        try simp only [↓sxd, sxu, ↓zE, Nat.reduceLT]
        (repeat ((with_reducible refine And.intro ?_ ?_); (focus (first | with_reducible rfl | trivial | exact fun h => h | exact fun h => (by rw [h]; rfl) | omega | assumption))))
        refine CallO.use (hP) ?_
        try simp only [↓sxd, sxu, ↓zE, ↓exq, ↓zN, Nat.reduceBEq, Nat.reduceAdd, Nat.reduceLT]
        (repeat' (first | rfl | exact trivial | exact fun h => h | exact fun h => (by rw [h]; rfl) | apply And.intro | omega | exact Nat.le_of_ble_eq_true rfl))) ?_
    have hpz : (((2 ^ c.pairs : Nat) : Int) = 0) = False := eq_false (by omega)
    refine Tr.reg [2, 5, 6, 7, 8] (by
        simp only [↓sxd, sxu, ↓zE, ↓exq, St.keep, ↓xB, Nat.reduceBEq, Nat.reduceLT, sxe, tysW34_8, wi (show bits < 9223372036854775808 by omega), wun (show c.pairs < 18446744073709551616 by omega), shl_i (show c.pairs < 62 by omega), tmod_pow, ← ht, hpz]
        (repeat' (first | rfl | exact trivial | exact fun h => h | exact fun h => (by rw [h]; rfl) | apply And.intro | omega | exact Nat.le_of_ble_eq_true rfl))) ?_
    refine Tr.reg [2, 5, 6, 7, 8, 11] (by
        simp only [↓sxd, sxu, ↓zE, ↓exq, St.keep, ↓zD, Nat.reduceBEq, Nat.reduceAdd, Nat.reduceLT, tysW34_8]
        (repeat ((with_reducible refine And.intro ?_ ?_); (focus (first | with_reducible rfl | trivial | exact fun h => h | exact fun h => (by rw [h]; rfl) | omega | assumption))))
        refine CallO.use (Without_c c t (by omega) (by omega) (by omega)) ?_
        try simp only [↓sxd, sxu, ↓zE, Nat.reduceLT]
        (repeat ((with_reducible refine And.intro ?_ ?_); (focus (first | with_reducible rfl | trivial | exact fun h => h | exact fun h => (by rw [h]; rfl) | omega | assumption))))
        refine CallO.use (lCensus_c _ (fine_small (without_fine hf t))) ?_
        try simp only [↓sxd, sxu, ↓zE, Nat.reduceLT]
        (repeat ((with_reducible refine And.intro ?_ ?_); (focus (first | with_reducible rfl | trivial | exact fun h => h | exact fun h => (by rw [h]; rfl) | omega | assumption))))
        refine CallO.use (hQ) ?_
        try simp only [↓sxd, sxu, ↓zE, ↓exq, ↓zN, ↓zM, Nat.reduceBEq, Nat.reduceAdd, Nat.reduceLT, Nat.reduceEqDiff, tysW34_8]
        (repeat' (first | rfl | exact trivial | exact fun h => h | exact fun h => (by rw [h]; rfl) | apply And.intro | omega | exact Nat.le_of_ble_eq_true rfl))) ?_
    refine Tr.seq ?_
    refine Tr.reg [2, 5, 6, 7, 8, 11, 59] (by
        simp only [↓sxd, sxu, ↓zE, ↓exq, St.keep, Nat.reduceBEq, Nat.reduceLT]
        iterate 2
          (repeat ((with_reducible refine And.intro ?_ ?_); (focus (first | with_reducible rfl | trivial | exact fun h => h | exact fun h => (by rw [h]; rfl) | omega | assumption))))
          refine GdO.mk _ (fun hg => by simp only [↓sxd, sxu, ↓exq, Nat.reduceBEq, hg]; (repeat' (first | rfl | exact trivial | exact fun h => h | exact fun h => (by rw [h]; rfl) | apply And.intro | omega | exact Nat.le_of_ble_eq_true rfl))) ?_
          simp only [↓sxd, sxu, ↓zE, ↓exq, ↓zH, Nat.reduceBEq, Nat.reduceLT]
        (repeat' (first | rfl | exact trivial | exact fun h => h | exact fun h => (by rw [h]; rfl) | apply And.intro | omega | exact Nat.le_of_ble_eq_true rfl))) ?_
    refine Tr.cond rfl (fun h59 => ?_) (fun h59 => ?_)
    · exact absurd h59 (by
        rcases hfe with ⟨rfl, _⟩ | ⟨rfl, _⟩ <;> decide)
    · refine Tr.skip ?_
      refine Tr.seq ?_
      refine Tr.reg [2, 5, 6, 7, 8, 11, 61] (by
          simp only [↓sxd, sxu, ↓zE, ↓exq, St.keep, Nat.reduceBEq, Nat.reduceLT]
          (repeat' (first | rfl | exact trivial | exact fun h => h | exact fun h => (by rw [h]; rfl) | apply And.intro | omega | exact Nat.le_of_ble_eq_true rfl))) ?_
      refine Tr.cond rfl (fun h61 => ?_) (fun h61 => ?_)
      · have h9 : e = 9 ∧ (c.without t).cons = false := by
          rcases hlaw with ⟨h, h2⟩ | ⟨b, _, h, _⟩
          · simp only [Prod.mk.injEq] at h; exact ⟨h.2, h2⟩
          · simp only [Prod.mk.injEq] at h; rw [h.2] at h61; cases h61
        obtain ⟨rfl, hcf⟩ := h9
        obtain rfl : f = 9 := by
          rcases hfe with ⟨_, h⟩ | ⟨h, _⟩
          · rw [hcf] at h; cases h
          · exact h
        refine Tr.reg [4] (by
            simp only [↓sxd, sxu, ↓zE, ↓exq, St.keep, Nat.reduceBEq, Nat.reduceLT]
            iterate 2
              (repeat ((with_reducible refine And.intro ?_ ?_); (focus (first | with_reducible rfl | trivial | exact fun h => h | exact fun h => (by rw [h]; rfl) | omega | assumption))))
              refine GdO.mk _ (fun hg => by simp only [↓sxd, sxu, ↓exq, Nat.reduceBEq]; (repeat' (first | rfl | exact trivial | exact fun h => h | exact fun h => (by rw [h]; rfl) | apply And.intro | omega | exact Nat.le_of_ble_eq_true rfl))) ?_
              simp only [↓sxd, sxu, ↓zE, ↓exq, ↓zH, Nat.reduceBEq, Nat.reduceLT]
            (repeat ((with_reducible refine And.intro ?_ ?_); (focus (first | with_reducible rfl | trivial | exact fun h => h | exact fun h => (by rw [h]; rfl) | omega | assumption))))
            refine GdO.mk _ (fun hg => by simp only [sxu, ↓exq, ↓zB]; (repeat ((with_reducible refine And.intro ?_ ?_); (focus (first | with_reducible rfl | trivial | exact fun h => h | exact fun h => (by rw [h]; rfl) | omega | assumption)))); exact CallP.use (awake_c) ⟨rfl, rfl, rfl⟩) ?_
            simp only [↓sxd, sxu, ↓zE, ↓exq, ↓zH, Nat.reduceBEq, Nat.reduceLT]
            (repeat' (first | rfl | exact trivial | exact fun h => h | exact fun h => (by rw [h]; rfl) | apply And.intro | omega | exact Nat.le_of_ble_eq_true rfl))) ?_
        refine Tr.ret ?_
        (refine ⟨.inr rfl, ?_⟩; first | rfl | exact ⟨rfl, rfl, trivial⟩ | exact ⟨rfl, rfl, rfl, trivial⟩ | (simp only [Res, ResL, ResOK, ↓sxd, sxu, ↓zE, ↓zC, zK, ↓exP, ↓exq, ↓zB, St.keep, ↓zH, ↓xB, ↓zL, ↓zJ, ↓zD, ↓zN, ↓zM, ↓zI, ↓zA, Nat.reduceBEq, Nat.reduceAdd, Nat.reduceLT, Nat.reduceMul, Nat.reduceSub, Nat.reduceLeDiff, Nat.reduceEqDiff, Int.reduceLE, Int.reduceLT, Int.reduceToNat, reduceIte, implies_true, sxe, tysW34_8]; (repeat' (first | rfl | exact trivial | exact fun h => h | exact fun h => (by rw [h]; rfl) | apply And.intro | omega | exact Nat.le_of_ble_eq_true rfl))))
      · have h0 : ∃ b, b < 2 ^ c.pairs ∧ l = elems b ∧ e = 0 ∧ (c.without b).cons = true ∧ ((c.without t).cons = true → lessB (nats (elems t)) (nats (elems b)) = false) := by
          rcases hlaw with ⟨h, h2⟩ | ⟨b, h1, h, h2, h3⟩
          · simp only [Prod.mk.injEq] at h; rw [h.2] at h61; cases h61
          · simp only [Prod.mk.injEq] at h; exact ⟨b, h1, h.1, h.2, h2, h3⟩
        obtain ⟨b, hbl, rfl, rfl, hbc, hbest⟩ := h0
        have hel := elems_len b
        have hmx : ∀ x ∈ elems b, x < c.pairs := fun x hx => elems_lt hx hbl
        have hsB := setOf_elems (s := b) (by omega)
        have hsrt := elems_sorted b
        obtain ⟨r2, o2, g, hpg, hge⟩ := persons_fine (without_fine hf b)
        have hQ2 := PersonsF_c _ (without_fine hf b)
        rw [hpg] at hQ2
        obtain rfl : g = 0 := by
          rcases hge with ⟨h, _⟩ | ⟨_, h⟩
          · exact h
          · rw [hbc] at h; cases h
        generalize hL : elems b = L at hel hmx hsB hsrt hbest
        refine Tr.skip ?_
        refine Tr.reg [2, 5, 6, 8, 11, 12] (by
            simp only [↓sxd, sxu, ↓zE, ↓exq, St.keep, Nat.reduceBEq, Nat.reduceLT]
            (repeat' (first | rfl | exact trivial | exact fun h => h | exact fun h => (by rw [h]; rfl) | apply And.intro | omega | exact Nat.le_of_ble_eq_true rfl))) ?_
        refine Tr.seq ?_
        refine Tr.reg [2, 5, 6, 8, 11, 12, 13] (by
            simp only [↓sxd, sxu, ↓zE, ↓exq, St.keep, Nat.reduceBEq, Nat.reduceLT]
            (repeat' (first | rfl | exact trivial | exact fun h => h | exact fun h => (by rw [h]; rfl) | apply And.intro | omega | exact Nat.le_of_ble_eq_true rfl))) ?_
        refine Tr.imp (st' := ⟨[(2, .ptr 0 0 0), (5, I c.pairs), (6, SI (nats L)), (8, I t), (11, I f), (12, I (setOf (L.take 0) : Nat)), (13, I 0)], [(2, .arr 2 [[I o1.lo, I o1.hi]]), (1, .arr 2 [[I r1.lo, I r1.hi]]), (0, .arr 7 [cs c (SP c.same) (SP c.apart)])], 3, 139, [], 0⟩) (Imp.keepAll) (Tr.block (Tr.loopI (fun mm ss => ∃ (i : Nat), (i ≤ L.length) ∧ L.length - i = mm ∧ ss = ⟨[(2, .ptr 0 0 0), (5, I c.pairs), (6, SI (nats L)), (8, I t), (11, I f), (12, I (setOf (L.take i) : Nat)), (13, I i)], [(2, .arr 2 [[I o1.lo, I o1.hi]]), (1, .arr 2 [[I r1.lo, I r1.hi]]), (0, .arr 7 [cs c (SP c.same) (SP c.apart)])], 3, 139, [], 0⟩) _ ⟨0, ?_, rfl, rfl⟩ ?_))
        · exact Nat.zero_le _
        rintro mm ss ⟨i, hI, rfl, rfl⟩
        refine Tr.seq ?_
        refine Tr.reg [2, 5, 6, 8, 11, 12, 13, 74] (by
            simp only [↓sxd, sxu, ↓zE, ↓exq, ↓zB, St.keep, ↓zJ, Nat.reduceBEq, Nat.reduceLT, sxe, tysW34_8]
            (repeat' (first | rfl | exact trivial | exact fun h => h | exact fun h => (by rw [h]; rfl) | apply And.intro | omega | exact Nat.le_of_ble_eq_true rfl))) ?_
        refine Tr.cond rfl (fun h74 => ?_) (fun h74 => ?_)
        · have hlt : i < L.length := by simp [nats_len] at h74; omega
          have hxl : L.getD i 0 < c.pairs := hmx _ (getD_mem hlt)
          have hst := setOf_lt (n := c.pairs) (L.take i) (fun x hx => hmx x (List.mem_of_mem_take hx))
          have hsu := setOf_take hlt
          have hpx : 2 ^ (L.getD i 0) ≤ 2 ^ 11 := Nat.pow_le_pow_right (n := 2) (by omega) (by omega)
          refine Tr.skip ?_
          refine Tr.seq ?_
          refine Tr.block ?_
          refine Tr.seq ?_
          have hi1 : i - 1 < L.length := by omega
          refine Tr.regV [] [] [2, 5, 6, 8, 11, 12, 13, 105] mix (by kernel_rfl) (by
              try simp only
              simp only [↓yB, ↓yG, addA, ↓sxd, sxu, zK, ↓exq, St.keep, ↓zD, Nat.reduceBEq, Nat.reduceAdd, Nat.reduceLT, sxe, tysW34_8, nats_len, nats_at, hlt]
              iterate 15
                (repeat ((with_reducible refine And.intro ?_ ?_); (focus (first | with_reducible rfl | trivial | exact fun h => h | exact fun h => (by rw [h]; rfl) | omega | assumption))))
                refine GdV.mk _ (fun hg => by simp only [↓sxd, sxu, ↓exP, ↓exq, ↓zD, Nat.reduceBEq, Nat.reduceLT, sxe, tysW34_8, nats_len, nats_at, hlt, hg]; (repeat' (first | rfl | exact trivial | exact fun h => h | exact fun h => (by rw [h]; rfl) | apply And.intro | omega | exact Nat.le_of_ble_eq_true rfl))) ?_
                simp only [↓yB, ↓yG, addA, sxu, zK, ↓exq, ↓zH, Nat.reduceBEq, Nat.reduceAdd, Nat.reduceLT]
              (repeat ((with_reducible refine And.intro ?_ ?_); (focus (first | with_reducible rfl | trivial | exact fun h => h | exact fun h => (by rw [h]; rfl) | omega | assumption))))
              refine GdV.mk (I ((i - 1 : Nat) : Int)) (fun hg => by
                have h0 : 0 < i := by
                  rw [Bool.and_eq_true, decide_eq_true_eq] at hg; omega
                have hw : IntKind.i64.wrap ((i : Int) - 1) = ((i - 1 : Nat) : Int) := by rw [wr (by omega) (by omega)]; omega
                simp only [↓sxd, sxu, ↓exP, ↓exq, hg, hw]
                (repeat' (first | rfl | exact trivial | exact fun h => h | exact fun h => (by rw [h]; rfl) | apply And.intro | omega | exact Nat.le_of_ble_eq_true rfl))) ?_
              try simp only [↓yB, ↓yG, addA, sxu, zK, Nat.reduceBEq, Nat.reduceAdd, Nat.reduceLT]
              iterate 3
                (repeat ((with_reducible refine And.intro ?_ ?_); (focus (first | with_reducible rfl | trivial | exact fun h => h | exact fun h => (by rw [h]; rfl) | omega | assumption))))
                refine GdV.mk _ (fun hg => by simp only [↓sxd, sxu, ↓exP, ↓exq, ↓zD, Nat.reduceBEq, Nat.reduceLT, sxe, tysW34_8, nats_len, nats_at, hi1, hg]; (repeat' (first | rfl | exact trivial | exact fun h => h | exact fun h => (by rw [h]; rfl) | apply And.intro | omega | exact Nat.le_of_ble_eq_true rfl))) ?_
                simp only [↓yB, ↓yG, addA, sxu, zK, Nat.reduceBEq, Nat.reduceAdd, Nat.reduceLT]
              (repeat ((with_reducible refine And.intro ?_ ?_); (focus (first | with_reducible rfl | trivial | exact fun h => h | exact fun h => (by rw [h]; rfl) | omega | assumption))))
              first | refine GdV.and (fun hg => by simp only [sxu, Nat.reduceBEq, pickArgs, hg]; (repeat' (first | rfl | exact trivial | exact fun h => h | exact fun h => (by rw [h]; rfl) | apply And.intro | omega | exact Nat.le_of_ble_eq_true rfl))) ?_ | refine GdV.mk _ (fun hg => by simp only [↓yB, ↓yE, ↓yG, addA, ↓sxd, sxu, ↓zE, ↓zC, zK, ↓exP, ↓exq, ↓zB, St.keep, ↓zH, ↓xB, ↓zL, ↓zJ, ↓zD, ↓zN, ↓zM, ↓zI, ↓zA, Nat.reduceBEq, Nat.reduceAdd, Nat.reduceLT, Nat.reduceMul, Nat.reduceSub, Nat.reduceLeDiff, Nat.reduceEqDiff, Int.reduceLE, Int.reduceLT, Int.reduceToNat, reduceIte, implies_true, sxe, tysW34_8, nats_len, nats_at, hlt, hi1, hg, if_true]; (repeat' (first | rfl | exact trivial | exact fun h => h | exact fun h => (by rw [h]; rfl) | apply And.intro | omega | exact Nat.le_of_ble_eq_true rfl))) ?_
              simp only [↓yB, ↓yE, ↓yG, sxu, ↓exq, ↓zH, Nat.reduceBEq, Nat.reduceAdd, Nat.reduceLT]
              (repeat' (first | rfl | exact trivial | exact fun h => h | exact fun h => (by rw [h]; rfl) | apply And.intro | omega | exact Nat.le_of_ble_eq_true rfl))) ?_
          refine Tr.cond rfl (fun h105 => ?_) (fun h105 => ?_)
          · exfalso
            have hps : 0 < i → L.getD (i - 1) 0 < L.getD i 0 := prefix_get hsrt hlt
            simp only [Bool.or_eq_true, Bool.and_eq_true, decide_eq_true_eq] at h105
            rcases h105 with (h | h) | ⟨h, h2⟩
            · omega
            · omega
            · have := hps (by omega); omega
          · refine Tr.skip ?_
            refine Tr.reg1 [2, 5, 6, 8, 11, 12, 13] (by
                simp only [↓sxd, sxu, ↓zE, ↓exq, St.keep, ↓xB, ↓zD, Nat.reduceBEq, Nat.reduceLT, sxe, tysW34_8, nats_len, nats_at, hlt, wun (show L.getD i 0 < 18446744073709551616 by omega), shl_i (show L.getD i 0 < 62 by omega), or_i (show setOf (L.take i) < 4096 by omega) (show 2 ^ (L.getD i 0) < 4096 by omega)]
                (repeat' (first | rfl | exact trivial | exact fun h => h | exact fun h => (by rw [h]; rfl) | apply And.intro | omega | exact Nat.le_of_ble_eq_true rfl))) ?_
            have w1 : IntKind.i64.wrap ((i : Int) + 1) = ((i + 1 : Nat) : Int) := by rw [wr (by omega) (by omega)]; rfl
            refine Tr.reg1 [2, 5, 6, 8, 11, 12, 13] (by
                simp only [↓sxd, sxu, ↓zE, ↓exq, St.keep, Nat.reduceBEq, Nat.reduceLT, w1]
                (repeat' (first | rfl | exact trivial | exact fun h => h | exact fun h => (by rw [h]; rfl) | apply And.intro | omega | exact Nat.le_of_ble_eq_true rfl))) ?_
            refine ⟨_, _, ?_, ?_, ⟨i + 1, hlt, rfl, rfl⟩⟩
            · omega
            · rw [hsu]; exact Imp.keepAll
        · have hge2 : i = L.length := by simp [nats_len] at h74; omega
          subst hge2
          rw [List.take_length, hsB]
          refine Tr.exit ?_
          refine Tr.reg [6, 8, 11, 16] (by
              simp only [↓sxd, sxu, ↓zE, ↓exq, St.keep, ↓zD, Nat.reduceBEq, Nat.reduceAdd, Nat.reduceLT, tysW34_8]
              (repeat ((with_reducible refine And.intro ?_ ?_); (focus (first | with_reducible rfl | trivial | exact fun h => h | exact fun h => (by rw [h]; rfl) | omega | assumption))))
              refine CallO.use (Without_c c b (by omega) (by omega) (by omega)) ?_
              try simp only [↓sxd, sxu, ↓zE, Nat.reduceLT]
              (repeat ((with_reducible refine And.intro ?_ ?_); (focus (first | with_reducible rfl | trivial | exact fun h => h | exact fun h => (by rw [h]; rfl) | omega | assumption))))
              refine CallO.use (lCensus_c _ (fine_small (without_fine hf b))) ?_
              try simp only [↓sxd, sxu, ↓zE, Nat.reduceLT]
              (repeat ((with_reducible refine And.intro ?_ ?_); (focus (first | with_reducible rfl | trivial | exact fun h => h | exact fun h => (by rw [h]; rfl) | omega | assumption))))
              refine CallO.use (hQ2) ?_
              try simp only [↓sxd, sxu, ↓zE, ↓exq, ↓zN, ↓zM, Nat.reduceBEq, Nat.reduceAdd, Nat.reduceLT, Nat.reduceEqDiff, tysW34_8]
              (repeat' (first | rfl | exact trivial | exact fun h => h | exact fun h => (by rw [h]; rfl) | apply And.intro | omega | exact Nat.le_of_ble_eq_true rfl))) ?_
          refine Tr.reg [4] (by
              simp only [↓sxd, sxu, ↓zE, ↓exq, St.keep, Nat.reduceBEq, Nat.reduceLT]
              iterate 4
                (repeat ((with_reducible refine And.intro ?_ ?_); (focus (first | with_reducible rfl | trivial | exact fun h => h | exact fun h => (by rw [h]; rfl) | omega | assumption))))
                refine GdO.mk _ (fun hg => by simp only [↓sxd, sxu, ↓exq, Nat.reduceBEq]; (repeat' (first | rfl | exact trivial | exact fun h => h | exact fun h => (by rw [h]; rfl) | apply And.intro | omega | exact Nat.le_of_ble_eq_true rfl))) ?_
                simp only [↓sxd, sxu, ↓zE, Nat.reduceBEq, Nat.reduceLT]
              (repeat ((with_reducible refine And.intro ?_ ?_); (focus (first | with_reducible rfl | trivial | exact fun h => h | exact fun h => (by rw [h]; rfl) | omega | assumption))))
              refine GdO.mk _ (fun hg => by simp only [sxu, ↓exq, ↓zB, hg]; (repeat ((with_reducible refine And.intro ?_ ?_); (focus (first | with_reducible rfl | trivial | exact fun h => h | exact fun h => (by rw [h]; rfl) | omega | assumption)))); exact CallP.use (List_c t (by omega)) ⟨rfl, rfl, rfl⟩) ?_
              simp only [↓sxd, sxu, ↓zE, Nat.reduceBEq, Nat.reduceLT]
              (repeat ((with_reducible refine And.intro ?_ ?_); (focus (first | with_reducible rfl | trivial | exact fun h => h | exact fun h => (by rw [h]; rfl) | omega | assumption))))
              refine GdO.mk _ (fun hg => by simp only [sxu, ↓exq, Nat.reduceBEq, hg]; (repeat' (first | rfl | exact trivial | exact fun h => h | exact fun h => (by rw [h]; rfl) | apply And.intro | omega | exact Nat.le_of_ble_eq_true rfl))) ?_
              simp only [↓sxd, sxu, ↓zE, Nat.reduceBEq, Nat.reduceLT]
              (repeat ((with_reducible refine And.intro ?_ ?_); (focus (first | with_reducible rfl | trivial | exact fun h => h | exact fun h => (by rw [h]; rfl) | omega | assumption))))
              refine GdO.mk _ (fun hg => by simp only [sxu, ↓exq, ↓zB, Nat.reduceBEq, hg]; (repeat ((with_reducible refine And.intro ?_ ?_); (focus (first | with_reducible rfl | trivial | exact fun h => h | exact fun h => (by rw [h]; rfl) | omega | assumption)))); exact CallP.use (Less_c _ _ (by rw [nats_len]; have := elems_len t; omega) (by rw [nats_len]; omega)) ⟨rfl, rfl, rfl⟩) ?_
              simp only [↓sxd, sxu, ↓zE, Nat.reduceBEq, Nat.reduceLT]
              (repeat ((with_reducible refine And.intro ?_ ?_); (focus (first | with_reducible rfl | trivial | exact fun h => h | exact fun h => (by rw [h]; rfl) | omega | assumption))))
              refine GdO.mk _ (fun hg => by simp only [sxu, ↓exq, ↓zL, hg]; (repeat' (first | rfl | exact trivial | exact fun h => h | exact fun h => (by rw [h]; rfl) | apply And.intro | omega | exact Nat.le_of_ble_eq_true rfl))) ?_
              simp only [↓sxd, sxu, ↓zE, Nat.reduceBEq, Nat.reduceLT]
              (repeat ((with_reducible refine And.intro ?_ ?_); (focus (first | with_reducible rfl | trivial | exact fun h => h | exact fun h => (by rw [h]; rfl) | omega | assumption))))
              first | refine GdO.or (fun hg => by simp only [sxu, Nat.reduceBEq, pickArgs]; (repeat' (first | rfl | exact trivial | exact fun h => h | exact fun h => (by rw [h]; rfl) | apply And.intro | omega | exact Nat.le_of_ble_eq_true rfl))) ?_ | refine GdO.mk _ (fun hg => by simp only [↓sxd, sxu, ↓zE, ↓zC, zK, ↓exP, ↓exq, ↓zB, St.keep, ↓zH, ↓xB, ↓zL, ↓zJ, ↓zD, ↓zN, ↓zM, ↓zI, ↓zA, Nat.reduceBEq, Nat.reduceAdd, Nat.reduceLT, Nat.reduceMul, Nat.reduceSub, Nat.reduceLeDiff, Nat.reduceEqDiff, Int.reduceLE, Int.reduceLT, Int.reduceToNat, reduceIte, implies_true, sxe, tysW34_8, hg, if_true]; (repeat' (first | rfl | exact trivial | exact fun h => h | exact fun h => (by rw [h]; rfl) | apply And.intro | omega | exact Nat.le_of_ble_eq_true rfl))) ?_
              simp only [↓sxd, sxu, ↓zE, ↓exq, ↓zH, Nat.reduceBEq, Nat.reduceLT]
              (repeat ((with_reducible refine And.intro ?_ ?_); (focus (first | with_reducible rfl | trivial | exact fun h => h | exact fun h => (by rw [h]; rfl) | omega | assumption))))
              refine GdO.mk _ (fun hg => by simp only [sxu, ↓exq, ↓zB, hg]; (repeat ((with_reducible refine And.intro ?_ ?_); (focus (first | with_reducible rfl | trivial | exact fun h => h | exact fun h => (by rw [h]; rfl) | omega | assumption)))); exact CallP.use (awake_c) ⟨rfl, rfl, rfl⟩) ?_
              simp only [↓sxd, sxu, ↓zE, ↓exq, ↓zH, Nat.reduceBEq, Nat.reduceLT]
              (repeat' (first | rfl | exact trivial | exact fun h => h | exact fun h => (by rw [h]; rfl) | apply And.intro | omega | exact Nat.le_of_ble_eq_true rfl))) ?_
          refine Tr.ret ?_
          exact ⟨.inr rfl, congrArg (fun n => some (B n)) (by
          rcases hfe with ⟨rfl, h⟩ | ⟨rfl, _⟩
          · rw [hbest h]; rfl
          · rfl)⟩
end Go.Proofs.YtcnkbdfkjhlbiaaDoor
