/- Lemmas, part XPX. Conditions: none. -/
import Derived.Test.YtcnkbdfkjhlbiaaDoorXPO
set_option linter.unusedVariables false
namespace Go.Proofs.YtcnkbdfkjhlbiaaDoor
set_option maxRecDepth 8000
theorem wr_id {n : Int} (h1 : -9223372036854775808 ≤ n) (h2 : n < 9223372036854775808) : wr64 n = n := wr h1 h2
def pc (s : Nat) : Nat := (List.range 10).countP fun j => s.testBit j
structure Parts (one : Nat → Bool) (s : Nat) (gs : List Nat) : Prop where
  ok : ∀ g ∈ gs, g ≠ 0 ∧ one g = true
  dis : gs.Pairwise fun a b => ∀ j, a.testBit j = true → b.testBit j = false
  un : ∀ j, s.testBit j = true ↔ ∃ g ∈ gs, g.testBit j = true
theorem nz_bit {g : Nat} (h : g ≠ 0) : ∃ j, g.testBit j = true := Nat.exists_testBit_of_ne_zero h
theorem Parts.mem_sub {one : Nat → Bool} {s : Nat} {gs : List Nat} (h : Parts one s gs) {g : Nat} (hg : g ∈ gs) : s &&& g = g := by
  apply Nat.eq_of_testBit_eq
  intro j
  rw [Nat.testBit_and]
  cases hj : g.testBit j
  · simp
  · rw [(h.un j).2 ⟨g, hg, hj⟩]; rfl
theorem sub_test {s g j : Nat} (h : s &&& g = g) (hj : g.testBit j = true) : s.testBit j = true := by
  have := congrArg (·.testBit j) h
  simp only [Nat.testBit_and, hj, Bool.and_true] at this
  exact this
theorem diff_test (s g j : Nat) : (s ^^^ (s &&& g)).testBit j = (s.testBit j && !g.testBit j) := by
  rw [Nat.testBit_xor, Nat.testBit_and]
  cases s.testBit j <;> cases g.testBit j <;> rfl
theorem Parts.nil_of {one : Nat → Bool} {gs : List Nat} (h : Parts one 0 gs) : gs = [] := by
  cases gs with
  | nil => rfl
  | cons g gs =>
    obtain ⟨j, hj⟩ := nz_bit (h.ok g List.mem_cons_self).1
    have := (h.un j).2 ⟨g, List.mem_cons_self, hj⟩
    simp at this
theorem Parts.take {one : Nat → Bool} {s g : Nat} {pre post : List Nat} (h : Parts one s (pre ++ g :: post)) : Parts one (s ^^^ (s &&& g)) (pre ++ post) := by
  have hd := List.pairwise_append.1 h.dis
  have hd2 := List.pairwise_cons.1 hd.2.1
  refine ⟨fun x hx => h.ok x ?_, List.pairwise_append.2 ⟨hd.1, hd2.2, fun a ha b hb => hd.2.2 a ha b (List.mem_cons_of_mem _ hb)⟩, fun j => ?_⟩
  · rcases List.mem_append.1 hx with h1 | h1
    · exact List.mem_append.2 (.inl h1)
    · exact List.mem_append.2 (.inr (List.mem_cons_of_mem _ h1))
  · rw [diff_test, Bool.and_eq_true, Bool.not_eq_true', h.un j]
    constructor
    · rintro ⟨⟨x, hx, hxj⟩, hg⟩
      refine ⟨x, ?_, hxj⟩
      rcases List.mem_append.1 hx with h1 | h1
      · exact List.mem_append.2 (.inl h1)
      · rcases List.mem_cons.1 h1 with rfl | h1
        · rw [hg] at hxj; cases hxj
        · exact List.mem_append.2 (.inr h1)
    · rintro ⟨x, hx, hxj⟩
      rcases List.mem_append.1 hx with h1 | h1
      · exact ⟨⟨x, List.mem_append.2 (.inl h1), hxj⟩, hd.2.2 x h1 g List.mem_cons_self j hxj⟩
      · refine ⟨⟨x, List.mem_append.2 (.inr (List.mem_cons_of_mem _ h1)), hxj⟩, ?_⟩
        cases hg : g.testBit j
        · rfl
        · rw [hd2.1 x h1 j hg] at hxj; cases hxj
theorem Parts.put {one : Nat → Bool} {s g : Nat} {gs : List Nat} (h : Parts one (s ^^^ (s &&& g)) gs) (hs : s &&& g = g) (h0 : g ≠ 0) (h1 : one g = true) : Parts one s (g :: gs) := by
  refine ⟨fun x hx => ?_, List.pairwise_cons.2 ⟨fun x hx j hj => ?_, h.dis⟩, fun j => ?_⟩
  · rcases List.mem_cons.1 hx with rfl | hx
    · exact ⟨h0, h1⟩
    · exact h.ok x hx
  · cases hxj : x.testBit j
    · rfl
    · have := (h.un j).2 ⟨x, hx, hxj⟩
      rw [diff_test, hj] at this
      simp at this
  · constructor
    · intro hj
      cases hg : g.testBit j
      · obtain ⟨x, hx, hxj⟩ := (h.un j).1 (by rw [diff_test, hj, hg]; rfl)
        exact ⟨x, List.mem_cons_of_mem _ hx, hxj⟩
      · exact ⟨g, List.mem_cons_self, hg⟩
    · rintro ⟨x, hx, hxj⟩
      rcases List.mem_cons.1 hx with rfl | hx
      · exact sub_test hs hxj
      · have := (h.un j).2 ⟨x, hx, hxj⟩
        rw [diff_test, Bool.and_eq_true] at this
        exact this.1
structure LeastOk (one : Nat → Bool) (n : Nat) (L : Nat → Int) : Prop where
  zero : L 0 = 0
  nn : ∀ s, s < 2 ^ n → 0 ≤ L s
  le : ∀ s g, s < 2 ^ n → s ≠ 0 → s &&& g = g → g.testBit (low s) = true → one g = true → L s ≤ 1 + L (s ^^^ (s &&& g))
  ex : ∀ s, s < 2 ^ n → s ≠ 0 → L s < 1024 → ∃ g, s &&& g = g ∧ g.testBit (low s) = true ∧ one g = true ∧ L s = 1 + L (s ^^^ (s &&& g))
theorem low_test {s : Nat} (h : s < 2 ^ 10) (h0 : s ≠ 0) : s.testBit (low s) = true := by
  obtain ⟨j, hj⟩ := nz_bit h0
  have hj16 : j < 16 := by have := testBit_lt hj h; omega
  have hm := mem_elems.2 ⟨hj16, hj⟩
  unfold low
  cases he : elems s with
  | nil => rw [he] at hm; cases hm
  | cons a l =>
    have : a ∈ elems s := by rw [he]; exact List.mem_cons_self
    exact (mem_elems.1 this).2
theorem diff_lt {s g j : Nat} (hs : s.testBit j = true) (hg : g.testBit j = true) : s ^^^ (s &&& g) < s := by
  have h1 : s ^^^ (s &&& g) ≤ s := by
    have : s ^^^ (s &&& g) = s &&& (s ^^^ (s &&& g)) := by
      apply Nat.eq_of_testBit_eq; intro i
      simp only [Nat.testBit_and, Nat.testBit_xor]
      cases s.testBit i <;> cases g.testBit i <;> rfl
    rw [this]; exact Nat.and_le_left
  have h2 : s ^^^ (s &&& g) ≠ s := fun h => by
    have := congrArg (·.testBit j) h
    simp only [diff_test, hs, hg] at this
    simp at this
  omega
theorem LeastOk.parts {one : Nat → Bool} {n : Nat} (hn : n ≤ 10) {L : Nat → Int} (h : LeastOk one n L) : ∀ s, s < 2 ^ n → L s < 1024 → ∃ gs, Parts one s gs ∧ (gs.length : Int) = L s := by
  intro s
  induction s using Nat.strongRecOn with
  | _ s ih =>
    intro hs hl
    by_cases h0 : s = 0
    · subst h0
      exact ⟨[], ⟨fun g hg => (by cases hg), .nil, fun j => (by simp)⟩, (by rw [h.zero]; rfl)⟩
    · obtain ⟨g, h1, h2, h3, h4⟩ := h.ex s hs h0 hl
      have hlt := diff_lt (sub_test h1 h2) h2
      have hsd : s ^^^ (s &&& g) < 2 ^ n := by omega
      obtain ⟨gs, h5, h6⟩ := ih _ hlt hsd (by have := h.nn _ hsd; omega)
      refine ⟨g :: gs, h5.put h1 (fun hc => by subst hc; simp at h2) h3, ?_⟩
      rw [List.length_cons, h4, ← h6]; omega
theorem LeastOk.le_parts {one : Nat → Bool} {n : Nat} (hn : n ≤ 10) {L : Nat → Int} (h : LeastOk one n L) : ∀ s gs, s < 2 ^ n → Parts one s gs → L s ≤ gs.length := by
  intro s
  induction s using Nat.strongRecOn with
  | _ s ih =>
    intro gs hs hp
    by_cases h0 : s = 0
    · subst h0
      rw [hp.nil_of, h.zero]; exact Int.le_refl _
    · have hs10 : s < 2 ^ 10 := Nat.lt_of_lt_of_le hs (Nat.pow_le_pow_right (by omega) hn)
      have hlow := low_test hs10 h0
      obtain ⟨g, hg, hgl⟩ := (hp.un _).1 hlow
      have hsub := hp.mem_sub hg
      obtain ⟨pre, post, rfl⟩ := List.append_of_mem hg
      have h1 := h.le s g hs h0 hsub hgl (hp.ok g hg).2
      have hlt := diff_lt hlow hgl
      have h2 := ih _ hlt (pre ++ post) (by omega) hp.take
      simp only [List.length_append, List.length_cons] at h2 ⊢
      omega
def Down (one : Nat → Bool) : Prop := ∀ a b, a &&& b = b → one a = true → one b = true
theorem countP_split {p q r : Nat → Bool} : ∀ (l : List Nat), (∀ j, p j = (q j || r j)) → (∀ j, q j = true → r j = false) → l.countP p = l.countP q + l.countP r
  | [], _, _ => rfl
  | x :: l, h, h2 => by
    have ih := countP_split l h h2
    rw [List.countP_cons, List.countP_cons, List.countP_cons, ih, h x]
    cases hq : q x
    · simp; omega
    · simp [h2 x hq]; omega
theorem pc_split {s g : Nat} (h : s &&& g = g) : pc s = pc g + pc (s ^^^ (s &&& g)) := by
  unfold pc
  refine countP_split _ (fun j => ?_) (fun j hj => ?_)
  · rw [diff_test]
    cases hg : g.testBit j
    · simp
    · rw [sub_test h hg]; rfl
  · rw [diff_test, hj]; simp
theorem pc_zero : pc 0 = 0 := by decide
theorem pc_pos {g : Nat} (h : g < 2 ^ 10) (h0 : g ≠ 0) : 1 ≤ pc g := by
  obtain ⟨j, hj⟩ := nz_bit h0
  exact List.countP_pos_iff.2 ⟨j, List.mem_range.2 (testBit_lt hj h), hj⟩
theorem pc_one (k : Nat) (h : k < 10) : pc (2 ^ k) = 1 := by
  have : (List.range 10).all (fun k => pc (2 ^ k) == 1) = true := by decide
  simpa using List.all_eq_true.1 this k (List.mem_range.2 h)
theorem pc_full (k : Nat) (h : k ≤ 10) : pc (2 ^ k - 1) = k := by
  have : (List.range 11).all (fun k => pc (2 ^ k - 1) == k) = true := by decide
  simpa using List.all_eq_true.1 this k (List.mem_range.2 (by omega))
theorem sub_lt {s g n : Nat} (h : s &&& g = g) (hs : s < 2 ^ n) : g < 2 ^ n := by
  rw [← h]; exact Nat.lt_of_le_of_lt Nat.and_le_left hs
theorem Parts.len_pc {one : Nat → Bool} : ∀ (gs : List Nat) (s : Nat), s < 2 ^ 10 → Parts one s gs → gs.length ≤ pc s
  | [], s, _, _ => Nat.zero_le _
  | g :: gs, s, hs, h => by
    have hsub := h.mem_sub List.mem_cons_self
    have h2 : Parts one (s ^^^ (s &&& g)) gs := Parts.take (pre := []) h
    have h3 : s ^^^ (s &&& g) < 2 ^ 10 := by
      refine Nat.xor_lt_two_pow hs (Nat.lt_of_le_of_lt Nat.and_le_left hs)
    have := len_pc gs _ h3 h2
    have := pc_split hsub
    have := pc_pos (sub_lt hsub hs) (h.ok g List.mem_cons_self).1
    rw [List.length_cons]; omega
theorem two_pow_sub {s j : Nat} (h : s.testBit j = true) : s &&& 2 ^ j = 2 ^ j := by
  apply Nat.eq_of_testBit_eq; intro i
  rw [Nat.testBit_and, Nat.testBit_two_pow]
  by_cases hij : j = i
  · subst hij; simp [h]
  · simp [hij]
theorem diff_sub (s g : Nat) : s &&& (s ^^^ (s &&& g)) = s ^^^ (s &&& g) := by
  apply Nat.eq_of_testBit_eq; intro i
  rw [Nat.testBit_and, diff_test]
  cases s.testBit i <;> cases g.testBit i <;> rfl
theorem Parts.more {one : Nat → Bool} (hd : Down one) : ∀ (gs : List Nat) (s : Nat), s < 2 ^ 10 → Parts one s gs → gs.length < pc s → ∃ gs', Parts one s gs' ∧ gs'.length = gs.length + 1
  | [], s, _, h, hl => by
    have : s = 0 := by
      by_cases h0 : s = 0
      · exact h0
      · obtain ⟨j, hj⟩ := nz_bit h0
        obtain ⟨g, hg, _⟩ := (h.un j).1 hj
        cases hg
    subst this
    rw [pc_zero] at hl; cases hl
  | g :: gs, s, hs, h, hl => by
    have hsub := h.mem_sub List.mem_cons_self
    have hg := h.ok g List.mem_cons_self
    have h2 : Parts one (s ^^^ (s &&& g)) gs := Parts.take (pre := []) h
    have h3 : s ^^^ (s &&& g) < 2 ^ 10 := Nat.xor_lt_two_pow hs (Nat.lt_of_le_of_lt Nat.and_le_left hs)
    have hp := pc_split hsub
    rw [List.length_cons] at hl
    by_cases hc : gs.length < pc (s ^^^ (s &&& g))
    · obtain ⟨gs', h4, h5⟩ := more hd gs _ h3 h2 hc
      exact ⟨g :: gs', h4.put hsub hg.1 hg.2, by rw [List.length_cons, h5, List.length_cons]⟩
    · have hg2 : 2 ≤ pc g := by omega
      obtain ⟨j, hj⟩ := nz_bit hg.1
      have hjs := sub_test hsub hj
      have hgl := sub_lt hsub hs
      have hj10 := testBit_lt hj hgl
      have e1 := two_pow_sub hj
      have hps := pc_split e1
      rw [pc_one j hj10] at hps
      have hr : g ^^^ (g &&& 2 ^ j) ≠ 0 := fun hc => by rw [hc, pc_zero] at hps; omega
      have hsr : s &&& (g ^^^ (g &&& 2 ^ j)) = g ^^^ (g &&& 2 ^ j) := by
        apply Nat.eq_of_testBit_eq; intro i
        rw [Nat.testBit_and]
        cases hi : (g ^^^ (g &&& 2 ^ j)).testBit i
        · simp
        · rw [sub_test hsub (by rw [diff_test, Bool.and_eq_true] at hi; exact hi.1)]; rfl
      have hrj : (s ^^^ (s &&& (g ^^^ (g &&& 2 ^ j)))).testBit j = true := by
        rw [diff_test, diff_test, hjs, hj, Nat.testBit_two_pow]; simp
      have e2 := two_pow_sub hrj
      have e3 : (s ^^^ (s &&& (g ^^^ (g &&& 2 ^ j)))) ^^^ ((s ^^^ (s &&& (g ^^^ (g &&& 2 ^ j)))) &&& 2 ^ j) = s ^^^ (s &&& g) := by
        apply Nat.eq_of_testBit_eq; intro i
        rw [diff_test, diff_test, diff_test, diff_test, Nat.testBit_two_pow]
        by_cases hij : j = i
        · subst hij; simp [hj]
        · simp only [hij, decide_false, Bool.not_false, Bool.and_true]
      have h5 : Parts one (s ^^^ (s &&& (g ^^^ (g &&& 2 ^ j)))) (2 ^ j :: gs) := by
        refine Parts.put ?_ e2 (Nat.ne_of_gt (Nat.two_pow_pos j)) (hd _ _ e1 hg.2)
        rw [e3]; exact h2
      exact ⟨_, h5.put hsr hr (hd _ _ (diff_sub _ _) hg.2), by simp⟩
theorem Parts.upto {one : Nat → Bool} (hd : Down one) {s : Nat} (hs : s < 2 ^ 10) : ∀ (d : Nat) (gs : List Nat), Parts one s gs → gs.length + d ≤ pc s → ∃ gs', Parts one s gs' ∧ gs'.length = gs.length + d
  | 0, gs, h, _ => ⟨gs, h, rfl⟩
  | d + 1, gs, h, hl => by
    obtain ⟨gs', h1, h2⟩ := Parts.more hd gs s hs h (by omega)
    obtain ⟨gs2, h3, h4⟩ := upto hd hs d gs' h1 (by omega)
    exact ⟨gs2, h3, by omega⟩
end Go.Proofs.YtcnkbdfkjhlbiaaDoor
namespace Go.Proofs.YtcnkbdfkjhlbiaaDoor
set_option maxRecDepth 8000
def Exact (f : Nat → Nat) (n m : Nat) : Prop := ∃ d : List Nat, d.Nodup ∧ d.length = m ∧ ∀ x, x ∈ d ↔ ∃ i, i < n ∧ f i = x
theorem Exact.uniq {f : Nat → Nat} {n m m' : Nat} (h : Exact f n m) (h' : Exact f n m') : m = m' := by
  obtain ⟨d, h1, h2, h3⟩ := h
  obtain ⟨d', h1', h2', h3'⟩ := h'
  rw [← h2, ← h2']
  exact ((List.perm_ext_iff_of_nodup h1 h1').2 fun x => by rw [h3, h3']).length_eq
def many (v : List Nat) : Nat := v.foldl (fun m x => max m (x + 1)) 0
theorem many_snoc (v : List Nat) (x : Nat) : many (v ++ [x]) = max (many v) (x + 1) := by simp [many, List.foldl_append]
inductive Rgs : List Nat → Prop
  | nil : Rgs []
  | snoc {v : List Nat} {x : Nat} (h : Rgs v) (hx : x ≤ many v) : Rgs (v ++ [x])
theorem Rgs.vals {v : List Nat} (h : Rgs v) : ∀ x, x ∈ v ↔ x < many v := by
  induction h with
  | nil => intro x; simp [many]
  | @snoc v y h hy ih =>
    intro x
    rw [List.mem_append, ih, many_snoc, List.mem_singleton]
    omega
theorem mem_getD {v : List Nat} {x : Nat} : x ∈ v ↔ ∃ i, i < v.length ∧ v.getD i 0 = x := by
  rw [List.mem_iff_getElem]
  constructor
  · rintro ⟨i, hi, rfl⟩; exact ⟨i, hi, by simp [List.getD_eq_getElem?_getD, hi]⟩
  · rintro ⟨i, hi, rfl⟩; exact ⟨i, hi, by simp [List.getD_eq_getElem?_getD, hi]⟩
theorem Rgs.exact {v : List Nat} (h : Rgs v) : Exact (fun i => v.getD i 0) v.length (many v) :=
  ⟨List.range (many v), List.nodup_range, List.length_range, fun x => by rw [List.mem_range, ← h.vals, mem_getD]⟩
def dist (f : Nat → Nat) : Nat → List Nat
  | 0 => []
  | i + 1 => if f i ∈ dist f i then dist f i else dist f i ++ [f i]
theorem mem_dist (f : Nat → Nat) : ∀ n x, x ∈ dist f n ↔ ∃ i, i < n ∧ f i = x
  | 0, x => by simp [dist]
  | n + 1, x => by
    have ih := mem_dist f n
    unfold dist
    split
    · rename_i h
      rw [ih]
      constructor
      · rintro ⟨i, hi, e⟩; exact ⟨i, by omega, e⟩
      · rintro ⟨i, hi, e⟩
        by_cases hin : i = n
        · subst hin; rw [← e]; exact (ih _).1 h
        · exact ⟨i, by omega, e⟩
    · rw [List.mem_append, ih, List.mem_singleton]
      constructor
      · rintro (⟨i, hi, e⟩ | rfl)
        · exact ⟨i, by omega, e⟩
        · exact ⟨n, by omega, rfl⟩
      · rintro ⟨i, hi, e⟩
        by_cases hin : i = n
        · subst hin; exact .inr e.symm
        · exact .inl ⟨i, by omega, e⟩
theorem nodup_dist (f : Nat → Nat) : ∀ n, (dist f n).Nodup
  | 0 => .nil
  | n + 1 => by
    unfold dist
    split
    · exact nodup_dist f n
    · rename_i h
      exact List.pairwise_append.2 ⟨nodup_dist f n, List.pairwise_singleton _ _, fun a ha b hb => by
        rw [List.mem_singleton] at hb; subst hb
        exact fun hc => h (hc ▸ ha)⟩
theorem dist_exact (f : Nat → Nat) (n : Nat) : Exact f n (dist f n).length := ⟨_, nodup_dist f n, rfl, mem_dist f n⟩
def canon (f : Nat → Nat) : Nat → List Nat
  | 0 => []
  | i + 1 => canon f i ++ [(dist f i).idxOf (f i)]
theorem canon_len (f : Nat → Nat) : ∀ n, (canon f n).length = n
  | 0 => rfl
  | n + 1 => by rw [canon, List.length_append, canon_len f n]; rfl
theorem canon_many (f : Nat → Nat) : ∀ n, many (canon f n) = (dist f n).length
  | 0 => rfl
  | n + 1 => by
    rw [canon, many_snoc, canon_many f n, dist]
    split
    · rename_i h
      have := List.idxOf_lt_length_iff.2 h
      omega
    · rename_i h
      rw [List.idxOf_eq_length h, List.length_append, List.length_singleton]
      omega
theorem canon_rgs (f : Nat → Nat) : ∀ n, Rgs (canon f n)
  | 0 => .nil
  | n + 1 => .snoc (canon_rgs f n) (by rw [canon_many]; exact List.idxOf_le_length)
theorem dist_idx (f : Nat → Nat) {n x : Nat} (h : x ∈ dist f n) : ∀ d, (dist f (n + d)).idxOf x = (dist f n).idxOf x ∧ x ∈ dist f (n + d)
  | 0 => ⟨rfl, h⟩
  | d + 1 => by
    obtain ⟨h1, h2⟩ := dist_idx f h d
    show (dist f (n + d + 1)).idxOf x = _ ∧ x ∈ dist f (n + d + 1)
    rw [dist]
    split
    · exact ⟨h1, h2⟩
    · exact ⟨by rw [List.idxOf_append, if_pos h2, h1], List.mem_append.2 (.inl h2)⟩
theorem getD_app_l {α : Type} {l l' : List α} {d : α} {k : Nat} (h : k < l.length) : (l ++ l').getD k d = l.getD k d := by
  simp [List.getD_eq_getElem?_getD, List.getElem?_append_left h]
theorem getD_app_r {α : Type} {l l' : List α} {d : α} {k : Nat} (h : l.length ≤ k) : (l ++ l').getD k d = l'.getD (k - l.length) d := by
  simp [List.getD_eq_getElem?_getD, List.getElem?_append_right h]
theorem canon_get (f : Nat → Nat) : ∀ n k, k < n → (canon f n).getD k 0 = (dist f n).idxOf (f k)
  | 0, k, h => by omega
  | n + 1, k, h => by
    rw [canon]
    by_cases hk : k < n
    · have h2 := canon_get f n k hk
      have hm : f k ∈ dist f n := (mem_dist f n _).2 ⟨k, hk, rfl⟩
      rw [getD_app_l (by rw [canon_len]; exact hk), h2, (dist_idx f hm 1).1]
    · have : k = n := by omega
      subst this
      rw [getD_app_r (by rw [canon_len]; exact Nat.le_refl _), canon_len, Nat.sub_self]
      show (dist f k).idxOf (f k) = _
      rw [dist]
      split
      · rfl
      · rename_i h
        rw [List.idxOf_append, if_neg h, List.idxOf_eq_length h]
        simp
theorem idxOf_inj {l : List Nat} {a b : Nat} (ha : a ∈ l) (hb : b ∈ l) (h : l.idxOf a = l.idxOf b) : a = b := by
  have h1 := List.idxOf_lt_length_iff.2 ha
  have h2 := List.idxOf_lt_length_iff.2 hb
  rw [← List.getElem_idxOf h1, ← List.getElem_idxOf h2]
  simp only [h]
theorem canon_same (f : Nat → Nat) {n i k : Nat} (hi : i < n) (hk : k < n) : (canon f n).getD i 0 = (canon f n).getD k 0 ↔ f i = f k := by
  rw [canon_get f n i hi, canon_get f n k hk]
  constructor
  · exact idxOf_inj ((mem_dist f n _).2 ⟨i, hi, rfl⟩) ((mem_dist f n _).2 ⟨k, hk, rfl⟩)
  · intro h; rw [h]
theorem canon_of_exact {f : Nat → Nat} {n m : Nat} (h : Exact f n m) : many (canon f n) = m := by
  rw [canon_many]; exact (dist_exact f n).uniq h
abbrev fn (v : List Nat) (i : Nat) : Nat := v.getD i 0
structure Allow (c : Census) (f : Nat → Nat) : Prop where
  fits : ∀ i k, i < c.entries.length → k < c.entries.length → i ≠ k → f i = f k → (c.entry i).fits (c.entry k) = true
  same : ∀ p ∈ c.same, f p.fst.toNat = f p.snd.toNat
  apart : ∀ p ∈ c.apart, f p.fst.toNat ≠ f p.snd.toNat
theorem Efits_comm (e o : Entry) : e.fits o = o.fits e := by
  unfold Entry.fits
  rw [Int.max_comm e.ages.lo, Int.min_comm e.ages.hi]
  have h1 : (e.sched != o.sched) = (o.sched != e.sched) := by rw [bne_comm]
  have h2 : (e.sex == o.sex) = (o.sex == e.sex) := by rw [Bool.beq_comm]
  have h3 : (e.key == o.key) = (o.key == e.key) := by rw [Bool.beq_comm]
  rw [h1, h2, h3]
structure PairsOk (c : Census) : Prop where
  ns : ∀ p ∈ c.same, p.fst.toNat < c.entries.length ∧ p.snd.toNat < c.entries.length
  na : ∀ p ∈ c.apart, p.fst.toNat < c.entries.length ∧ p.snd.toNat < c.entries.length
theorem Allow.congr {c : Census} (hc : PairsOk c) {f g : Nat → Nat} (hp : ∀ i k, i < c.entries.length → k < c.entries.length → (f i = f k ↔ g i = g k)) (h : Allow c f) : Allow c g where
  fits i k hi hk hik he := h.fits i k hi hk hik ((hp i k hi hk).2 he)
  same p hp' := (hp _ _ (hc.ns p hp').1 (hc.ns p hp').2).1 (h.same p hp')
  apart p hp' := fun hg => h.apart p hp' ((hp _ _ (hc.na p hp').1 (hc.na p hp').2).2 hg)
def Sem (c : Census) (m : Nat) : Prop := ∃ f, Allow c f ∧ Exact f c.entries.length m
theorem Sem.rgs {c : Census} (hc : PairsOk c) {m : Nat} : Sem c m ↔ ∃ v, v.length = c.entries.length ∧ Rgs v ∧ Allow c (fn v) ∧ many v = m := by
  constructor
  · rintro ⟨f, h1, h2⟩
    exact ⟨canon f c.entries.length, canon_len _ _, canon_rgs _ _, h1.congr hc fun i k hi hk => (canon_same f hi hk).symm, canon_of_exact h2⟩
  · rintro ⟨v, h1, h2, h3, rfl⟩
    exact ⟨fn v, h3, h1 ▸ h2.exact⟩
end Go.Proofs.YtcnkbdfkjhlbiaaDoor
namespace Go.Proofs.YtcnkbdfkjhlbiaaDoor
set_option maxRecDepth 8000
structure BlkSem (n : Nat) (E : List Pair) (bs : List Nat) : Prop where
  ok : BlkOk n bs
  dis : ∀ i k j, i < bs.length → k < bs.length → (bs.getD i 0).testBit j = true → (bs.getD k 0).testBit j = true → i = k
  nz : ∀ i, i < bs.length → bs.getD i 0 ≠ 0
  same : ∀ p ∈ E, ∀ i, i < bs.length → (bs.getD i 0).testBit p.fst.toNat = (bs.getD i 0).testBit p.snd.toNat
  conn : ∀ f : Nat → Nat, (∀ p ∈ E, f p.fst.toNat = f p.snd.toNat) → ∀ i a b, i < bs.length → (bs.getD i 0).testBit a = true → (bs.getD i 0).testBit b = true → f a = f b
theorem blocks0_get {n i : Nat} (h : i < n) : (blocks0 n).getD i 0 = 2 ^ i := by
  simp [blocks0, List.getD_eq_getElem?_getD, h]
theorem blocks0_sem (n : Nat) : BlkSem n [] (blocks0 n) where
  ok := blocks0_ok n
  dis i k j hi hk h1 h2 := by
    rw [blocks0_len] at hi hk
    rw [blocks0_get hi, Nat.testBit_two_pow, decide_eq_true_eq] at h1
    rw [blocks0_get hk, Nat.testBit_two_pow, decide_eq_true_eq] at h2
    omega
  nz i hi := by
    rw [blocks0_len] at hi
    rw [blocks0_get hi]; exact Nat.ne_of_gt (Nat.two_pow_pos i)
  same p hp := by cases hp
  conn f _ i a b hi h1 h2 := by
    rw [blocks0_len] at hi
    rw [blocks0_get hi, Nat.testBit_two_pow, decide_eq_true_eq] at h1 h2
    rw [← h1, ← h2]
theorem erase_get {l : List Nat} {j k : Nat} (hk : k < (l.eraseIdx j).length) : (l.eraseIdx j).getD k 0 = l.getD (if k < j then k else k + 1) 0 := by
  simp only [List.getD_eq_getElem?_getD, List.getElem?_eraseIdx]
  split <;> rfl
theorem set_get {l : List Nat} {i k v : Nat} (hi : i < l.length) : (l.set i v).getD k 0 = if k = i then v else l.getD k 0 := by
  simp only [List.getD_eq_getElem?_getD, List.getElem?_set]
  by_cases h : i = k
  · subst h; simp [hi]
  · rw [if_neg h, if_neg (fun hc => h hc.symm)]
theorem joinB_sem {n : Nat} {E : List Pair} {bs : List Nat} (h : BlkSem n E bs) {p : Pair} (h1 : p.fst.toNat < n) (h2 : p.snd.toNat < n) : BlkSem n (E ++ [p]) (joinB bs p) := by
  have hok := joinB_ok h.ok h1 h2
  obtain ⟨i, hi, hil, hit⟩ := idx_cov (h.ok.cov _ h1)
  obtain ⟨j, hj, hjl, hjt⟩ := idx_cov (h.ok.cov _ h2)
  unfold joinB at hok ⊢
  simp only [← hi, ← hj, Int.toNat_natCast] at hok ⊢
  by_cases hij : (i : Int) = j
  · rw [if_pos hij] at hok ⊢
    have hij' : i = j := by omega
    subst hij'
    refine ⟨hok, h.dis, h.nz, fun q hq k hk => ?_, fun f hf k a b hk ha hb => h.conn f (fun q hq => hf q (List.mem_append.2 (.inl hq))) k a b hk ha hb⟩
    rcases List.mem_append.1 hq with hq | hq
    · exact h.same q hq k hk
    · rw [List.mem_singleton] at hq; subst hq
      by_cases hki : k = i
      · subst hki; rw [hit, hjt]
      · have e1 : (bs.getD k 0).testBit q.fst.toNat = false := by
          cases hc : (bs.getD k 0).testBit q.fst.toNat
          · rfl
          · exact absurd (h.dis k i _ hk hil hc hit) hki
        have e2 : (bs.getD k 0).testBit q.snd.toNat = false := by
          cases hc : (bs.getD k 0).testBit q.snd.toNat
          · rfl
          · exact absurd (h.dis k i _ hk hil hc hjt) hki
        rw [e1, e2]
  · rw [if_neg hij] at hok ⊢
    have hne : i ≠ j := by omega
    have hlen : ((bs.set i (bs.getD i 0 ||| bs.getD j 0)).eraseIdx j).length = bs.length - 1 := by
      rw [List.length_eraseIdx_of_lt (by simpa using hjl), List.length_set]
    have hget : ∀ k, k < bs.length - 1 → ∃ m, m < bs.length ∧ m ≠ j ∧ m = (if k < j then k else k + 1) ∧
        ((bs.set i (bs.getD i 0 ||| bs.getD j 0)).eraseIdx j).getD k 0 = if m = i then (bs.getD i 0 ||| bs.getD j 0) else bs.getD m 0 := by
      intro k hk
      refine ⟨if k < j then k else k + 1, by split <;> omega, by split <;> omega, rfl, ?_⟩
      rw [erase_get (by rw [hlen]; exact hk), set_get hil]
    refine ⟨hok, fun a b x ha hb h3 h4 => ?_, fun a ha => ?_, fun q hq a ha => ?_, fun f hf a x y ha hx hy => ?_⟩
    · rw [hlen] at ha hb
      obtain ⟨m, hm, hmj, hme, hm2⟩ := hget a ha
      obtain ⟨m', hm', hmj', hme', hm2'⟩ := hget b hb
      rw [hm2] at h3; rw [hm2'] at h4
      have : m = m' := by
        by_cases e1 : m = i <;> by_cases e2 : m' = i
        · omega
        · rw [if_pos e1, Nat.testBit_or, Bool.or_eq_true] at h3
          rw [if_neg e2] at h4
          rcases h3 with h3 | h3
          · exact absurd (h.dis i m' x hil hm' h3 h4).symm e2
          · exact absurd (h.dis j m' x hjl hm' h3 h4).symm hmj'
        · rw [if_pos e2, Nat.testBit_or, Bool.or_eq_true] at h4
          rw [if_neg e1] at h3
          rcases h4 with h4 | h4
          · exact absurd (h.dis i m x hil hm h4 h3).symm e1
          · exact absurd (h.dis j m x hjl hm h4 h3).symm hmj
        · rw [if_neg e1] at h3; rw [if_neg e2] at h4
          exact h.dis m m' x hm hm' h3 h4
      rw [hme, hme'] at this
      split at this <;> split at this <;> omega
    · rw [hlen] at ha
      obtain ⟨m, hm, hmj, hme, hm2⟩ := hget a ha
      rw [hm2]
      split
      · intro hc
        obtain ⟨x, hx⟩ := nz_bit (h.nz i hil)
        have := congrArg (·.testBit x) hc
        simp only [Nat.testBit_or, hx, Bool.true_or, Nat.zero_testBit] at this
        cases this
      · exact h.nz m hm
    · rw [hlen] at ha
      obtain ⟨m, hm, hmj, hme, hm2⟩ := hget a ha
      rw [hm2]
      rcases List.mem_append.1 hq with hq | hq
      · split
        · rw [Nat.testBit_or, Nat.testBit_or, h.same q hq i hil, h.same q hq j hjl]
        · exact h.same q hq m hm
      · rw [List.mem_singleton] at hq; subst hq
        split
        · rw [Nat.testBit_or, Nat.testBit_or, hit, hjt]; simp
        · rename_i hmi
          have e1 : (bs.getD m 0).testBit q.fst.toNat = false := by
            cases hc : (bs.getD m 0).testBit q.fst.toNat
            · rfl
            · exact absurd (h.dis m i _ hm hil hc hit) hmi
          have e2 : (bs.getD m 0).testBit q.snd.toNat = false := by
            cases hc : (bs.getD m 0).testBit q.snd.toNat
            · rfl
            · exact absurd (h.dis m j _ hm hjl hc hjt) hmj
          rw [e1, e2]
    · rw [hlen] at ha
      obtain ⟨m, hm, hmj, hme, hm2⟩ := hget a ha
      rw [hm2] at hx hy
      have hf' : ∀ q ∈ E, f q.fst.toNat = f q.snd.toNat := fun q hq => hf q (List.mem_append.2 (.inl hq))
      have hfp : f p.fst.toNat = f p.snd.toNat := hf p (List.mem_append.2 (.inr (List.mem_singleton.2 rfl)))
      split at hx
      · rename_i hmi
        rw [if_pos hmi] at hy
        have key : ∀ x, (bs.getD i 0 ||| bs.getD j 0).testBit x = true → f x = f p.fst.toNat := fun x hx => by
          rw [Nat.testBit_or, Bool.or_eq_true] at hx
          rcases hx with hx | hx
          · exact h.conn f hf' i x _ hil hx hit
          · rw [hfp]; exact h.conn f hf' j x _ hjl hx hjt
        rw [key x hx, key y hy]
      · rename_i hmi
        rw [if_neg hmi] at hy
        exact h.conn f hf' m x y hm hx hy
theorem foldJ_sem {n : Nat} : ∀ (l E : List Pair) (bs : List Nat), BlkSem n E bs → (∀ p ∈ l, p.fst.toNat < n ∧ p.snd.toNat < n) → BlkSem n (E ++ l) (l.foldl joinB bs)
  | [], E, bs, h, _ => by rw [List.append_nil]; exact h
  | p :: l, E, bs, h, hp => by
    have := foldJ_sem l (E ++ [p]) (joinB bs p) (joinB_sem h (hp p List.mem_cons_self).1 (hp p List.mem_cons_self).2) fun q hq => hp q (List.mem_cons_of_mem _ hq)
    rw [List.append_assoc] at this
    exact this
theorem blocksOf_sem {c : Census} (hc : PairsOk c) : BlkSem c.entries.length c.same (blocksOf c) := by
  have := foldJ_sem c.same [] _ (blocks0_sem c.entries.length) hc.ns
  exact this
def blk (bs : List Nat) (e : Nat) : Nat := (idxOf (fun (x : Nat) => x.testBit e) bs).toNat
theorem BlkSem.at {n : Nat} {E : List Pair} {bs : List Nat} (h : BlkSem n E bs) {e : Nat} (he : e < n) : blk bs e < bs.length ∧ (bs.getD (blk bs e) 0).testBit e = true := by
  obtain ⟨i, hi, hil, hit⟩ := idx_cov (h.ok.cov _ he)
  have : blk bs e = i := by unfold blk; rw [← hi]; rfl
  rw [this]; exact ⟨hil, hit⟩
theorem BlkSem.eq {n : Nat} {E : List Pair} {bs : List Nat} (h : BlkSem n E bs) {e i : Nat} (he : e < n) (hi : i < bs.length) (ht : (bs.getD i 0).testBit e = true) : blk bs e = i :=
  h.dis _ _ e (h.at he).1 hi (h.at he).2 ht
theorem BlkSem.lt {n : Nat} {E : List Pair} {bs : List Nat} (h : BlkSem n E bs) {e i : Nat} (hi : i < bs.length) (ht : (bs.getD i 0).testBit e = true) : e < n :=
  testBit_lt ht (h.ok.lt _ (getD_mem hi))
theorem unionB_test {bs : List Nat} {e : Nat} : ∀ (l : List Nat) (a : Nat), (l.foldl (fun a n => a ||| bs.getD n 0) a).testBit e = true ↔ a.testBit e = true ∨ ∃ i ∈ l, (bs.getD i 0).testBit e = true
  | [], a => by simp
  | x :: l, a => by
    rw [List.foldl_cons, unionB_test l, Nat.testBit_or, Bool.or_eq_true]
    constructor
    · rintro ((h | h) | ⟨i, hi, h⟩)
      · exact .inl h
      · exact .inr ⟨x, List.mem_cons_self, h⟩
      · exact .inr ⟨i, List.mem_cons_of_mem _ hi, h⟩
    · rintro (h | ⟨i, hi, h⟩)
      · exact .inl (.inl h)
      · rcases List.mem_cons.1 hi with rfl | hi
        · exact .inl (.inr h)
        · exact .inr ⟨i, hi, h⟩
theorem getD_out {l : List Nat} {i : Nat} (h : l.length ≤ i) : l.getD i 0 = 0 := by simp [List.getD_eq_getElem?_getD, h]
theorem union_test {n : Nat} {E : List Pair} {bs : List Nat} (h : BlkSem n E bs) (hn : n ≤ 10) {g e : Nat} : (unionB bs (elems g)).testBit e = true ↔ e < n ∧ g.testBit (blk bs e) = true := by
  unfold unionB
  rw [unionB_test]
  constructor
  · rintro (h1 | ⟨i, hi, hit⟩)
    · simp at h1
    · have hil : i < bs.length := by
        by_cases hc : i < bs.length
        · exact hc
        · rw [getD_out (by omega)] at hit; simp at hit
      have he := h.lt hil hit
      rw [h.eq he hil hit]
      exact ⟨he, (mem_elems.1 hi).2⟩
  · rintro ⟨he, hg⟩
    have := h.at he
    have := h.ok.len
    exact .inr ⟨blk bs e, mem_elems.2 ⟨by omega, hg⟩, (h.at he).2⟩
theorem el_sorted : ∀ (f i s : Nat), (el f i s).Pairwise (· < ·)
  | 0, _, _ => .nil
  | f + 1, i, s => by
    unfold el
    split
    · exact .nil
    · split
      · exact List.pairwise_cons.2 ⟨fun x hx => by have := (mem_el _ _ _ _).1 hx; omega, el_sorted f _ _⟩
      · exact el_sorted f _ _
theorem elems_sorted (s : Nat) : (elems s).Pairwise (· < ·) := el_sorted _ _ _
theorem fitsSet_iff {c : Census} (hc : PairsOk c) (hn : c.entries.length ≤ 10) {s : Nat} (hs : s < 2 ^ c.entries.length) : c.fitsSet s = true ↔
    (∀ i k, s.testBit i = true → s.testBit k = true → i ≠ k → (c.entry i).fits (c.entry k) = true) ∧ ∀ p ∈ c.apart, ¬ (s.testBit p.fst.toNat = true ∧ s.testBit p.snd.toNat = true) := by
  have hmem : ∀ i, s.testBit i = true ↔ i ∈ elems s := fun i => by
    rw [mem_elems]
    exact ⟨fun h => ⟨by have := testBit_lt h hs; omega, h⟩, fun h => h.2⟩
  unfold Census.fitsSet
  rw [Bool.and_eq_true]
  refine and_congr ?_ ?_
  · unfold Census.fitsAll
    rw [List.all_eq_true]
    have hso := elems_sorted s
    rw [List.pairwise_iff_getElem] at hso
    constructor
    · intro h
      have key : ∀ a b, a < b → s.testBit a = true → s.testBit b = true → (c.entry b).fits (c.entry a) = true := by
        intro a b hab ha hb
        obtain ⟨x, hx, hxa⟩ := List.getElem_of_mem ((hmem a).1 ha)
        obtain ⟨y, hy, hyb⟩ := List.getElem_of_mem ((hmem b).1 hb)
        have hxy : x < y := by
          rcases Nat.lt_trichotomy x y with h1 | h1 | h1
          · exact h1
          · subst h1; omega
          · have := hso y x hy hx h1; omega
        have h2 := List.all_eq_true.1 (h y (List.mem_range.2 hy)) a (by
          rw [List.mem_take_iff_getElem]
          exact ⟨x, by omega, hxa⟩)
        rw [List.getD_eq_getElem?_getD, List.getElem?_eq_getElem hy, Option.getD_some, hyb] at h2
        exact h2
      intro i k hi hk hik
      rcases Nat.lt_or_gt_of_ne hik with h1 | h1
      · rw [Efits_comm]; exact key i k h1 hi hk
      · exact key k i h1 hk hi
    · intro h y hy
      rw [List.mem_range] at hy
      rw [List.all_eq_true]
      intro b hb
      rw [List.mem_take_iff_getElem] at hb
      obtain ⟨x, hx, rfl⟩ := hb
      rw [List.getD_eq_getElem?_getD, List.getElem?_eq_getElem hy, Option.getD_some]
      have := hso x y (by omega) hy (by omega)
      exact h _ _ ((hmem _).2 (List.getElem_mem _)) ((hmem _).2 (List.getElem_mem _)) (by omega)
  · rw [List.all_eq_true]
    refine forall_congr' fun p => forall_congr' fun _ => ?_
    cases s.testBit p.fst.toNat <;> cases s.testBit p.snd.toNat <;> simp
end Go.Proofs.YtcnkbdfkjhlbiaaDoor
namespace Go.Proofs.YtcnkbdfkjhlbiaaDoor
set_option maxRecDepth 8000
theorem and_half (a b : Nat) : (a &&& b) / 2 = a / 2 &&& b / 2 := by
  apply Nat.eq_of_testBit_eq; intro i
  rw [← Nat.testBit_succ, Nat.testBit_and, Nat.testBit_and, Nat.testBit_succ, Nat.testBit_succ]
theorem and_odd (a b : Nat) : (a &&& b) % 2 = if a % 2 = 1 ∧ b % 2 = 1 then 1 else 0 := by
  have h := Nat.testBit_and a b 0
  simp only [Nat.testBit_zero] at h
  by_cases h1 : a % 2 = 1 <;> by_cases h2 : b % 2 = 1 <;> simp only [h1, h2, decide_true, decide_false, Bool.and_true, Bool.and_false, decide_eq_true_eq, decide_eq_false_iff_not, and_self, and_true, and_false, if_true, if_false] at h ⊢ <;> omega
theorem sub_step (rest : Nat) : ∀ (sub x : Nat), rest &&& sub = sub → rest &&& x = x → x < sub → x ≤ (sub - 1) &&& rest := by
  induction rest using Nat.strongRecOn with
  | _ rest ih =>
    intro sub x h1 h2 hlt
    have hr0 : rest ≠ 0 := fun hc => by subst hc; simp at h1; omega
    have a1 := and_half rest sub
    have a2 := and_half rest x
    have b1 := and_odd rest sub
    have b2 := and_odd rest x
    rw [h1] at a1 b1; rw [h2] at a2 b2
    have c1 := and_half (sub - 1) rest
    have d1 := and_odd (sub - 1) rest
    by_cases hs : sub % 2 = 1
    · have e : (sub - 1) / 2 = sub / 2 := by omega
      rw [e, Nat.and_comm (sub / 2), ← a1] at c1
      omega
    · have e : (sub - 1) / 2 = sub / 2 - 1 := by omega
      have hih := ih (rest / 2) (by omega) (sub / 2) (x / 2) a1.symm a2.symm (by omega)
      rw [e] at c1
      have e2 : (sub - 1) % 2 = 1 := by omega
      rw [e2] at d1
      split at b2 <;> split at d1 <;> omega
theorem mem_subs {rest : Nat} : ∀ (f sub : Nat), sub < f → rest &&& sub = sub → ∀ x, x ∈ subsFrom f sub rest ↔ rest &&& x = x ∧ x ≤ sub
  | 0, _, h, _, _ => by omega
  | f + 1, sub, h, hs, x => by
    rw [subsFrom, List.mem_cons]
    by_cases h0 : sub = 0
    · subst h0
      simp only [if_true, List.not_mem_nil, or_false, Nat.le_zero]
      exact ⟨fun h => by subst h; simp, fun h => h.2⟩
    · rw [if_neg h0]
      have hle : (sub - 1) &&& rest ≤ sub - 1 := Nat.and_le_left
      have hsub : rest &&& ((sub - 1) &&& rest) = (sub - 1) &&& rest := by
        apply Nat.eq_of_testBit_eq; intro i
        simp only [Nat.testBit_and]
        cases rest.testBit i <;> simp
      rw [mem_subs f _ (by omega) hsub x]
      constructor
      · rintro (rfl | ⟨a, b⟩)
        · exact ⟨hs, Nat.le_refl _⟩
        · exact ⟨a, by omega⟩
      · rintro ⟨a, b⟩
        by_cases hx : x = sub
        · exact .inl hx
        · exact .inr ⟨a, sub_step rest sub x hs a (by omega)⟩
theorem mem_groups {one : List Bool} {s : Nat} (hs : s < 2 ^ 10) (h0 : s ≠ 0) {g : Nat} : g ∈ groupsL one s ↔ (s &&& g = g ∧ g.testBit (low s) = true) ∧ one.getD g false = true := by
  unfold groupsL
  rw [List.mem_filter, List.mem_map]
  have hlow := low_test hs h0
  have hlb : lowb s = 2 ^ low s := if_neg h0
  have hrt : ∀ j, (restOf s).testBit j = (s.testBit j && !decide (low s = j)) := fun j => by
    unfold restOf
    rw [diff_test, hlb, Nat.testBit_two_pow]
  refine and_congr_left fun _ => ?_
  constructor
  · rintro ⟨x, hx, rfl⟩
    have hx := ((mem_subs _ _ (Nat.lt_succ_self _) (Nat.and_self _) x).1 hx).1
    rw [hlb]
    constructor
    · apply Nat.eq_of_testBit_eq; intro j
      rw [Nat.testBit_and, Nat.testBit_or, Nat.testBit_two_pow]
      by_cases hj : low s = j
      · subst hj; simp [hlow]
      · cases hxj : x.testBit j
        · simp [hj]
        · have := sub_test hx hxj
          rw [hrt, Bool.and_eq_true] at this
          simp [this.1]
    · rw [Nat.testBit_or, Nat.testBit_two_pow]; simp
  · rintro ⟨h1, h2⟩
    refine ⟨g ^^^ (g &&& 2 ^ low s), (mem_subs _ _ (Nat.lt_succ_self _) (Nat.and_self _) _).2 ⟨?_, ?_⟩, ?_⟩
    · apply Nat.eq_of_testBit_eq; intro j
      rw [Nat.testBit_and, hrt, diff_test, Nat.testBit_two_pow]
      cases hg : g.testBit j
      · simp
      · rw [sub_test h1 hg]; cases decide (low s = j) <;> rfl
    · have : g ^^^ (g &&& 2 ^ low s) = (restOf s) &&& (g ^^^ (g &&& 2 ^ low s)) := by
        apply Nat.eq_of_testBit_eq; intro j
        rw [Nat.testBit_and, hrt, diff_test, Nat.testBit_two_pow]
        cases hg : g.testBit j
        · simp
        · rw [sub_test h1 hg]; cases decide (low s = j) <;> rfl
      rw [this]; exact Nat.and_le_left
    · rw [hlb]
      apply Nat.eq_of_testBit_eq; intro j
      rw [Nat.testBit_or, diff_test, Nat.testBit_two_pow]
      by_cases hj : low s = j
      · subst hj; simp [h2]
      · simp [hj]
theorem setI_get {l : List Int} {i k : Nat} {v : Int} : (l.set i v).getD k 0 = if k = i ∧ i < l.length then v else l.getD k 0 := by
  simp only [List.getD_eq_getElem?_getD, List.getElem?_set]
  by_cases h : i = k
  · subst h
    by_cases hl : i < l.length
    · simp [hl]
    · simp [hl]
  · rw [if_neg h, if_neg (fun hc => h hc.1.symm)]
theorem setB_get {l : List Bool} {i k : Nat} {v : Bool} (hi : i < l.length) : (l.set i v).getD k false = if k = i then v else l.getD k false := by
  simp only [List.getD_eq_getElem?_getD, List.getElem?_set]
  by_cases h : i = k
  · subst h; simp [hi]
  · rw [if_neg h, if_neg (fun hc => h hc.symm)]
theorem minG_ne {s k : Nat} (hk : k ≠ s) : ∀ (gs : List Nat) (l : List Int), (minG l s gs).getD k 0 = l.getD k 0
  | [], _ => rfl
  | g :: gs, l => by
    show (minG _ s gs).getD k 0 = _
    rw [minG_ne hk gs, setI_get, if_neg (fun hc => hk hc.1)]
theorem minG_at {s : Nat} : ∀ (gs : List Nat) (l : List Int), s < l.length → (∀ g ∈ gs, s ^^^ (s &&& g) ≠ s) → (∀ k, k ≠ s → 0 ≤ l.getD k 0 ∧ l.getD k 0 ≤ 1024) →
    (minG l s gs).getD s 0 ≤ l.getD s 0 ∧ (∀ g ∈ gs, (minG l s gs).getD s 0 ≤ 1 + l.getD (s ^^^ (s &&& g)) 0) ∧ ((minG l s gs).getD s 0 = l.getD s 0 ∨ ∃ g ∈ gs, (minG l s gs).getD s 0 = 1 + l.getD (s ^^^ (s &&& g)) 0)
  | [], l, _, _, _ => ⟨Int.le_refl _, fun g hg => (by cases hg), .inl rfl⟩
  | g :: gs, l, hs, hg, hb => by
    have hgs := hg g List.mem_cons_self
    have hv := hb _ hgs
    have hw : wr64 (1 + l.getD (s ^^^ (s &&& g)) 0) = 1 + l.getD (s ^^^ (s &&& g)) 0 := wr_id (by omega) (by omega)
    have e : minG l s (g :: gs) = minG (l.set s (min (l.getD s 0) (1 + l.getD (s ^^^ (s &&& g)) 0))) s gs := by
      rw [← hw]; rfl
    have hk : ∀ k, k ≠ s → (l.set s (min (l.getD s 0) (1 + l.getD (s ^^^ (s &&& g)) 0))).getD k 0 = l.getD k 0 := fun k hk => by
      rw [setI_get, if_neg (fun hc => hk hc.1)]
    obtain ⟨h1, h2, h3⟩ := minG_at gs (l.set s (min (l.getD s 0) (1 + l.getD (s ^^^ (s &&& g)) 0))) (by rw [List.length_set]; exact hs) (fun x hx => hg x (List.mem_cons_of_mem _ hx))
      (fun k hk' => by rw [hk k hk']; exact hb k hk')
    rw [e]
    rw [setI_get, if_pos ⟨rfl, hs⟩] at h1 h3
    refine ⟨by omega, fun x hx => ?_, ?_⟩
    · rcases List.mem_cons.1 hx with rfl | hx
      · omega
      · have := h2 x hx
        rw [hk _ (hg x (List.mem_cons_of_mem _ hx))] at this
        exact this
    · rcases h3 with h3 | ⟨x, hx, h3⟩
      · by_cases hc : l.getD s 0 ≤ 1 + l.getD (s ^^^ (s &&& g)) 0
        · exact .inl (by omega)
        · exact .inr ⟨g, List.mem_cons_self, by omega⟩
      · rw [hk _ (hg x (List.mem_cons_of_mem _ hx))] at h3
        exact .inr ⟨x, List.mem_cons_of_mem _ hx, h3⟩
def oneP (c : Census) (g : Nat) : Bool := c.fitsSet (unionB (blocksOf c) (elems g))
structure TabOk (one : Nat → Bool) (k : Nat) (T : List Bool × List Int) : Prop where
  l1 : T.1.length = 1024
  l2 : T.2.length = 1024
  o : ∀ s, s < k → T.1.getD s false = one s
  z : 0 < k → T.2.getD 0 0 = 0
  b : ∀ s, 0 ≤ T.2.getD s 0 ∧ T.2.getD s 0 ≤ 1024
  le : ∀ s g, s < k → s ≠ 0 → s &&& g = g → g.testBit (low s) = true → one g = true → T.2.getD s 0 ≤ 1 + T.2.getD (s ^^^ (s &&& g)) 0
  ex : ∀ s, s < k → s ≠ 0 → T.2.getD s 0 < 1024 → ∃ g, s &&& g = g ∧ g.testBit (low s) = true ∧ one g = true ∧ T.2.getD s 0 = 1 + T.2.getD (s ^^^ (s &&& g)) 0
theorem least0_get (l : List Int) (s k : Nat) (hs : s < l.length) : (least0 l s).getD k 0 = if k = s then (if s = 0 then 0 else 1024) else l.getD k 0 := by
  unfold least0
  by_cases h : s = 0
  · subst h
    rw [if_pos rfl, setI_get, setI_get]
    simp only [List.length_set, hs, and_true, if_true]
    by_cases hk : k = 0 <;> simp [hk]
  · rw [if_neg h, setI_get, if_neg h]
    simp only [hs, and_true]
theorem least0_len (l : List Int) (s : Nat) : (least0 l s).length = l.length := by unfold least0; split <;> simp
theorem TabOk.step {c : Census} {k : Nat} (hk : k < 1024) {T : List Bool × List Int} (h : TabOk (oneP c) k T) : TabOk (oneP c) (k + 1) (stepT c (blocksOf c) T k) := by
  have e1 : (stepT c (blocksOf c) T k).1 = T.1.set k (oneP c k) := rfl
  have e2 : (stepT c (blocksOf c) T k).2 = minG (least0 T.2 k) k (groupsL (T.1.set k (oneP c k)) k) := rfl
  have ho : ∀ s, s < k + 1 → (T.1.set k (oneP c k)).getD s false = oneP c s := fun s hs => by
    rw [setB_get (by rw [h.l1]; exact hk)]
    by_cases hsk : s = k
    · rw [if_pos hsk, hsk]
    · rw [if_neg hsk]; exact h.o s (by omega)
  have hn : ∀ s, s ≠ k → (stepT c (blocksOf c) T k).2.getD s 0 = T.2.getD s 0 := fun s hs => by
    rw [e2, minG_ne hs, least0_get _ _ _ (by rw [h.l2]; exact hk), if_neg hs]
  have hlk := least0_get T.2 k k (by rw [h.l2]; exact hk)
  rw [if_pos rfl] at hlk
  have hb0 : ∀ j, j ≠ k → 0 ≤ (least0 T.2 k).getD j 0 ∧ (least0 T.2 k).getD j 0 ≤ 1024 := fun j hj => by
    rw [least0_get _ _ _ (by rw [h.l2]; exact hk), if_neg hj]; exact h.b j
  by_cases h0 : k = 0
  · subst h0
    have hz : (stepT c (blocksOf c) T 0).2.getD 0 0 = 0 := by
      rw [e2]
      have key : ∀ (gs : List Nat) (l : List Int), 0 < l.length → l.getD 0 0 = 0 → (minG l 0 gs).getD 0 0 = 0 := by
        intro gs
        induction gs with
        | nil => intro l _ h; exact h
        | cons g gs ih =>
          intro l hl h
          show (minG _ 0 gs).getD 0 0 = 0
          refine ih _ (by rw [List.length_set]; exact hl) ?_
          rw [setI_get, if_pos ⟨rfl, hl⟩]
          have : (0 ^^^ (0 &&& g)) = 0 := by simp
          rw [this, h]
          have : wr64 (1 + 0) = 1 := wr_id (by omega) (by omega)
          rw [this]; omega
      exact key _ _ (by rw [least0_len, h.l2]; omega) hlk
    refine ⟨by rw [e1, List.length_set, h.l1], by rw [e2, minG_len, least0_len, h.l2], ho, fun _ => hz, fun s => ?_, fun s g hs hs0 => by omega, fun s hs hs0 => by omega⟩
    by_cases hs : s = 0
    · subst hs; rw [hz]; omega
    · rw [hn s hs]; exact h.b s
  · have hk10 : k < 2 ^ 10 := hk
    have hgne : ∀ g ∈ groupsL (T.1.set k (oneP c k)) k, k ^^^ (k &&& g) ≠ k := fun g hg => by
      have := ((mem_groups hk10 h0).1 hg).1
      exact Nat.ne_of_lt (diff_lt (low_test hk10 h0) this.2)
    obtain ⟨m1, m2, m3⟩ := minG_at (groupsL (T.1.set k (oneP c k)) k) (least0 T.2 k) (by rw [least0_len, h.l2]; exact hk) hgne hb0
    rw [← e2, hlk, if_neg h0] at m1 m3
    rw [← e2] at m2
    have hdn : ∀ s g, s ≤ k → s ≠ 0 → s &&& g = g → g.testBit (low s) = true → s ^^^ (s &&& g) ≠ k := fun s g hs hs0 h1 h2 => by
      have := diff_lt (low_test (Nat.lt_of_le_of_lt hs hk10) hs0) h2
      omega
    have hm : ∀ g, k &&& g = g → g.testBit (low k) = true → oneP c g = true → g ∈ groupsL (T.1.set k (oneP c k)) k := fun g h1 h2 h3 => by
      have hgk : g ≤ k := by rw [← h1]; exact Nat.and_le_left
      exact (mem_groups hk10 h0).2 ⟨⟨h1, h2⟩, by rw [ho g (by omega)]; exact h3⟩
    have hge : ∀ g ∈ groupsL (T.1.set k (oneP c k)) k, 0 ≤ (least0 T.2 k).getD (k ^^^ (k &&& g)) 0 := fun g hg => (hb0 _ (hgne g hg)).1
    refine ⟨by rw [e1, List.length_set, h.l1], by rw [e2, minG_len, least0_len, h.l2], ho, fun _ => ?_, fun s => ?_, fun s g hs hs0 h1 h2 h3 => ?_, fun s hs hs0 hl => ?_⟩
    · rw [hn 0 (fun hc => h0 hc.symm)]; exact h.z (by omega)
    · by_cases hsk : s = k
      · subst hsk
        refine ⟨?_, m1⟩
        rcases m3 with m3 | ⟨g, hg, m3⟩
        · omega
        · have := hge g hg; omega
      · rw [hn s hsk]; exact h.b s
    · rw [hn _ (hdn s g (by omega) hs0 h1 h2)]
      by_cases hsk : s = k
      · subst hsk
        have := m2 g (hm g h1 h2 h3)
        rw [least0_get _ _ _ (by rw [h.l2]; exact hk), if_neg (hdn s g (by omega) hs0 h1 h2)] at this
        exact this
      · rw [hn s hsk]; exact h.le s g (by omega) hs0 h1 h2 h3
    · by_cases hsk : s = k
      · subst hsk
        rcases m3 with m3 | ⟨g, hg, m3⟩
        · omega
        · have hgg := (mem_groups hk10 h0).1 hg
          have hgk : g ≤ s := by rw [← hgg.1.1]; exact Nat.and_le_left
          refine ⟨g, hgg.1.1, hgg.1.2, by rw [← ho g (by omega)]; exact hgg.2, ?_⟩
          have hd := hdn s g (by omega) hs0 hgg.1.1 hgg.1.2
          rw [hn _ hd, m3, least0_get _ _ _ (by rw [h.l2]; exact hk), if_neg hd]
      · rw [hn s hsk] at hl ⊢
        obtain ⟨g, g1, g2, g3, g4⟩ := h.ex s (by omega) hs0 hl
        exact ⟨g, g1, g2, g3, by rw [hn _ (hdn s g (by omega) hs0 g1 g2)]; exact g4⟩
theorem tables_ok (c : Census) : ∀ k, k ≤ 1024 → TabOk (oneP c) k (tables c (blocksOf c) k)
  | 0, _ => by
    have hl := tables_len c (blocksOf c) 0
    refine ⟨hl.1, hl.2, fun s hs => by omega, fun h => by omega, fun s => ?_, fun s g hs => by omega, fun s hs => by omega⟩
    have : (tables c (blocksOf c) 0).2.getD s 0 = 0 := by
      show (List.replicate 1024 (0 : Int)).getD s 0 = 0
      rw [List.getD_eq_getElem?_getD, List.getElem?_replicate]
      split <;> rfl
    rw [this]; omega
  | k + 1, h => by
    rw [tables_succ]
    exact (tables_ok c k (by omega)).step (by omega)
end Go.Proofs.YtcnkbdfkjhlbiaaDoor
namespace Go.Proofs.YtcnkbdfkjhlbiaaDoor
set_option maxRecDepth 8000
def mask (p : Nat → Bool) (n : Nat) : Nat := (List.range n).foldl (fun a b => if p b then a ||| 2 ^ b else a) 0
theorem mask_test (p : Nat → Bool) (j : Nat) : ∀ n, (mask p n).testBit j = (decide (j < n) && p j)
  | 0 => by simp [mask]
  | n + 1 => by
    have e : mask p (n + 1) = if p n then mask p n ||| 2 ^ n else mask p n := by simp [mask, List.range_succ]
    rw [e]
    by_cases hj : j = n
    · subst hj
      split
      · rename_i h; rw [Nat.testBit_or, Nat.testBit_two_pow]; simp [h]
      · rename_i h; rw [mask_test p j j]; simp [h]
    · split
      · rw [Nat.testBit_or, mask_test p j n, Nat.testBit_two_pow]
        have h1 : decide (n = j) = false := decide_eq_false (fun h => hj h.symm)
        have h2 : decide (j < n + 1) = decide (j < n) := by
          by_cases h : j < n
          · rw [decide_eq_true h, decide_eq_true (by omega)]
          · rw [decide_eq_false h, decide_eq_false (by omega)]
        rw [h1, h2, Bool.or_false]
      · rw [mask_test p j n]
        have h2 : decide (j < n + 1) = decide (j < n) := by
          by_cases h : j < n
          · rw [decide_eq_true h, decide_eq_true (by omega)]
          · rw [decide_eq_false h, decide_eq_false (by omega)]
        rw [h2]
section
variable {c : Census}
theorem union_lt (hc : PairsOk c) (g : Nat) : unionB (blocksOf c) (elems g) < 2 ^ c.entries.length := unionB_lt (blocksOf_sem hc).ok.lt _
theorem oneP_iff (hc : PairsOk c) (hn : c.entries.length ≤ 10) (g : Nat) : oneP c g = true ↔
    (∀ i k, i < c.entries.length → k < c.entries.length → g.testBit (blk (blocksOf c) i) = true → g.testBit (blk (blocksOf c) k) = true → i ≠ k → (c.entry i).fits (c.entry k) = true) ∧
    ∀ p ∈ c.apart, ¬ (g.testBit (blk (blocksOf c) p.fst.toNat) = true ∧ g.testBit (blk (blocksOf c) p.snd.toNat) = true) := by
  have hu : ∀ e, (unionB (blocksOf c) (elems g)).testBit e = true ↔ e < c.entries.length ∧ g.testBit (blk (blocksOf c) e) = true := fun e => union_test (blocksOf_sem hc) hn
  unfold oneP
  rw [fitsSet_iff hc hn (union_lt hc g)]
  refine and_congr ⟨fun h i k hi hk h1 h2 hik => h i k ((hu i).2 ⟨hi, h1⟩) ((hu k).2 ⟨hk, h2⟩) hik, fun h i k h1 h2 hik => h i k ((hu i).1 h1).1 ((hu k).1 h2).1 ((hu i).1 h1).2 ((hu k).1 h2).2 hik⟩
    (forall_congr' fun p => forall_congr' fun hp => ?_)
  rw [hu, hu]
  have := hc.na p hp
  constructor
  · rintro h ⟨h1, h2⟩; exact h ⟨⟨this.1, h1⟩, this.2, h2⟩
  · rintro h ⟨⟨_, h1⟩, _, h2⟩; exact h ⟨h1, h2⟩
theorem oneP_down (hc : PairsOk c) (hn : c.entries.length ≤ 10) : Down (oneP c) := fun a b hab ha => by
  rw [oneP_iff hc hn] at ha ⊢
  exact ⟨fun i k hi hk h1 h2 hik => ha.1 i k hi hk (sub_test hab h1) (sub_test hab h2) hik, fun p hp h => ha.2 p hp ⟨sub_test hab h.1, sub_test hab h.2⟩⟩
def personOf (c : Census) (gs : List Nat) (e : Nat) : Nat := gs.findIdx fun (g : Nat) => g.testBit (blk (blocksOf c) e)
theorem personOf_at (hc : PairsOk c) {gs : List Nat} (h : Parts (oneP c) (2 ^ (blocksOf c).length - 1) gs) {e : Nat} (he : e < c.entries.length) :
    personOf c gs e < gs.length ∧ (gs.getD (personOf c gs e) 0).testBit (blk (blocksOf c) e) = true := by
  have hb := (blocksOf_sem hc).at he
  obtain ⟨g, hg, hgt⟩ := (h.un (blk (blocksOf c) e)).1 (by rw [Nat.testBit_two_pow_sub_one]; exact decide_eq_true hb.1)
  have hlt : personOf c gs e < gs.length := List.findIdx_lt_length_of_exists ⟨g, hg, hgt⟩
  refine ⟨hlt, ?_⟩
  rw [List.getD_eq_getElem?_getD, List.getElem?_eq_getElem hlt, Option.getD_some]
  exact List.findIdx_getElem (p := fun (g : Nat) => g.testBit (blk (blocksOf c) e))
theorem Parts.idx {one : Nat → Bool} {s : Nat} {gs : List Nat} (h : Parts one s gs) {i k j : Nat} (hi : i < gs.length) (hk : k < gs.length) (h1 : (gs.getD i 0).testBit j = true) (h2 : (gs.getD k 0).testBit j = true) : i = k := by
  have hd := List.pairwise_iff_getElem.1 h.dis
  rw [List.getD_eq_getElem?_getD, List.getElem?_eq_getElem hi, Option.getD_some] at h1
  rw [List.getD_eq_getElem?_getD, List.getElem?_eq_getElem hk, Option.getD_some] at h2
  rcases Nat.lt_trichotomy i k with h3 | h3 | h3
  · rw [hd i k hi hk h3 j h1] at h2; cases h2
  · exact h3
  · rw [hd k i hk hi h3 j h2] at h1; cases h1
theorem personOf_eq (hc : PairsOk c) {gs : List Nat} (h : Parts (oneP c) (2 ^ (blocksOf c).length - 1) gs) {e x : Nat} (he : e < c.entries.length) (hx : x < gs.length) (ht : (gs.getD x 0).testBit (blk (blocksOf c) e) = true) : personOf c gs e = x :=
  have := personOf_at hc h he
  h.idx this.1 hx this.2 ht
theorem blk_same (hc : PairsOk c) {p : Pair} (hp : p ∈ c.same) : blk (blocksOf c) p.fst.toNat = blk (blocksOf c) p.snd.toNat := by
  have hs := blocksOf_sem hc
  have h := hc.ns p hp
  have h1 := hs.at h.1
  exact (hs.eq h.2 h1.1 (by rw [← hs.same p hp _ h1.1]; exact h1.2)).symm
theorem parts_allow (hc : PairsOk c) (hn : c.entries.length ≤ 10) {gs : List Nat} (h : Parts (oneP c) (2 ^ (blocksOf c).length - 1) gs) : Allow c (personOf c gs) where
  fits i k hi hk hik he := by
    have h1 := personOf_at hc h hi
    have h2 := personOf_at hc h hk
    rw [← he] at h2
    exact ((oneP_iff hc hn _).1 (h.ok _ (getD_mem (d := 0) h1.1)).2).1 i k hi hk h1.2 h2.2 hik
  same p hp := by unfold personOf; rw [blk_same hc hp]
  apart p hp he := by
    have h1 := personOf_at hc h (hc.na p hp).1
    have h2 := personOf_at hc h (hc.na p hp).2
    rw [← he] at h2
    exact ((oneP_iff hc hn _).1 (h.ok _ (getD_mem (d := 0) h1.1)).2).2 p hp ⟨h1.2, h2.2⟩
theorem parts_exact (hc : PairsOk c) {gs : List Nat} (h : Parts (oneP c) (2 ^ (blocksOf c).length - 1) gs) : Exact (personOf c gs) c.entries.length gs.length := by
  refine ⟨List.range gs.length, List.nodup_range, List.length_range, fun x => ?_⟩
  rw [List.mem_range]
  constructor
  · intro hx
    have hm := getD_mem (d := 0) hx
    obtain ⟨b, hb⟩ := nz_bit (h.ok _ hm).1
    have hbl := (h.un b).2 ⟨_, hm, hb⟩
    rw [Nat.testBit_two_pow_sub_one, decide_eq_true_eq] at hbl
    have hs := blocksOf_sem hc
    obtain ⟨e, he⟩ := nz_bit (hs.nz b hbl)
    have hen := hs.lt hbl he
    exact ⟨e, hen, personOf_eq hc h hen hx (by rw [hs.eq hen hbl he]; exact hb)⟩
  · rintro ⟨i, hi, rfl⟩; exact (personOf_at hc h hi).1
theorem sem_parts (hc : PairsOk c) (hn : c.entries.length ≤ 10) {f : Nat → Nat} {m : Nat} (ha : Allow c f) (he : Exact f c.entries.length m) : ∃ gs, Parts (oneP c) (2 ^ (blocksOf c).length - 1) gs ∧ gs.length = m ∧
    ∀ i k, i < c.entries.length → k < c.entries.length → (personOf c gs i = personOf c gs k ↔ f i = f k) := by
  have hs := blocksOf_sem hc
  have hp2 : 2 ^ c.entries.length ≤ 2 ^ 10 := Nat.pow_le_pow_right (by omega) hn
  have hrep : ∀ b, b < (blocksOf c).length → ((blocksOf c).getD b 0).testBit (low ((blocksOf c).getD b 0)) = true := fun b hb => low_test (Nat.lt_of_lt_of_le (hs.ok.lt _ (getD_mem hb)) hp2) (hs.nz b hb)
  have hcon : ∀ e, e < c.entries.length → f (low ((blocksOf c).getD (blk (blocksOf c) e) 0)) = f e := fun e he =>
    hs.conn f ha.same _ _ _ (hs.at he).1 (hrep _ (hs.at he).1) (hs.at he).2
  obtain ⟨d, h1, h2, h3⟩ := he
  have ht : ∀ x j, (mask (fun b => f (low ((blocksOf c).getD b 0)) == x) (blocksOf c).length).testBit j = true ↔ j < (blocksOf c).length ∧ f (low ((blocksOf c).getD j 0)) = x := fun x j => by
    rw [mask_test, Bool.and_eq_true, decide_eq_true_eq, beq_iff_eq]
  have hpar : Parts (oneP c) (2 ^ (blocksOf c).length - 1) (d.map fun x => mask (fun b => f (low ((blocksOf c).getD b 0)) == x) (blocksOf c).length) := by
    refine ⟨fun g hg => ?_, ?_, fun j => ?_⟩
    · obtain ⟨x, hx, rfl⟩ := List.mem_map.1 hg
      obtain ⟨e, hen, hfx⟩ := (h3 x).1 hx
      constructor
      · intro h0
        have := (ht x (blk (blocksOf c) e)).2 ⟨(hs.at hen).1, by rw [hcon e hen, hfx]⟩
        rw [h0] at this; simp at this
      · rw [oneP_iff hc hn]
        refine ⟨fun i k hi hk g1 g2 hik => ?_, fun p hp g => ?_⟩
        · have g1 := ((ht x _).1 g1).2
          have g2 := ((ht x _).1 g2).2
          rw [hcon i hi] at g1; rw [hcon k hk] at g2
          exact ha.fits i k hi hk hik (g1.trans g2.symm)
        · have g1 := ((ht x _).1 g.1).2
          have g2 := ((ht x _).1 g.2).2
          rw [hcon _ (hc.na p hp).1] at g1; rw [hcon _ (hc.na p hp).2] at g2
          exact ha.apart p hp (g1.trans g2.symm)
    · refine List.pairwise_map.2 (h1.imp fun {x y} hxy j hj => ?_)
      cases hy : (mask (fun b => f (low ((blocksOf c).getD b 0)) == y) (blocksOf c).length).testBit j
      · rfl
      · exact absurd (((ht x j).1 hj).2.symm.trans ((ht y j).1 hy).2) hxy
    · rw [Nat.testBit_two_pow_sub_one, decide_eq_true_eq]
      constructor
      · intro hj
        have hr := hrep j hj
        exact ⟨_, List.mem_map.2 ⟨_, (h3 _).2 ⟨_, hs.lt hj hr, rfl⟩, rfl⟩, (ht _ j).2 ⟨hj, rfl⟩⟩
      · rintro ⟨g, hg, hj⟩
        obtain ⟨x, _, rfl⟩ := List.mem_map.1 hg
        exact ((ht x j).1 hj).1
  refine ⟨_, hpar, by rw [List.length_map, h2], fun i k hi hk => ?_⟩
  have hi1 := personOf_at hc hpar hi
  have hk1 := personOf_at hc hpar hk
  have val : ∀ e, e < c.entries.length → ∀ z, z < (d.map fun x => mask (fun b => f (low ((blocksOf c).getD b 0)) == x) (blocksOf c).length).length →
      ((d.map fun x => mask (fun b => f (low ((blocksOf c).getD b 0)) == x) (blocksOf c).length).getD z 0).testBit (blk (blocksOf c) e) = true → d.getD z 0 = f e := fun e he z hz hzt => by
    rw [List.length_map] at hz
    rw [List.getD_eq_getElem?_getD, List.getElem?_map, List.getElem?_eq_getElem hz, Option.map_some, Option.getD_some] at hzt
    rw [List.getD_eq_getElem?_getD, List.getElem?_eq_getElem hz, Option.getD_some, ← hcon e he]
    exact ((ht _ _).1 hzt).2.symm
  constructor
  · intro h
    rw [← val i hi _ hi1.1 hi1.2, ← val k hk _ hk1.1 hk1.2, h]
  · intro h
    refine personOf_eq hc hpar hi hk1.1 ?_
    have hk2 := hk1.2
    have hz := hk1.1
    rw [List.length_map] at hz
    rw [List.getD_eq_getElem?_getD, List.getElem?_map, List.getElem?_eq_getElem hz, Option.map_some, Option.getD_some] at hk2 ⊢
    refine (ht _ _).2 ⟨(hs.at hi).1, ?_⟩
    rw [hcon i hi, h, ← hcon k hk]
    exact ((ht _ _).1 hk2).2
end
def lst (c : Census) : Int := (readW c).least.getD (2 ^ (blocksOf c).length - 1) 0
theorem leastOk {c : Census} (hc : PairsOk c) (hn : c.entries.length ≤ 10) : LeastOk (oneP c) (blocksOf c).length (fun s => (readW c).least.getD s 0) := by
  have hl := (blocksOf_sem hc).ok.len
  have hle : 2 ^ (blocksOf c).length ≤ 1024 := Nat.pow_le_pow_right (n := 2) (by omega) (show (blocksOf c).length ≤ 10 by omega)
  have h := tables_ok c (2 ^ (blocksOf c).length) hle
  exact ⟨h.z (Nat.two_pow_pos _), fun s _ => (h.b s).1, fun s g hs h0 h1 h2 h3 => h.le s g hs h0 h1 h2 h3, fun s hs h0 hl => h.ex s hs h0 hl⟩
theorem sem_iff {c : Census} (hc : PairsOk c) (hn : c.entries.length ≤ 10) {m : Nat} : Sem c m ↔ lst c < 1024 ∧ lst c ≤ m ∧ m ≤ (blocksOf c).length := by
  have hl := (blocksOf_sem hc).ok.len
  have hb10 : (blocksOf c).length ≤ 10 := by omega
  have L := leastOk hc hn
  have hw : 2 ^ (blocksOf c).length - 1 < 2 ^ (blocksOf c).length := Nat.sub_lt (Nat.two_pow_pos _) (by omega)
  have hp2 : 2 ^ (blocksOf c).length ≤ 2 ^ 10 := Nat.pow_le_pow_right (by omega) hb10
  constructor
  · rintro ⟨f, h1, h2⟩
    obtain ⟨gs, h3, h4, _⟩ := sem_parts hc hn h1 h2
    have h5 := L.le_parts hb10 _ _ hw h3
    have h6 := Parts.len_pc gs _ (by omega) h3
    rw [pc_full _ hb10] at h6
    unfold lst
    omega
  · rintro ⟨h0, h1, h2⟩
    obtain ⟨gs, h3, h4⟩ := L.parts hb10 _ hw h0
    have h4' : (gs.length : Int) = lst c := h4
    obtain ⟨gs', h5, h6⟩ := Parts.upto (oneP_down hc hn) (by omega) (m - gs.length) gs h3 (by rw [pc_full _ hb10]; omega)
    have : gs'.length = m := by omega
    exact ⟨_, parts_allow hc hn h5, this ▸ parts_exact hc h5⟩
end Go.Proofs.YtcnkbdfkjhlbiaaDoor
