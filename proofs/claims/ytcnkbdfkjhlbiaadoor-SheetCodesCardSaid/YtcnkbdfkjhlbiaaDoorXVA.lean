/- Lemmas, part XVA. Conditions: none. -/
import Derived.Test.YtcnkbdfkjhlbiaaDoorXPBC
import Derived.Carry
set_option linter.unusedVariables false
namespace Go.Proofs.YtcnkbdfkjhlbiaaDoor
open Go.Sy
theorem ty.sz55 : tsz Tryd.prog 55 = some 2 := by kernel_rfl
theorem ty.agg55 : tagg Tryd.prog 55 = some true := by kernel_rfl
theorem ty.zero55 : tzero Tryd.prog 55 = some (SV.dx [] :: (SV.dx [] :: [])) := by kernel_rfl
theorem ty.fld55_0 : tfld Tryd.prog 55 0 = some (0, 1) := by kernel_rfl
theorem ty.fld55_1 : tfld Tryd.prog 55 1 = some (1, 1) := by kernel_rfl
theorem ty.pl55 : tplaces Tryd.prog 55 = some (fun i => ([(0, 1), (1, 1)] : List (Nat × Nat))[i]?) := by kernel_rfl
theorem ty.elem55 : telem Tryd.prog 55 = none := by kernel_rfl
theorem ty.sz63 : tsz Tryd.prog 63 = some 10 := by kernel_rfl
theorem ty.agg63 : tagg Tryd.prog 63 = some true := by kernel_rfl
theorem ty.zero63 : tzero Tryd.prog 63 = some (SV.d (.lit (.bool false)) :: (SV.d (.lit (.bool false)) :: (SV.d (.lit (.bool false)) :: (SV.d (.lit (.bool false)) :: (SV.d (.lit (.bool false)) :: (SV.d (.lit (.bool false)) :: (SV.d (.lit (.bool false)) :: (SV.d (.lit (.bool false)) :: (SV.d (.lit (.bool false)) :: (SV.d (.lit (.bool false)) :: [])))))))))) := by kernel_rfl
theorem ty.elem63 : telem Tryd.prog 63 = none := by kernel_rfl
theorem ty.arr63 : tarr Tryd.prog 63 = some (10, 1) := by kernel_rfl
theorem ty.und63 : Tryd.prog.underlying 63 = some (.array 10 4) := by kernel_rfl
theorem ty.sz64 : tsz Tryd.prog 64 = some 30 := by kernel_rfl
theorem ty.agg64 : tagg Tryd.prog 64 = some true := by kernel_rfl
theorem ty.zero64 : tzero Tryd.prog 64 = some (List.replicate 30 (SV.d (.lit (.bool false)))) := by kernel_rfl
theorem ty.elem64 : telem Tryd.prog 64 = none := by kernel_rfl
theorem ty.arr64 : tarr Tryd.prog 64 = some (3, 10) := by kernel_rfl
theorem ty.und64 : Tryd.prog.underlying 64 = some (.array 3 63) := by kernel_rfl
end Go.Proofs.YtcnkbdfkjhlbiaaDoor
namespace Go.Proofs.YtcnkbdfkjhlbiaaDoor
open Go.Sy Go.Deep
section
variable {H : Type} {enc : TypeId × Value → H} {W : World} {spare : Nat → Bool}
theorem rd43 : Reads enc Tryd.prog W spare 43 1 (fun l : List Int => [.sl (l.map fun n => [cI n])]) := reads_slice (e := 3) (n := 1) (by kernel_rfl) (by kernel_rfl) (by decide) (R3 enc W spare)
theorem rd39 : Reads enc Tryd.prog W spare 39 1 (fun l : List (List Int) => [.sl (l.map fun l => [.sl (l.map fun n => [cI n])])]) := reads_slice (e := 43) (n := 1) (by kernel_rfl) (by kernel_rfl) (by decide) rd43
theorem rd55 : Reads enc Tryd.prog W spare 55 2 (fun c : List (List Int) × List Int => [.sl (c.1.map fun l => [.sl (l.map fun n => [cI n])]), .sl (c.2.map fun n => [cI n])]) := fun fuel cs x h => by
  obtain ⟨hl, n, hf⟩ := open_fields [(39, 0), (43, 1)] (by kernel_rfl) (by simp) h
  obtain ⟨y0, h0⟩ := hf 0 39 0 rfl
  obtain ⟨y1, h1⟩ := hf 1 43 1 rfl
  obtain ⟨a, la, da⟩ := rd39 _ _ _ h0
  obtain ⟨b, lb, db⟩ := rd43 _ _ _ h1
  rw [show Tryd.prog.cellsOf 39 = 1 by kernel_rfl] at da
  rw [show Tryd.prog.cellsOf 43 = 1 by kernel_rfl] at db
  rw [show Tryd.prog.cellsOf 55 = 2 by kernel_rfl] at hl
  exact ⟨(a, b), rfl, Tile.drs [[D.sl (a.map fun l : List Int => [D.sl (l.map fun n : Int => [cI n])])], [D.sl (b.map fun n : Int => [cI n])]] 0 ⟨da, db, hl⟩⟩
end
end Go.Proofs.YtcnkbdfkjhlbiaaDoor
namespace Go.Proofs.YtcnkbdfkjhlbiaaDoor
open Go.Sy (aput)
set_option maxRecDepth 8000
theorem aput_look (m : Mem) (k k' : K4) (v : Int) : (aput m k v).lookup k' = if k' = k then some v else m.lookup k' := by
  induction m with
  | nil =>
    unfold aput
    rw [List.lookup_cons]
    by_cases h : k' = k
    · subst h; simp
    · rw [if_neg h, show (k' == k) = false by simpa using h]
  | cons e m ih =>
    obtain ⟨a, b⟩ := e
    by_cases hk : k = a
    · subst hk
      have e1 : aput ((k, b) :: m) k v = (k, v) :: m := by simp [aput]
      rw [e1]
      by_cases h : k' = k
      · subst h; simp
      · have hb : (k' == k) = false := by simpa using h
        simp only [List.lookup_cons, hb, if_neg h]
    · have e1 : aput ((a, b) :: m) k v = (a, b) :: aput m k v := by
        rw [aput, if_neg (by simpa using hk)]
      rw [e1]
      simp only [List.lookup_cons]
      by_cases h : k' = a
      · subst h
        simp only [beq_self_eq_true]
        rw [if_neg (fun hc => hk hc.symm)]
      · have hb : (k' == a) = false := by simpa using h
        simp only [hb, ih]
def off (c : Coding) (k p : Nat) (x : Int) : Nat := if (c.codes.getD k []).getD p 0 ≠ x then 1 else 0
def errsAt (c : Coding) (k : Nat) : Nat → List Int → Nat
  | _, [] => 0
  | p, x :: w => off c k p x + errsAt c k (p + 1) w
def sumTo (f : Nat → Nat) : Nat → Nat
  | 0 => 0
  | n + 1 => sumTo f n + f n
def totAt (c : Coding) (p : Nat) (w : List Int) : Nat := sumTo (fun k => errsAt c k p w) c.codes.length
def addAt (c : Coding) (p : Nat) (x : Int) : Nat := sumTo (fun k => off c k p x) c.codes.length
theorem sumTo_add (f g : Nat → Nat) : ∀ n, sumTo (fun k => f k + g k) n = sumTo f n + sumTo g n
  | 0 => rfl
  | n + 1 => by simp only [sumTo, sumTo_add f g n]; omega
theorem tot_cons (c : Coding) (p : Nat) (x : Int) (w : List Int) : totAt c p (x :: w) = addAt c p x + totAt c (p + 1) w := by
  unfold totAt addAt
  rw [← sumTo_add]; rfl
theorem tot_nil (c : Coding) (p : Nat) : totAt c p [] = 0 := by
  unfold totAt
  have : ∀ n, sumTo (fun _ => 0) n = 0 := by
    intro n
    induction n with
    | zero => rfl
    | succ n ih => simp only [sumTo, ih]
  exact this _
structure Comp (c : Coding) (p : Nat) (es : List Int) (w : List Int) : Prop where
  len : p + w.length = c.cols
  cod : ∀ x ∈ w, 0 ≤ x ∧ x ≤ 9
  few : ∀ k, k < c.codes.length → es.getD k 0 + errsAt c k p w ≤ c.wrong.getD k 0
structure Es (c : Coding) (p : Nat) (es : List Int) : Prop where
  len : es.length = 3
  bd : ∀ k, 0 ≤ es.getD k 0 ∧ es.getD k 0 ≤ p
theorem off_le (c : Coding) (k p : Nat) (x : Int) : off c k p x ≤ 1 := by unfold off; split <;> omega
theorem setE_get {l : List Int} {i k : Nat} {v : Int} (h : i < l.length) : (l.set i v).getD k 0 = if k = i then v else l.getD k 0 := by
  rw [setI_get]
  by_cases hk : k = i
  · rw [if_pos ⟨hk, h⟩, if_pos hk]
  · rw [if_neg (fun hc => hk hc.1), if_neg hk]
theorem nextTo_law {c : Coding} (hc : CodingOk c) {p : Nat} (hp : p ≤ 10) {es : List Int} (he : Es c p es) (x : Int) : ∀ n, n ≤ c.codes.length →
    (∀ k, (c.nextTo p es x n).1.getD k 0 = es.getD k 0 + if k < n then (off c k p x : Int) else 0) ∧ (c.nextTo p es x n).2 = (sumTo (fun k => off c k p x) n : Nat)
  | 0, _ => ⟨fun k => by simp [Coding.nextTo], rfl⟩
  | n + 1, hn => by
    obtain ⟨h1, h2⟩ := nextTo_law hc hp he x n (by omega)
    have hl : (c.nextTo p es x n).1.length = 3 := (nextTo_len c p es x n).trans he.len
    have hn3 : n < 3 := by have := hc.n3; omega
    have hs : sumTo (fun k => off c k p x) n ≤ n := by
      have : ∀ m, sumTo (fun k => off c k p x) m ≤ m := by
        intro m
        induction m with
        | zero => exact Nat.le_refl _
        | succ m ih => have := off_le c m p x; simp only [sumTo]; omega
      exact this n
    have hb := he.bd n
    rw [nextTo_succ]
    unfold Coding.nextStep
    have hv := h1 n
    rw [if_neg (Nat.lt_irrefl n)] at hv
    by_cases ho : (c.codes.getD n []).getD p 0 ≠ x
    · have ho1 : off c n p x = 1 := if_pos ho
      rw [if_pos ho, wr_id (by omega) (by omega), wr_id (by omega) (by omega)]
      refine ⟨fun k => ?_, ?_⟩
      · rw [setE_get (by omega)]
        by_cases hk : k = n
        · subst hk; rw [if_pos rfl, if_pos (by omega), hv, ho1]; omega
        · rw [if_neg hk, h1 k]
          by_cases hkn : k < n
          · rw [if_pos hkn, if_pos (by omega)]
          · rw [if_neg hkn, if_neg (by omega)]
      · show _ + 1 = _
        rw [h2, sumTo, ho1]; omega
    · have ho0 : off c n p x = 0 := if_neg ho
      rw [if_neg ho]
      refine ⟨fun k => ?_, ?_⟩
      · rw [h1 k]
        by_cases hk : k = n
        · subst hk; rw [if_neg (Nat.lt_irrefl _), if_pos (by omega), ho0]; rfl
        · by_cases hkn : k < n
          · rw [if_pos hkn, if_pos (by omega)]
          · rw [if_neg hkn, if_neg (by omega)]
      · rw [h2, sumTo, ho0]; rfl
def esNext (c : Coding) (p : Nat) (es : List Int) (x : Int) : List Int := (c.nextTo p es x c.codes.length).1
def OkNext (c : Coding) (p : Nat) (es : List Int) (x : Int) : Prop := ∀ k, k < c.codes.length → es.getD k 0 + off c k p x ≤ c.wrong.getD k 0
instance (c : Coding) (p : Nat) (es : List Int) (x : Int) : Decidable (OkNext c p es x) := by unfold OkNext; infer_instance
theorem esNext_get {c : Coding} (hc : CodingOk c) {p : Nat} (hp : p ≤ 10) {es : List Int} (he : Es c p es) (x : Int) (k : Nat) : (esNext c p es x).getD k 0 = es.getD k 0 + if k < c.codes.length then (off c k p x : Int) else 0 :=
  (nextTo_law hc hp he x _ (Nat.le_refl _)).1 k
theorem Es.next {c : Coding} (hc : CodingOk c) {p : Nat} (hp : p ≤ 10) {es : List Int} (he : Es c p es) (x : Int) : Es c (p + 1) (esNext c p es x) := by
  refine ⟨(nextTo_len c p es x _).trans he.len, fun k => ?_⟩
  rw [esNext_get hc hp he x k]
  have := he.bd k
  have := off_le c k p x
  split <;> omega
theorem next_law {c : Coding} (hc : CodingOk c) {p : Nat} (hp : p ≤ 10) {es : List Int} (he : Es c p es) (x : Int) :
    c.next p es x = if OkNext c p es x then (((p : Int) + 1, esNext c p es x), (addAt c p x : Int), true) else ((0, [0, 0, 0]), 0, false) := by
  have hok : (List.range c.codes.length).all (c.nextOk p es x) = decide (OkNext c p es x) := by
    rw [Bool.eq_iff_iff, List.all_eq_true, decide_eq_true_eq]
    have key : ∀ k, k < c.codes.length → (c.nextOk p es x k = true ↔ es.getD k 0 + off c k p x ≤ c.wrong.getD k 0) := fun k hk => by
      unfold Coding.nextOk
      rw [decide_eq_true_eq, (nextTo_law hc hp he x (k + 1) hk).1 k, if_pos (by omega)]
    exact ⟨fun h k hk => (key k hk).1 (h k (List.mem_range.2 hk)), fun h k hk => (key k (List.mem_range.1 hk)).2 (h k (List.mem_range.1 hk))⟩
  unfold Coding.next
  rw [hok]
  by_cases h : OkNext c p es x
  · rw [if_pos h, if_pos (decide_eq_true h), (nextTo_law hc hp he x _ (Nat.le_refl _)).2]; rfl
  · rw [if_neg h, if_neg (by simpa using h)]
theorem comp_cons {c : Coding} (hc : CodingOk c) {p : Nat} (hp : p ≤ 10) {es : List Int} (he : Es c p es) {x : Int} {w : List Int} : Comp c p es (x :: w) ↔ (0 ≤ x ∧ x ≤ 9) ∧ OkNext c p es x ∧ Comp c (p + 1) (esNext c p es x) w := by
  constructor
  · rintro ⟨h1, h2, h3⟩
    refine ⟨h2 x List.mem_cons_self, fun k hk => ?_, ?_⟩
    · have := h3 k hk
      simp only [errsAt] at this; omega
    · refine ⟨by rw [List.length_cons] at h1; omega, fun y hy => h2 y (List.mem_cons_of_mem _ hy), fun k hk => ?_⟩
      have := h3 k hk
      simp only [errsAt] at this
      rw [esNext_get hc hp he x k, if_pos hk]; omega
  · rintro ⟨h1, h2, h3⟩
    refine ⟨by rw [List.length_cons]; have := h3.len; omega, fun y hy => ?_, fun k hk => ?_⟩
    · rcases List.mem_cons.1 hy with rfl | hy
      · exact h1
      · exact h3.cod y hy
    · have := h3.few k hk
      rw [esNext_get hc hp he x k, if_pos hk] at this
      simp only [errsAt]; omega
def IsBest (c : Coding) (p : Nat) (es : List Int) (n : Int) : Prop :=
  (n = -1 ∧ ∀ w, ¬ Comp c p es w) ∨ (∃ w, Comp c p es w ∧ n = totAt c p w ∧ ∀ w', Comp c p es w' → n ≤ totAt c p w')
theorem IsBest.nn {c : Coding} {p : Nat} {es : List Int} {n : Int} (h : IsBest c p es n) : -1 ≤ n := by
  rcases h with ⟨rfl, _⟩ | ⟨w, _, rfl, _⟩ <;> omega
theorem IsBest.some {c : Coding} {p : Nat} {es : List Int} {n : Int} (h : IsBest c p es n) : n ≠ -1 ↔ ∃ w, Comp c p es w := by
  rcases h with ⟨rfl, h⟩ | ⟨w, hw, rfl, _⟩
  · exact ⟨fun h2 => absurd rfl h2, fun ⟨w, hw⟩ => absurd hw (h w)⟩
  · exact ⟨fun _ => ⟨w, hw⟩, fun _ => by omega⟩
theorem IsBest.bd {c : Coding} (hc : CodingOk c) {p : Nat} {es : List Int} {n : Int} (h : IsBest c p es n) : n ≤ 30 := by
  rcases h with ⟨rfl, _⟩ | ⟨w, hw, rfl, _⟩
  · omega
  · have h1 : ∀ (w : List Int) (k p : Nat), errsAt c k p w ≤ w.length := by
      intro w
      induction w with
      | nil => intro k p; exact Nat.le_refl _
      | cons x w ih => intro k p; have := ih k (p + 1); have := off_le c k p x; simp only [errsAt, List.length_cons]; omega
    have h2 : ∀ n, sumTo (fun k => errsAt c k p w) n ≤ n * w.length := by
      intro n
      induction n with
      | zero => simp [sumTo]
      | succ n ih => have := h1 w n p; simp only [sumTo, Nat.succ_mul]; omega
    have h3 := h2 c.codes.length
    have h4 := hw.len
    have h5 := hc.c10
    have h6 := hc.n3
    have : c.codes.length * w.length ≤ 3 * 10 := Nat.mul_le_mul h6 (by omega)
    unfold totAt; omega
structure MemOk (c : Coding) (m : Mem) : Prop where
  ok : ∀ p es n, p < c.cols → Es c p es → m.lookup (keyOf p es) = some n → IsBest c p es n
  shut : ∀ p es, p < c.cols → Es c p es → (m.lookup (keyOf p es)).isSome = true → ∀ x : Int, 0 ≤ x → x ≤ 9 → OkNext c p es x → p + 1 = c.cols ∨ (m.lookup (keyOf (p + 1) (esNext c p es x))).isSome = true
def Grows (m m' : Mem) : Prop := ∀ k, (m.lookup k).isSome = true → (m'.lookup k).isSome = true
theorem list3 {l l' : List Int} (h : l.length = 3) (h' : l'.length = 3) (h0 : l.getD 0 0 = l'.getD 0 0) (h1 : l.getD 1 0 = l'.getD 1 0) (h2 : l.getD 2 0 = l'.getD 2 0) : l = l' := by
  obtain ⟨a, b, d, rfl⟩ := three h
  obtain ⟨a', b', d', rfl⟩ := three h'
  simp only [List.getD_cons_zero, List.getD_cons_succ] at h0 h1 h2
  rw [h0, h1, h2]
theorem key_inj {p p' : Nat} {es es' : List Int} (h : es.length = 3) (h' : es'.length = 3) (hk : keyOf p es = keyOf p' es') : p = p' ∧ es = es' := by
  unfold keyOf at hk
  simp only [Prod.mk.injEq] at hk
  exact ⟨by omega, list3 h h' hk.2.1 hk.2.2.1 hk.2.2.2⟩
theorem solve_law {c : Coding} (hc : CodingOk c) : ∀ (f p : Nat) (es : List Int) (m : Mem), p + f = c.cols → Es c p es → (∀ k, k < c.codes.length → es.getD k 0 ≤ c.wrong.getD k 0) → MemOk c m →
    IsBest c p es (c.solveGo f p es m).1 ∧ MemOk c (c.solveGo f p es m).2 ∧ Grows m (c.solveGo f p es m).2 ∧ (p < c.cols → ((c.solveGo f p es m).2.lookup (keyOf p es)).isSome = true)
  | 0, p, es, m, hpf, he, hw, hm => by
    refine ⟨.inr ⟨[], ⟨by simpa using hpf, fun x hx => (by cases hx), fun k hk => by simpa [errsAt] using hw k hk⟩, by rw [tot_nil]; rfl, fun w' _ => by rw [Coding.solveGo]; omega⟩, hm, fun _ h => h, fun h => by omega⟩
  | f + 1, p, es, m, hpf, he, hw, hm => by
    have hp10 : p ≤ 10 := by have := hc.c10; omega
    rw [Coding.solveGo]
    cases hl : m.lookup (keyOf p es) with
    | some n => exact ⟨hm.ok p es n (by omega) he hl, hm, fun _ h => h, fun _ => by show (m.lookup (keyOf p es)).isSome = true; rw [hl]; rfl⟩
    | none =>
      show IsBest c p es ((List.range 10).foldl (solStep c (c.solveGo f (p + 1)) p es) (-1, m)).1 ∧ _
      have key : ∀ n, n ≤ 10 → ∀ x, x = (List.range n).foldl (solStep c (c.solveGo f (p + 1)) p es) (-1, m) →
          MemOk c x.2 ∧ Grows m x.2 ∧ (∀ y : Int, 0 ≤ y → y < n → OkNext c p es y → p + 1 = c.cols ∨ (x.2.lookup (keyOf (p + 1) (esNext c p es y))).isSome = true) ∧
          ((x.1 = -1 ∧ ∀ (y : Int) w, (0 ≤ y ∧ y < n) → ¬ Comp c p es (y :: w)) ∨ (∃ (y : Int) (w : List Int), Comp c p es (y :: w) ∧ x.1 = totAt c p (y :: w) ∧ ∀ (y' : Int) w', (0 ≤ y' ∧ y' < n) → Comp c p es (y' :: w') → x.1 ≤ totAt c p (y' :: w'))) := by
        intro n
        induction n with
        | zero =>
          rintro _ x rfl
          exact ⟨hm, fun _ h => h, fun y h1 h2 => by omega, .inl ⟨rfl, fun y w h => by omega⟩⟩
        | succ n ih =>
          rintro hn x rfl
          rw [List.range_succ, List.foldl_append]
          obtain ⟨a1, a2, a3, a4⟩ := ih (by omega) _ rfl
          generalize (List.range n).foldl (solStep c (c.solveGo f (p + 1)) p es) (-1, m) = x at a1 a2 a3 a4
          simp only [List.foldl_cons, List.foldl_nil]
          unfold solStep
          rw [next_law hc hp10 he (n : Int)]
          by_cases hok : OkNext c p es (n : Int)
          · rw [if_pos hok]
            simp only [if_true]
            have he' := he.next hc hp10 (n : Int)
            obtain ⟨b1, b2, b3, b4⟩ := solve_law hc f (p + 1) (esNext c p es n) x.2 (by omega) he' (fun k hk => by
              rw [esNext_get hc hp10 he, if_pos hk]; exact hok k hk) a1
            generalize c.solveGo f (p + 1) (esNext c p es n) x.2 = y at b1 b2 b3 b4
            have hcc : ∀ w, Comp c p es ((n : Int) :: w) ↔ Comp c (p + 1) (esNext c p es n) w := fun w => by
              rw [comp_cons hc hp10 he]
              exact ⟨fun h => h.2.2, fun h => ⟨by omega, hok, h⟩⟩
            refine ⟨b2, fun k hk => b3 k (a2 k hk), fun z z1 z2 z3 => ?_, ?_⟩
            · by_cases hz : z = n
              · subst hz
                by_cases hl : p + 1 = c.cols
                · exact .inl hl
                · exact .inr (b4 (by omega))
              · rcases a3 z z1 (by omega) z3 with h | h
                · exact .inl h
                · exact .inr (b3 _ h)
            · have hbd := b1.bd hc
              have hnn := b1.nn
              have hsum : addAt c p n ≤ 3 := by
                have : ∀ m, sumTo (fun k => off c k p n) m ≤ m := by
                  intro m
                  induction m with
                  | zero => exact Nat.le_refl _
                  | succ m ih => have := off_le c m p n; simp only [sumTo]; omega
                have := this c.codes.length
                have := hc.n3
                unfold addAt; omega
              rw [wr_id (by omega) (by omega)]
              rcases b1 with ⟨c1, c2⟩ | ⟨w, c1, c2, c3⟩
              · rw [if_neg (by rw [c1]; exact fun h => h.1 rfl)]
                have hno : ∀ w, ¬ Comp c p es ((n : Int) :: w) := fun w h => c2 w ((hcc w).1 h)
                rcases a4 with ⟨d1, d2⟩ | ⟨z, w, d1, d2, d3⟩
                · refine .inl ⟨d1, fun z w hz hcp => ?_⟩
                  by_cases hzn : z = n
                  · subst hzn; exact hno w hcp
                  · exact d2 z w (by omega) hcp
                · refine .inr ⟨z, w, d1, d2, fun z' w' hz hcp => ?_⟩
                  by_cases hzn : z' = n
                  · subst hzn; exact absurd hcp (hno w')
                  · exact d3 z' w' (by omega) hcp
              · have hne : y.1 ≠ -1 := by omega
                have hval : y.1 + (addAt c p n : Int) = totAt c p ((n : Int) :: w) := by rw [tot_cons, c2]; omega
                have hmin : ∀ w', Comp c p es ((n : Int) :: w') → y.1 + (addAt c p n : Int) ≤ totAt c p ((n : Int) :: w') := fun w' h => by
                  have := c3 w' ((hcc w').1 h)
                  rw [tot_cons]; omega
                by_cases hcond : x.1 = -1 ∨ y.1 + (addAt c p n : Int) < x.1
                · rw [if_pos ⟨hne, hcond⟩]
                  refine .inr ⟨n, w, (hcc w).2 c1, hval, fun z' w' hz hcp => ?_⟩
                  by_cases hzn : z' = n
                  · subst hzn; exact hmin w' hcp
                  · rcases a4 with ⟨d1, d2⟩ | ⟨z, w2, d1, d2, d3⟩
                    · exact absurd hcp (d2 z' w' (by omega))
                    · have := d3 z' w' (by omega) hcp
                      rcases hcond with h | h
                      · omega
                      · show y.1 + (addAt c p n : Int) ≤ _; omega
                · rw [if_neg (fun h => hcond h.2)]
                  rcases a4 with ⟨d1, d2⟩ | ⟨z, w2, d1, d2, d3⟩
                  · exact absurd (.inl d1) hcond
                  · refine .inr ⟨z, w2, d1, d2, fun z' w' hz hcp => ?_⟩
                    by_cases hzn : z' = n
                    · subst hzn
                      have := hmin w' hcp
                      have : ¬ (y.1 + (addAt c p n : Int) < x.1) := fun h => hcond (.inr h)
                      show x.1 ≤ _
                      omega
                    · exact d3 z' w' (by omega) hcp
          · rw [if_neg hok]
            simp only [Bool.false_eq_true, if_false]
            have hno : ∀ w, ¬ Comp c p es ((n : Int) :: w) := fun w h => hok ((comp_cons hc hp10 he).1 h).2.1
            refine ⟨a1, a2, fun z z1 z2 z3 => ?_, ?_⟩
            · by_cases hz : z = n
              · subst hz; exact absurd z3 hok
              · exact a3 z z1 (by omega) z3
            · rcases a4 with ⟨d1, d2⟩ | ⟨z, w, d1, d2, d3⟩
              · refine .inl ⟨d1, fun z w hz hcp => ?_⟩
                by_cases hzn : z = n
                · subst hzn; exact hno w hcp
                · exact d2 z w (by omega) hcp
              · refine .inr ⟨z, w, d1, d2, fun z' w' hz hcp => ?_⟩
                by_cases hzn : z' = n
                · subst hzn; exact absurd hcp (hno w')
                · exact d3 z' w' (by omega) hcp
      obtain ⟨a1, a2, a3, a4⟩ := key 10 (Nat.le_refl _) _ rfl
      generalize (List.range 10).foldl (solStep c (c.solveGo f (p + 1)) p es) (-1, m) = x at a1 a2 a3 a4
      have hdone : ∀ w, Comp c p es w → ∃ y v, w = y :: v ∧ 0 ≤ y ∧ y < 10 := fun w hw => by
        cases w with
        | nil => have := hw.len; simp at this; omega
        | cons y v => have := hw.cod y List.mem_cons_self; exact ⟨y, v, rfl, by omega, by omega⟩
      have hbest : IsBest c p es x.1 := by
        rcases a4 with ⟨d1, d2⟩ | ⟨z, w, d1, d2, d3⟩
        · refine .inl ⟨d1, fun w hw => ?_⟩
          obtain ⟨y, v, rfl, h1, h2⟩ := hdone w hw
          exact d2 y v ⟨h1, h2⟩ hw
        · refine .inr ⟨_, d1, d2, fun w' hw' => ?_⟩
          obtain ⟨y, v, rfl, h1, h2⟩ := hdone w' hw'
          exact d3 y v ⟨h1, h2⟩ hw'
      refine ⟨hbest, ⟨fun p' es' n h1 h2 h3 => ?_, fun p' es' h1 h2 h3 y y1 y2 y3 => ?_⟩, fun k hk => ?_, fun _ => ?_⟩
      · rw [aput_look] at h3
        by_cases hk : keyOf p' es' = keyOf p es
        · rw [if_pos hk] at h3
          obtain ⟨rfl, rfl⟩ := key_inj h2.len he.len hk
          obtain rfl := Option.some.inj h3
          exact hbest
        · rw [if_neg hk] at h3
          exact a1.ok p' es' n h1 h2 h3
      · rw [aput_look] at h3
        by_cases hk : keyOf p' es' = keyOf p es
        · obtain ⟨rfl, rfl⟩ := key_inj h2.len he.len hk
          rcases a3 y y1 (by omega) y3 with h | h
          · exact .inl h
          · refine .inr ?_
            rw [aput_look]
            split
            · rfl
            · exact h
        · rw [if_neg hk] at h3
          rcases a1.shut p' es' h1 h2 h3 y y1 y2 y3 with h | h
          · exact .inl h
          · refine .inr ?_
            rw [aput_look]
            split
            · rfl
            · exact h
      · show ((aput x.2 (keyOf p es) x.1).lookup k).isSome = true
        rw [aput_look]
        split
        · rfl
        · exact a2 k hk
      · show ((aput x.2 (keyOf p es) x.1).lookup (keyOf p es)).isSome = true
        rw [aput_look, if_pos rfl]; rfl
end Go.Proofs.YtcnkbdfkjhlbiaaDoor
namespace Go.Proofs.YtcnkbdfkjhlbiaaDoor
open Go.Sy (aput)
set_option maxRecDepth 8000
inductive Pre (c : Coding) : Nat → List Int → List Int → Prop
  | nil : Pre c 0 [] e000
  | snoc {p : Nat} {v es : List Int} {x : Int} (h : Pre c p v es) (h1 : 0 ≤ x ∧ x ≤ 9) (h2 : OkNext c p es x) : Pre c (p + 1) (v ++ [x]) (esNext c p es x)
structure CodingFine (c : Coding) : Prop where
  ok : CodingOk c
  n0 : 0 < c.codes.length
  c0 : 0 < c.cols
  wr : ∀ k, k < c.codes.length → 0 ≤ c.wrong.getD k 0 ∧ c.wrong.getD k 0 ≤ 10
  cd : ∀ k, k < c.codes.length → (c.codes.getD k []).all isCode = true
theorem coding_fine {c : Coding} (h : c.check = 0) : CodingFine c := by
  obtain ⟨h1, h2, h3⟩ := coding_ok h
  have hr : ∀ k, k < c.codes.length → c.row k = true := fun k hk => by
    unfold Coding.check at h
    split at h
    · cases h
    · split at h
      · cases h
      · split at h
        · rename_i g; exact List.all_eq_true.1 g k (List.mem_range.2 hk)
        · cases h
  refine ⟨h1, h2, h3, fun k hk => ?_, fun k hk => ?_⟩
  · have := hr k hk
    simp only [Coding.row, within, Bool.and_eq_true, decide_eq_true_eq] at this
    omega
  · have := hr k hk
    simp only [Coding.row, Bool.and_eq_true] at this
    exact this.1.2
theorem es000 (c : Coding) : Es c 0 e000 := ⟨rfl, fun k => by
  have : e000.getD k 0 = 0 := by
    match k with
    | 0 => rfl
    | 1 => rfl
    | 2 => rfl
    | k + 3 => rfl
  rw [this]; omega⟩
theorem e000_get (k : Nat) : e000.getD k 0 = 0 := by
  match k with
  | 0 => rfl
  | 1 => rfl
  | 2 => rfl
  | k + 3 => rfl
theorem Pre.es {c : Coding} (hf : CodingFine c) {p : Nat} {v es : List Int} (h : Pre c p v es) (hp : p ≤ c.cols) : Es c p es ∧ v.length = p := by
  induction h with
  | nil => exact ⟨es000 c, rfl⟩
  | @snoc p v es x h h1 h2 ih =>
    obtain ⟨a, b⟩ := ih (by omega)
    have := hf.ok.c10
    exact ⟨a.next hf.ok (by omega) x, by rw [List.length_append, b]; rfl⟩
theorem Pre.few {c : Coding} (hf : CodingFine c) {p : Nat} {v es : List Int} (h : Pre c p v es) (hp : p ≤ c.cols) : ∀ k, k < c.codes.length → es.getD k 0 ≤ c.wrong.getD k 0 := by
  intro k hk
  cases h with
  | nil => rw [e000_get]; exact (hf.wr k hk).1
  | @snoc p v es x h h1 h2 =>
    have he := (h.es hf (by omega)).1
    have := hf.ok.c10
    rw [esNext_get hf.ok (by omega) he, if_pos hk]
    exact h2 k hk
theorem comp_split {c : Coding} (hf : CodingFine c) : ∀ (n : Nat) (v w : List Int), v.length = n → n ≤ c.cols → (Comp c 0 e000 (v ++ w) ↔ ∃ es, Pre c n v es ∧ Comp c n es w) := by
  intro n
  induction n with
  | zero =>
    intro v w hv _
    obtain rfl := List.length_eq_zero_iff.1 hv
    constructor
    · intro h; exact ⟨_, .nil, h⟩
    · rintro ⟨es, h1, h2⟩
      cases h1 with
      | nil => exact h2
  | succ n ih =>
    intro v w hv hn
    have h10 := hf.ok.c10
    have hvne : v ≠ [] := fun hc => by rw [hc] at hv; cases hv
    obtain ⟨u, x, rfl⟩ : ∃ u x, v = u ++ [x] := ⟨v.dropLast, v.getLast hvne, (List.dropLast_concat_getLast hvne).symm⟩
    have hu : u.length = n := by simpa using hv
    rw [show u ++ [x] ++ w = u ++ (x :: w) by simp, ih u (x :: w) hu (by omega)]
    constructor
    · rintro ⟨es, h1, h2⟩
      have he := (h1.es hf (by omega)).1
      obtain ⟨a, b, d⟩ := (comp_cons hf.ok (by omega) he).1 h2
      exact ⟨_, .snoc h1 a b, d⟩
    · rintro ⟨es, h1, h2⟩
      generalize hz : u ++ [x] = z at h1
      generalize hm : n + 1 = m at h1
      cases h1 with
      | nil => cases hm
      | @snoc p v' es' y g1 g2 g3 =>
        obtain ⟨rfl, h3⟩ := List.append_inj' hz rfl
        simp only [List.cons.injEq, and_true] at h3
        subst h3
        have : p = n := by omega
        subst this
        have he := (g1.es hf (by omega)).1
        exact ⟨es', g1, (comp_cons hf.ok (by omega) he).2 ⟨g2, g3, by rw [← hm] at h2; exact h2⟩⟩
theorem root_law {c : Coding} (hf : CodingFine c) : IsBest c 0 e000 c.root.1 ∧ MemOk c c.root.2 ∧ (c.root.2.lookup (keyOf 0 e000)).isSome = true := by
  have h := solve_law hf.ok c.cols 0 e000 [] (by omega) (es000 c) (fun k hk => by rw [e000_get]; exact (hf.wr k hk).1)
    ⟨fun p es n _ _ h => (by cases h), fun p es _ _ h => (by cases h)⟩
  exact ⟨h.1, h.2.1, h.2.2.2 hf.c0⟩
theorem Pre.known {c : Coding} (hf : CodingFine c) {p : Nat} {v es : List Int} (h : Pre c p v es) (hp : p < c.cols) : (c.root.2.lookup (keyOf p es)).isSome = true := by
  obtain ⟨_, r2, r3⟩ := root_law hf
  induction h with
  | nil => exact r3
  | @snoc p v es x h h1 h2 ih =>
    rcases r2.shut p es (by omega) (h.es hf (by omega)).1 (ih (by omega)) x h1.1 h1.2 h2 with h3 | h3
    · omega
    · exact h3
theorem goes_iff {c : Coding} (hf : CodingFine c) {p : Nat} {v es : List Int} (h : Pre c p v es) (hp : p ≤ c.cols) : c.goes c.root.2 p es = true ↔ ∃ w, Comp c p es w := by
  unfold Coding.goes
  by_cases hl : p = c.cols
  · rw [decide_eq_true hl, Bool.true_or]
    exact ⟨fun _ => ⟨[], by simpa using hl, fun x hx => (by cases hx), fun k hk => by simpa [errsAt] using h.few hf hp k hk⟩, fun _ => rfl⟩
  · rw [decide_eq_false hl, Bool.false_or]
    obtain ⟨n, hn⟩ := Option.isSome_iff_exists.1 (h.known hf (by omega))
    have := (root_law hf).2.1.ok p es n (by omega) (h.es hf hp).1 hn
    rw [hn]
    simp only [bne_iff_ne]
    exact this.some
theorem next_pre {c : Coding} (hf : CodingFine c) {p : Nat} {v es : List Int} (h : Pre c p v es) (hp : p < c.cols) {x : Int} (hx : 0 ≤ x ∧ x ≤ 9) : ((c.next p es x).2.2 && c.goes c.root.2 (p + 1) (c.next p es x).1.2) = true ↔ OkNext c p es x ∧ ∃ w, Comp c (p + 1) (esNext c p es x) w := by
  have he := (h.es hf (by omega)).1
  have h10 := hf.ok.c10
  rw [next_law hf.ok (by omega) he]
  by_cases ho : OkNext c p es x
  · rw [if_pos ho]
    show (true && c.goes c.root.2 (p + 1) (esNext c p es x)) = true ↔ _
    rw [Bool.true_and, goes_iff hf (.snoc h hx ho) (by omega)]
    exact ⟨fun h => ⟨ho, h⟩, fun h => h.2⟩
  · rw [if_neg ho]
    simp [ho]
theorem next_pre2 {c : Coding} (hf : CodingFine c) {p : Nat} {v es : List Int} (h : Pre c p v es) (hp : p < c.cols) {x : Int} (ho : (c.next p es x).2.2 = true) : (c.next p es x).1.2 = esNext c p es x := by
  have he := (h.es hf (by omega)).1
  have h10 := hf.ok.c10
  rw [next_law hf.ok (by omega) he] at ho ⊢
  by_cases ho2 : OkNext c p es x
  · rw [if_pos ho2]
  · rw [if_neg ho2] at ho; cases ho
theorem mem_stTo {c : Coding} (hf : CodingFine c) (hs : ∃ w, Comp c 0 e000 w) : ∀ p, p ≤ c.cols → ∀ es, es ∈ c.stTo c.root.2 p ↔ ∃ v, Pre c p v es ∧ ∃ w, Comp c p es w
  | 0, _, es => by
    unfold Coding.stTo
    rw [List.mem_singleton]
    constructor
    · rintro rfl; exact ⟨[], .nil, hs⟩
    · rintro ⟨v, h, _⟩
      cases h with
      | nil => rfl
  | p + 1, hp, es => by
    have ih := mem_stTo hf hs p (by omega)
    unfold Coding.stTo
    rw [List.mem_flatMap]
    constructor
    · rintro ⟨es0, h1, h2⟩
      obtain ⟨v, h3, w, h4⟩ := (ih es0).1 h1
      obtain ⟨code, h5, h6⟩ := List.mem_filterMap.1 h2
      rw [List.mem_range] at h5
      split at h6
      · rename_i hg
        have hx : (0 : Int) ≤ (code : Int) ∧ (code : Int) ≤ 9 := by omega
        obtain ⟨a, b⟩ := (next_pre hf h3 (by omega) hx).1 hg
        rw [Bool.and_eq_true] at hg
        rw [next_pre2 hf h3 (by omega) hg.1] at h6
        obtain rfl := Option.some.inj h6
        exact ⟨_, .snoc h3 hx a, b⟩
      · cases h6
    · rintro ⟨v, h, w, hw⟩
      generalize hm : p + 1 = m at h
      cases h with
      | nil => cases hm
      | @snoc p' v' es' x g1 g2 g3 =>
        have : p' = p := by omega
        subst this
        have hn := (next_pre hf g1 (by omega) g2).2 ⟨g3, w, hw⟩
        refine ⟨es', (ih es').2 ⟨v', g1, x :: w, (comp_cons hf.ok (by have := hf.ok.c10; omega) (g1.es hf (by omega)).1).2 ⟨g2, g3, hw⟩⟩, List.mem_filterMap.2 ⟨x.toNat, List.mem_range.2 (by omega), ?_⟩⟩
        have ex : ((x.toNat : Nat) : Int) = x := by omega
        rw [ex, if_pos hn]
        rw [Bool.and_eq_true] at hn
        rw [next_pre2 hf g1 (by omega) hn.1]
theorem canAt_iff {c : Coding} (hf : CodingFine c) (hs : ∃ w, Comp c 0 e000 w) {p : Nat} (hp : p < c.cols) {x : Nat} (hx : x < 10) : c.canAt c.root.2 p x = true ↔ ∃ u, Comp c 0 e000 u ∧ u.getD p 0 = (x : Int) := by
  unfold Coding.canAt
  rw [List.any_eq_true]
  have hx9 : (0 : Int) ≤ (x : Int) ∧ (x : Int) ≤ 9 := by omega
  have h10 := hf.ok.c10
  constructor
  · rintro ⟨es, h1, h2⟩
    obtain ⟨v, h3, _⟩ := (mem_stTo hf hs p (by omega) es).1 h1
    obtain ⟨a, w, b⟩ := (next_pre hf h3 hp hx9).1 h2
    obtain ⟨he, hv⟩ := h3.es hf (by omega)
    refine ⟨v ++ ((x : Int) :: w), (comp_split hf p v _ hv (by omega)).2 ⟨es, h3, (comp_cons hf.ok (by omega) he).2 ⟨hx9, a, b⟩⟩, ?_⟩
    rw [getD_app_r (by omega), hv, Nat.sub_self]; rfl
  · rintro ⟨u, h1, h2⟩
    have hl := h1.len
    have hu : u = u.take p ++ u.drop p := (List.take_append_drop p u).symm
    have hd : u.drop p = u.getD p 0 :: u.drop (p + 1) := drop_cons (by omega)
    have htl : (u.take p).length = p := by rw [List.length_take]; omega
    rw [hu, hd, h2] at h1
    obtain ⟨es, h3, h4⟩ := (comp_split hf p _ _ htl (by omega)).1 h1
    obtain ⟨_, a, b⟩ := (comp_cons hf.ok (by omega) (h3.es hf (by omega)).1).1 h4
    exact ⟨es, (mem_stTo hf hs p (by omega) es).2 ⟨_, h3, _, h4⟩, (next_pre hf h3 hp hx9).2 ⟨a, _, b⟩⟩
theorem ctried_iff {c : Coding} (hf : CodingFine c) : c.goes c.root.2 0 e000 = true ↔ ∃ w, Comp c 0 e000 w := goes_iff hf .nil (by omega)
theorem errors_law {c : Coding} (hf : CodingFine c) (hs : ∃ w, Comp c 0 e000 w) : ∃ w, Comp c 0 e000 w ∧ (c.root.2.lookup (keyOf 0 e000)).getD 0 = totAt c 0 w ∧ ∀ w', Comp c 0 e000 w' → totAt c 0 w ≤ totAt c 0 w' := by
  obtain ⟨_, r2, r3⟩ := root_law hf
  obtain ⟨n, hn⟩ := Option.isSome_iff_exists.1 r3
  rw [hn]
  rcases r2.ok 0 e000 n hf.c0 (es000 c) hn with ⟨_, h⟩ | ⟨w, h1, h2, h3⟩
  · obtain ⟨w, hw⟩ := hs; exact absurd hw (h w)
  · exact ⟨w, h1, h2, fun w' hw' => by have := h3 w' hw'; omega⟩
end Go.Proofs.YtcnkbdfkjhlbiaaDoor
namespace Go.Proofs.YtcnkbdfkjhlbiaaDoor
open Go.Sy
set_option maxRecDepth 8000
theorem getD_memI {l : List (List Int)} {i : Nat} (h : i < l.length) : l.getD i [] ∈ l := getD_mem h
theorem allI_getD {p : Int → Bool} {l : List Int} (h : ∀ j, j < l.length → p (l.getD j 0) = true) : l.all p = true := by
  rw [List.all_eq_true]
  intro x hx
  obtain ⟨j, hj, rfl⟩ := List.getElem_of_mem hx
  have := h j hj
  rwa [show l.getD j 0 = l[j] by simp [List.getD_eq_getElem?_getD, hj]] at this
def shortB (l : List (List Int)) : Bool := decide (l.length ≤ 13) && l.all fun x => decide (x.length ≤ 13)
theorem short_iff {l : List (List Int)} : shortB l = true ↔ l.length ≤ 13 ∧ ∀ x ∈ l, x.length ≤ 13 := by
  simp [shortB]
abbrev tysW31_35 := And.intro ty.sz0 <| And.intro ty.agg0 <| And.intro ty.elem0 <| And.intro ty.sz3 <| And.intro ty.agg3 <| And.intro ty.elem3 <| And.intro ty.zero3 <| And.intro ty.und3 <| And.intro ty.sz4 <| And.intro ty.agg4 <| And.intro ty.elem4 <| And.intro ty.zero4 <| And.intro ty.und4 <| And.intro ty.sz39 <| And.intro ty.agg39 <| And.intro ty.elem39 <| And.intro ty.by39 <| And.intro ty.ez39 <| And.intro ty.zero39 <| And.intro ty.und39 <| And.intro ty.sz43 <| And.intro ty.agg43 <| And.intro ty.elem43 <| And.intro ty.by43 <| And.intro ty.ez43 <| And.intro ty.zero43 <| ty.und43
theorem short_c (l : List (List Int)) : CallP Tryd.prog G0 35 [SL l] (B (shortB l)) := by
  refine CallP.body 23 [.tmp 2] Tryd.func35 (by kernel_rfl) rfl rfl rfl (by repeat' (first | exact Pure.d _ | exact Pure.dx _ | exact Pure.dp _ | exact fa_nil | refine fa_cons ?_ ?_ | refine Pure.agg ?_ | refine Pure.tup ?_ | refine Pure.clo ?_ ?_ | refine Pure.fp ?_ | exact Pure.mapd _ | assumption)) (by repeat' (first | exact Pure.d _ | exact Pure.dx _ | exact Pure.dp _ | exact fa_nil | refine fa_cons ?_ ?_ | refine Pure.agg ?_ | refine Pure.tup ?_ | refine Pure.clo ?_ ?_ | refine Pure.fp ?_ | exact Pure.mapd _ | assumption)) ?_
  refine Tr.reg [0] (by
      simp only [↓sxd, sxu, ↓zE, ↓exq, St.keep, Nat.reduceBEq, Nat.reduceLT]
      (repeat' (first | rfl | exact trivial | exact fun h => h | exact fun h => (by rw [h]; rfl) | apply And.intro | omega | exact Nat.le_of_ble_eq_true rfl))) ?_
  refine Tr.seq ?_
  refine Tr.reg [0, 3] (by
      simp only [↓sxd, sxu, ↓zE, ↓exq, St.keep, Nat.reduceBEq, Nat.reduceLT]
      (repeat' (first | rfl | exact trivial | exact fun h => h | exact fun h => (by rw [h]; rfl) | apply And.intro | omega | exact Nat.le_of_ble_eq_true rfl))) ?_
  refine Tr.imp (st' := ⟨[(0, SL l), (3, I 0)], [], 0, 23, [], 0⟩) (Imp.keepAll) (Tr.block (Tr.loopI (fun mm ss => ∃ (i : Nat), (i ≤ l.length ∧ i ≤ 14 ∧ ∀ j, j < i → (l.getD j []).length ≤ 13) ∧ l.length - i = mm ∧ ss = ⟨[(0, SL l), (3, I i)], [], 0, 23, [], 0⟩) _ ⟨0, ?_, rfl, rfl⟩ ?_))
  · exact ⟨Nat.zero_le _, by omega, fun j hj => absurd hj (Nat.not_lt_zero _)⟩
  rintro mm ss ⟨i, hI, rfl, rfl⟩
  obtain ⟨hI, hi14, hall⟩ := hI
  refine Tr.seq ?_
  refine Tr.reg [0, 3, 11] (by
      simp only [↓sxd, sxu, ↓zE, ↓exq, ↓zB, St.keep, ↓zJ, Nat.reduceBEq, Nat.reduceLT, sxe, tysW31_35]
      iterate 2
        (repeat ((with_reducible refine And.intro ?_ ?_); (focus (first | with_reducible rfl | trivial | exact fun h => h | exact fun h => (by rw [h]; rfl) | omega | assumption))))
        refine GdO.mk _ (fun hg => by simp only [↓sxd, sxu, ↓exq, Nat.reduceBEq, hg]; (repeat' (first | rfl | exact trivial | exact fun h => h | exact fun h => (by rw [h]; rfl) | apply And.intro | omega | exact Nat.le_of_ble_eq_true rfl))) ?_
        simp only [↓sxd, sxu, ↓zE, ↓exq, ↓zH, Nat.reduceBEq, Nat.reduceLT]
      (repeat' (first | rfl | exact trivial | exact fun h => h | exact fun h => (by rw [h]; rfl) | apply And.intro | omega | exact Nat.le_of_ble_eq_true rfl))) ?_
  refine Tr.cond rfl (fun h11 => ?_) (fun h11 => ?_)
  · have hlt : i < l.length := by simp at h11; omega
    have hi13 : i < 14 := by simp at h11; omega
    refine Tr.skip ?_
    refine Tr.seq ?_
    refine Tr.block ?_
    refine Tr.reg [0, 3, 19] (by
        simp only [↓sxd, sxu, ↓zE, ↓exq, ↓zB, St.keep, ↓zJ, ↓zD, Nat.reduceBEq, Nat.reduceLT, sxe, tysW31_35, hlt]
        (repeat' (first | rfl | exact trivial | exact fun h => h | exact fun h => (by rw [h]; rfl) | apply And.intro | omega | exact Nat.le_of_ble_eq_true rfl))) ?_
    refine Tr.cond rfl (fun h19 => ?_) (fun h19 => ?_)
    · have hgt : 13 < (l.getD i []).length := by have := of_decide_eq_true h19; omega
      have hf : shortB l = false := by
        rw [← Bool.not_eq_true, short_iff]
        exact fun h => absurd (h.2 _ (getD_memI hlt)) (by omega)
      rw [hf]
      refine Tr.reg [2] (by
          simp only [↓sxd, sxu, ↓zE, ↓exq, St.keep, Nat.reduceLT]
          (repeat' (first | rfl | exact trivial | exact fun h => h | exact fun h => (by rw [h]; rfl) | apply And.intro | omega | exact Nat.le_of_ble_eq_true rfl))) ?_
      refine Tr.ret ?_
      (refine ⟨.inr rfl, ?_⟩; first | rfl | exact ⟨rfl, rfl, trivial⟩ | exact ⟨rfl, rfl, rfl, trivial⟩ | (simp only [Res, ResL, ResOK, ↓sxd, sxu, ↓zE, ↓zC, zK, ↓exP, ↓exq, ↓zB, St.keep, ↓zH, ↓zL, ↓zJ, ↓zD, Nat.reduceBEq, Nat.reduceAdd, Nat.reduceLT, Nat.reduceMul, Nat.reduceSub, Nat.reduceLeDiff, Nat.reduceEqDiff, Int.reduceLE, Int.reduceLT, Int.reduceToNat, reduceIte, implies_true, sxe, tysW31_35]; (repeat' (first | rfl | exact trivial | exact fun h => h | exact fun h => (by rw [h]; rfl) | apply And.intro | omega | exact Nat.le_of_ble_eq_true rfl))))
    · have hle : (l.getD i []).length ≤ 13 := by have := of_decide_eq_false h19; omega
      refine Tr.skip ?_
      have w1 : IntKind.i64.wrap ((i : Int) + 1) = ((i + 1 : Nat) : Int) := by rw [wr (by omega) (by omega)]; rfl
      refine Tr.reg1 [0, 3] (by
          simp only [↓sxd, sxu, ↓zE, ↓exq, St.keep, Nat.reduceBEq, Nat.reduceLT, w1]
          (repeat' (first | rfl | exact trivial | exact fun h => h | exact fun h => (by rw [h]; rfl) | apply And.intro | omega | exact Nat.le_of_ble_eq_true rfl))) ?_
      exact ⟨_, _, by omega, Imp.keepAll, ⟨i + 1, ⟨hlt, by omega, fun j hj => by
        by_cases hji : j = i
        · subst hji; exact hle
        · exact hall j (by omega)⟩, rfl, rfl⟩⟩
  · have hend : i = l.length ∨ i = 14 := by simp at h11; omega
    have hfin : shortB l = decide ((l.length : Int) ≤ 13) := by
      rw [Bool.eq_iff_iff, short_iff, decide_eq_true_eq]
      refine ⟨fun h => by omega, fun h => ⟨by omega, fun x hx => ?_⟩⟩
      obtain ⟨j, hj, rfl⟩ := List.getElem_of_mem hx
      have := hall j (by omega)
      simpa [List.getD_eq_getElem?_getD, hj] using this
    rw [hfin]
    refine Tr.exit ?_
    refine Tr.reg [2] (by
        simp only [↓sxd, sxu, ↓zE, ↓exq, ↓zB, St.keep, ↓zJ, Nat.reduceLT, sxe, tysW31_35]
        (repeat' (first | rfl | exact trivial | exact fun h => h | exact fun h => (by rw [h]; rfl) | apply And.intro | omega | exact Nat.le_of_ble_eq_true rfl))) ?_
    refine Tr.ret ?_
    (refine ⟨.inr rfl, ?_⟩; first | rfl | exact ⟨rfl, rfl, trivial⟩ | exact ⟨rfl, rfl, rfl, trivial⟩ | (simp only [Res, ResL, ResOK, ↓sxd, sxu, ↓zE, ↓zC, zK, ↓exP, ↓exq, ↓zB, St.keep, ↓zH, ↓zL, ↓zJ, ↓zD, Nat.reduceBEq, Nat.reduceAdd, Nat.reduceLT, Nat.reduceMul, Nat.reduceSub, Nat.reduceLeDiff, Nat.reduceEqDiff, Int.reduceLE, Int.reduceLT, Int.reduceToNat, reduceIte, implies_true, sxe, tysW31_35]; (repeat' (first | rfl | exact trivial | exact fun h => h | exact fun h => (by rw [h]; rfl) | apply And.intro | omega | exact Nat.le_of_ble_eq_true rfl))))
theorem cfault_three {c : Coding} {k : Nat} (hk : k < c.codes.length) (h : 10 < (c.codes.getD k []).length) : c.check = 3 := by
  unfold Coding.check
  rw [if_pos]
  rw [Bool.or_eq_true]
  right
  rw [Bool.not_eq_true', ← Bool.not_eq_true, List.all_eq_true]
  intro hc
  have := hc _ (getD_memI hk)
  rw [decide_eq_true_eq] at this
  omega
theorem cfault_row {c : Coding} (h : ¬ (decide ((c.codes.length : Int) > 3) || !(c.codes.all fun l => decide ((l.length : Int) ≤ 10))) = true) {k : Nat} (hk : k < c.codes.length) (hr : c.row k = false ∨ c.cols = 0) : c.check = 1 := by
  unfold Coding.check
  rw [if_neg h]
  split
  · rfl
  · rename_i h2
    rcases hr with hr | hr
    · rw [all_upto hk hr]; rfl
    · exact absurd (.inr (.inr hr)) h2
abbrev tysW31_36 := And.intro ty.sz0 <| And.intro ty.agg0 <| And.intro ty.elem0 <| And.intro ty.sz3 <| And.intro ty.agg3 <| And.intro ty.elem3 <| And.intro ty.zero3 <| And.intro ty.und3 <| And.intro ty.sz4 <| And.intro ty.agg4 <| And.intro ty.elem4 <| And.intro ty.zero4 <| And.intro ty.und4 <| And.intro ty.sz39 <| And.intro ty.agg39 <| And.intro ty.elem39 <| And.intro ty.by39 <| And.intro ty.ez39 <| And.intro ty.zero39 <| And.intro ty.und39 <| And.intro ty.sz43 <| And.intro ty.agg43 <| And.intro ty.elem43 <| And.intro ty.by43 <| And.intro ty.ez43 <| And.intro ty.zero43 <| And.intro ty.und43 <| And.intro ty.sz55 <| And.intro ty.agg55 <| And.intro ty.fld55_0 <| And.intro ty.fld55_1 <| And.intro ty.elem55 <| And.intro ty.zero55 <| ty.pl55
theorem CodingFault_c (c : Coding) (hs : c.codes.length < 4611686018427387904) (hw : c.wrong.length < 4611686018427387904) (hl : ∀ x ∈ c.codes, x.length < 4611686018427387904) : CallP Tryd.prog G0 36 [c.s] (I c.check) := by
  refine CallP.body 94 [.tmp 2] Tryd.func36 (by kernel_rfl) rfl rfl rfl (by repeat' (first | exact Pure.d _ | exact Pure.dx _ | exact Pure.dp _ | exact fa_nil | refine fa_cons ?_ ?_ | refine Pure.agg ?_ | refine Pure.tup ?_ | refine Pure.clo ?_ ?_ | refine Pure.fp ?_ | exact Pure.mapd _ | assumption)) (by repeat' (first | exact Pure.d _ | exact Pure.dx _ | exact Pure.dp _ | exact fa_nil | refine fa_cons ?_ ?_ | refine Pure.agg ?_ | refine Pure.tup ?_ | refine Pure.clo ?_ ?_ | refine Pure.fp ?_ | exact Pure.mapd _ | assumption)) ?_
  refine Tr.reg [1] (by
      simp only [↓sxd, sxu, ↓zE, ↓exq, St.keep, ↓zI, Nat.reduceBEq, Nat.reduceAdd, Nat.reduceLT, Nat.reduceEqDiff]
      (repeat' (first | rfl | exact trivial | exact fun h => h | exact fun h => (by rw [h]; rfl) | apply And.intro | omega | exact Nat.le_of_ble_eq_true rfl))) ?_
  refine Tr.seq ?_
  refine Tr.reg [1, 9] (by
      simp only [↓sxd, sxu, ↓zE, ↓exq, ↓zB, St.keep, ↓zJ, ↓zD, ↓zA, Nat.reduceBEq, Nat.reduceAdd, Nat.reduceLT, Nat.reduceEqDiff, sxe, tysW31_36]
      (repeat' (first | rfl | exact trivial | exact fun h => h | exact fun h => (by rw [h]; rfl) | apply And.intro | omega | exact Nat.le_of_ble_eq_true rfl))) ?_
  refine Tr.cond rfl (fun h9 => ?_) (fun h9 => ?_)
  · have hck : c.check = 3 := by
      unfold Coding.check
      rw [if_pos (by rw [Bool.or_eq_true]; exact .inl h9)]
    rw [hck]
    refine Tr.reg [2] (by
        simp only [↓sxd, sxu, ↓zE, ↓exq, St.keep, Nat.reduceLT]
        (repeat' (first | rfl | exact trivial | exact fun h => h | exact fun h => (by rw [h]; rfl) | apply And.intro | omega | exact Nat.le_of_ble_eq_true rfl))) ?_
    refine Tr.ret ?_
    (refine ⟨.inr rfl, ?_⟩; first | rfl | exact ⟨rfl, rfl, trivial⟩ | exact ⟨rfl, rfl, rfl, trivial⟩ | (simp only [Res, ResL, ResOK, ↓sxd, sxu, ↓zE, ↓zC, zK, ↓exP, ↓exq, ↓zB, St.keep, ↓zH, ↓zL, ↓zJ, ↓zD, ↓zI, ↓zA, Nat.reduceBEq, Nat.reduceAdd, Nat.reduceLT, Nat.reduceMul, Nat.reduceSub, Nat.reduceLeDiff, Nat.reduceEqDiff, Int.reduceLE, Int.reduceLT, Int.reduceToNat, reduceIte, implies_true, sxe, tysW31_36]; (repeat' (first | rfl | exact trivial | exact fun h => h | exact fun h => (by rw [h]; rfl) | apply And.intro | omega | exact Nat.le_of_ble_eq_true rfl))))
  · have hn3 : c.codes.length ≤ 3 := by simp at h9; omega
    refine Tr.skip ?_
    refine Tr.seq ?_
    refine Tr.reg [1, 3] (by
        simp only [↓sxd, sxu, ↓zE, ↓exq, St.keep, Nat.reduceBEq, Nat.reduceLT]
        (repeat' (first | rfl | exact trivial | exact fun h => h | exact fun h => (by rw [h]; rfl) | apply And.intro | omega | exact Nat.le_of_ble_eq_true rfl))) ?_
    refine Tr.imp (st' := ⟨[(1, .ptr 0 0 0), (3, I 0)], [(0, .arr 2 [[SL c.codes, SI c.wrong]])], 1, 94, [], 0⟩) (Imp.keepAll) (Tr.block (Tr.loopI (fun mm ss => ∃ (k : Nat), (k ≤ c.codes.length ∧ ∀ j, j < k → (c.codes.getD j []).length ≤ 10) ∧ c.codes.length - k = mm ∧ ss = ⟨[(1, .ptr 0 0 0), (3, I k)], [(0, .arr 2 [[SL c.codes, SI c.wrong]])], 1, 94, [], 0⟩) _ ⟨0, ?_, rfl, rfl⟩ ?_))
    · exact ⟨Nat.zero_le _, fun j hj => absurd hj (Nat.not_lt_zero _)⟩
    rintro mm ss ⟨k, hI, rfl, rfl⟩
    obtain ⟨hI, hall⟩ := hI
    refine Tr.seq ?_
    refine Tr.reg [1, 3, 14] (by
        simp only [↓sxd, sxu, ↓zE, ↓exq, ↓zB, St.keep, ↓zJ, ↓zD, ↓zA, Nat.reduceBEq, Nat.reduceAdd, Nat.reduceLT, Nat.reduceEqDiff, sxe, tysW31_36]
        (repeat' (first | rfl | exact trivial | exact fun h => h | exact fun h => (by rw [h]; rfl) | apply And.intro | omega | exact Nat.le_of_ble_eq_true rfl))) ?_
    refine Tr.cond rfl (fun h14 => ?_) (fun h14 => ?_)
    · have hlt : k < c.codes.length := by simpa using h14
      refine Tr.skip ?_
      refine Tr.seq ?_
      refine Tr.block ?_
      refine Tr.reg [1, 3, 23] (by
          simp only [↓sxd, sxu, ↓zE, ↓exq, ↓zB, St.keep, ↓zJ, ↓zD, ↓zA, Nat.reduceBEq, Nat.reduceAdd, Nat.reduceLT, Nat.reduceEqDiff, sxe, tysW31_36, hlt]
          (repeat' (first | rfl | exact trivial | exact fun h => h | exact fun h => (by rw [h]; rfl) | apply And.intro | omega | exact Nat.le_of_ble_eq_true rfl))) ?_
      refine Tr.cond rfl (fun h23 => ?_) (fun h23 => ?_)
      · have hck : c.check = 3 := cfault_three hlt (by have := of_decide_eq_true h23; omega)
        rw [hck]
        refine Tr.reg [2] (by
            simp only [↓sxd, sxu, ↓zE, ↓exq, St.keep, Nat.reduceLT]
            (repeat' (first | rfl | exact trivial | exact fun h => h | exact fun h => (by rw [h]; rfl) | apply And.intro | omega | exact Nat.le_of_ble_eq_true rfl))) ?_
        refine Tr.ret ?_
        (refine ⟨.inr rfl, ?_⟩; first | rfl | exact ⟨rfl, rfl, trivial⟩ | exact ⟨rfl, rfl, rfl, trivial⟩ | (simp only [Res, ResL, ResOK, ↓sxd, sxu, ↓zE, ↓zC, zK, ↓exP, ↓exq, ↓zB, St.keep, ↓zH, ↓zL, ↓zJ, ↓zD, ↓zI, ↓zA, Nat.reduceBEq, Nat.reduceAdd, Nat.reduceLT, Nat.reduceMul, Nat.reduceSub, Nat.reduceLeDiff, Nat.reduceEqDiff, Int.reduceLE, Int.reduceLT, Int.reduceToNat, reduceIte, implies_true, sxe, tysW31_36]; (repeat' (first | rfl | exact trivial | exact fun h => h | exact fun h => (by rw [h]; rfl) | apply And.intro | omega | exact Nat.le_of_ble_eq_true rfl))))
      · have hle : (c.codes.getD k []).length ≤ 10 := by have := of_decide_eq_false h23; omega
        refine Tr.skip ?_
        have w1 : IntKind.i64.wrap ((k : Int) + 1) = ((k + 1 : Nat) : Int) := by rw [wr (by omega) (by omega)]; rfl
        refine Tr.reg1 [1, 3] (by
            simp only [↓sxd, sxu, ↓zE, ↓exq, St.keep, Nat.reduceBEq, Nat.reduceLT, w1]
            (repeat' (first | rfl | exact trivial | exact fun h => h | exact fun h => (by rw [h]; rfl) | apply And.intro | omega | exact Nat.le_of_ble_eq_true rfl))) ?_
        exact ⟨_, _, by omega, Imp.keepAll, ⟨k + 1, ⟨hlt, fun j hj => by
          by_cases hji : j = k
          · subst hji; exact hle
          · exact hall j (by omega)⟩, rfl, rfl⟩⟩
    · have hge : k = c.codes.length := by simp at h14; omega
      have hz : ¬ (decide ((c.codes.length : Int) > 3) || !(c.codes.all fun l => decide ((l.length : Int) ≤ 10))) = true := by
        rw [Bool.or_eq_true, not_or]
        refine ⟨fun hc => by have := of_decide_eq_true hc; omega, ?_⟩
        rw [Bool.not_eq_true', Bool.not_eq_false, List.all_eq_true]
        intro x hx
        obtain ⟨j, hj, rfl⟩ := List.getElem_of_mem hx
        have := hall j (by omega)
        rw [decide_eq_true_eq]
        have e : c.codes.getD j [] = c.codes[j] := by simp [List.getD_eq_getElem?_getD, hj]
        rw [e] at this; omega
      refine Tr.exit ?_
      refine Tr.seq ?_
      refine Tr.reg [1, 36] (by
          simp only [↓sxd, sxu, ↓zE, ↓exq, ↓zB, St.keep, ↓zJ, ↓zD, ↓zA, Nat.reduceAdd, Nat.reduceLT, Nat.reduceEqDiff, sxe, tysW31_36]
          iterate 7
            (repeat ((with_reducible refine And.intro ?_ ?_); (focus (first | with_reducible rfl | trivial | exact fun h => h | exact fun h => (by rw [h]; rfl) | omega | assumption))))
            refine GdO.mk _ (fun hg => by simp only [↓sxd, sxu, ↓exq, ↓zB, ↓zJ, ↓zD, ↓zA, Nat.reduceBEq, Nat.reduceAdd, Nat.reduceLT, Nat.reduceEqDiff, sxe, tysW31_36, hg]; (repeat' (first | rfl | exact trivial | exact fun h => h | exact fun h => (by rw [h]; rfl) | apply And.intro | omega | exact Nat.le_of_ble_eq_true rfl))) ?_
            simp only [↓sxd, sxu, ↓zE, ↓exq, ↓zH, Nat.reduceBEq, Nat.reduceLT]
          (repeat' (first | rfl | exact trivial | exact fun h => h | exact fun h => (by rw [h]; rfl) | apply And.intro | omega | exact Nat.le_of_ble_eq_true rfl))) ?_
      refine Tr.cond rfl (fun h36 => ?_) (fun h36 => ?_)
      · have hck : c.check = 1 := by
          unfold Coding.check
          rw [if_neg hz, if_pos]
          simp only [Bool.or_eq_true, beq_iff_eq, bne_iff_ne, ne_eq] at h36
          omega
        rw [hck]
        refine Tr.reg [2] (by
            simp only [↓sxd, sxu, ↓zE, ↓exq, St.keep, Nat.reduceLT]
            (repeat' (first | rfl | exact trivial | exact fun h => h | exact fun h => (by rw [h]; rfl) | apply And.intro | omega | exact Nat.le_of_ble_eq_true rfl))) ?_
        refine Tr.ret ?_
        (refine ⟨.inr rfl, ?_⟩; first | rfl | exact ⟨rfl, rfl, trivial⟩ | exact ⟨rfl, rfl, rfl, trivial⟩ | (simp only [Res, ResL, ResOK, ↓sxd, sxu, ↓zE, ↓zC, zK, ↓exP, ↓exq, ↓zB, St.keep, ↓zH, ↓zL, ↓zJ, ↓zD, ↓zI, ↓zA, Nat.reduceBEq, Nat.reduceAdd, Nat.reduceLT, Nat.reduceMul, Nat.reduceSub, Nat.reduceLeDiff, Nat.reduceEqDiff, Int.reduceLE, Int.reduceLT, Int.reduceToNat, reduceIte, implies_true, sxe, tysW31_36]; (repeat' (first | rfl | exact trivial | exact fun h => h | exact fun h => (by rw [h]; rfl) | apply And.intro | omega | exact Nat.le_of_ble_eq_true rfl))))
      · have hn0 : c.codes.length ≠ 0 ∧ c.wrong.length = c.codes.length := by
          simp only [Bool.or_eq_false_iff, beq_eq_false_iff_ne, bne_eq_false_iff_eq, ne_eq] at h36
          omega
        have h0 : 0 < c.codes.length := by omega
        have hwl := hn0.2
        refine Tr.skip ?_
        refine Tr.seq ?_
        refine Tr.reg [1, 4] (by
            simp only [↓sxd, sxu, ↓zE, ↓exq, St.keep, Nat.reduceBEq, Nat.reduceLT]
            (repeat' (first | rfl | exact trivial | exact fun h => h | exact fun h => (by rw [h]; rfl) | apply And.intro | omega | exact Nat.le_of_ble_eq_true rfl))) ?_
        refine Tr.imp (st' := ⟨[(1, .ptr 0 0 0), (4, I 0)], [(0, .arr 2 [[SL c.codes, SI c.wrong]])], 1, 94, [], 0⟩) (Imp.keepAll) (Tr.block (Tr.loopI (fun mm ss => ∃ (k : Nat), (k ≤ c.codes.length ∧ ∀ j, j < k → c.row j = true ∧ c.cols ≠ 0) ∧ c.codes.length - k = mm ∧ ss = ⟨[(1, .ptr 0 0 0), (4, I k)], [(0, .arr 2 [[SL c.codes, SI c.wrong]])], 1, 94, [], 0⟩) _ ⟨0, ?_, rfl, rfl⟩ ?_))
        · exact ⟨Nat.zero_le _, fun j hj => absurd hj (Nat.not_lt_zero _)⟩
        rintro mm ss ⟨k, hI, rfl, rfl⟩
        obtain ⟨hI2, hrows⟩ := hI
        refine Tr.seq ?_
        refine Tr.reg [1, 4, 41] (by
            simp only [↓sxd, sxu, ↓zE, ↓exq, ↓zB, St.keep, ↓zJ, ↓zD, ↓zA, Nat.reduceBEq, Nat.reduceAdd, Nat.reduceLT, Nat.reduceEqDiff, sxe, tysW31_36]
            (repeat' (first | rfl | exact trivial | exact fun h => h | exact fun h => (by rw [h]; rfl) | apply And.intro | omega | exact Nat.le_of_ble_eq_true rfl))) ?_
        refine Tr.cond rfl (fun h41 => ?_) (fun h41 => ?_)
        · have hlt2 : k < c.codes.length := by simpa using h41
          have hlw : k < c.wrong.length := by omega
          have hll := hl _ (getD_memI hlt2)
          refine Tr.skip ?_
          refine Tr.seq ?_
          refine Tr.block ?_
          refine Tr.seq ?_
          refine Tr.regD [0, 1, 2, 3, 4, 5, 6, 7, 8, 9, 10, 11, 12, 13, 14, 15, 16, 17, 18, 19, 20, 21, 22, 23, 24, 25, 26, 27, 28, 29] [] [] [1, 4, 73] mix (by kernel_rfl) (by
              simp only [↓sxd, sxu, ↓zC, zK, ↓exq, ↓zB, St.keep, ↓zJ, ↓zD, ↓zA, Nat.reduceBEq, Nat.reduceAdd, Nat.reduceLT, Nat.reduceEqDiff, sxe, tysW31_36, hlt2]
              iterate 17
                (repeat ((with_reducible refine And.intro ?_ ?_); (focus (first | with_reducible rfl | trivial | exact fun h => h | exact fun h => (by rw [h]; rfl) | omega | assumption))))
                refine GdD.mk _ (fun hg => by simp only [↓sxd, sxu, ↓exP, ↓exq, ↓zB, ↓zJ, ↓zD, ↓zA, Nat.reduceBEq, Nat.reduceAdd, Nat.reduceLT, Nat.reduceEqDiff, Int.reduceLE, sxe, tysW31_36, hlt2, hlw, h0, hg]; (repeat' (first | rfl | exact trivial | exact fun h => h | exact fun h => (by rw [h]; rfl) | apply And.intro | omega | exact Nat.le_of_ble_eq_true rfl))) ?_
                simp only [↓sxd, sxu, ↓zC, zK, ↓exq, ↓zH, Nat.reduceBEq, Nat.reduceLT]
              (repeat ((with_reducible refine And.intro ?_ ?_); (focus (first | with_reducible rfl | trivial | exact fun h => h | exact fun h => (by rw [h]; rfl) | omega | assumption))))
              refine GdD.mk _ (fun hg => by simp only [sxu, ↓exP, hg]; first | exact In_c _ _ _ _ | exact ⟨In_c _ _ _ _, rfl, rfl⟩ | exact ⟨In_c _ _ _ _, trivial⟩ | exact ⟨In_c _ _ _ _, trivial, trivial⟩) ?_
              simp only [↓sxd, sxu, ↓zC, zK, Nat.reduceBEq, Nat.reduceLT]
              (repeat ((with_reducible refine And.intro ?_ ?_); (focus (first | with_reducible rfl | trivial | exact fun h => h | exact fun h => (by rw [h]; rfl) | omega | assumption))))
              refine GdD.mk _ (fun hg => by simp only [sxu, ↓exP, ↓exq, ↓zL, hg]; (repeat' (first | rfl | exact trivial | exact fun h => h | exact fun h => (by rw [h]; rfl) | apply And.intro | omega | exact Nat.le_of_ble_eq_true rfl))) ?_
              simp only [↓sxd, sxu, ↓zC, ↓exq, ↓zH, Nat.reduceBEq, Nat.reduceLT]
              (repeat' (first | rfl | exact trivial | exact fun h => h | exact fun h => (by rw [h]; rfl) | apply And.intro | omega | exact Nat.le_of_ble_eq_true rfl))) ?_
          refine Tr.cond rfl (fun h73 => ?_) (fun h73 => ?_)
          · have hck : c.check = 1 := cfault_row hz hlt2 (by
              have hh : _ := h73
              simp only [Bool.or_eq_true, beq_iff_eq, bne_iff_ne, ne_eq, Bool.not_eq_true'] at hh
              rcases hh with (hh | hh) | hh
              · by_cases hc0 : c.cols = 0
                · exact .inr hc0
                · left; unfold Coding.row; rw [decide_eq_false (by omega)]; rfl
              · left; unfold Coding.row Coding.cols; rw [decide_eq_false (by omega)]; rfl
              · left
                unfold Coding.row within
                rw [show (decide (0 ≤ c.wrong.getD k 0) && decide (c.wrong.getD k 0 ≤ 10)) = false from hh]
                simp)
            rw [hck]
            refine Tr.reg [2] (by
                simp only [↓sxd, sxu, ↓zE, ↓exq, St.keep, Nat.reduceLT]
                (repeat' (first | rfl | exact trivial | exact fun h => h | exact fun h => (by rw [h]; rfl) | apply And.intro | omega | exact Nat.le_of_ble_eq_true rfl))) ?_
            refine Tr.ret ?_
            (refine ⟨.inr rfl, ?_⟩; first | rfl | exact ⟨rfl, rfl, trivial⟩ | exact ⟨rfl, rfl, rfl, trivial⟩ | (simp only [Res, ResL, ResOK, ↓sxd, sxu, ↓zE, ↓zC, zK, ↓exP, ↓exq, ↓zB, St.keep, ↓zH, ↓zL, ↓zJ, ↓zD, ↓zI, ↓zA, Nat.reduceBEq, Nat.reduceAdd, Nat.reduceLT, Nat.reduceMul, Nat.reduceSub, Nat.reduceLeDiff, Nat.reduceEqDiff, Int.reduceLE, Int.reduceLT, Int.reduceToNat, reduceIte, implies_true, sxe, tysW31_36]; (repeat' (first | rfl | exact trivial | exact fun h => h | exact fun h => (by rw [h]; rfl) | apply And.intro | omega | exact Nat.le_of_ble_eq_true rfl))))
          · skip
            refine Tr.skip ?_
            refine Tr.reg [1, 4, 5] (by
                simp only [↓sxd, sxu, ↓zE, ↓exq, St.keep, Nat.reduceBEq, Nat.reduceLT]
                (repeat' (first | rfl | exact trivial | exact fun h => h | exact fun h => (by rw [h]; rfl) | apply And.intro | omega | exact Nat.le_of_ble_eq_true rfl))) ?_
            refine Tr.imp (st' := ⟨[(1, .ptr 0 0 0), (4, I k), (5, I 0)], [(0, .arr 2 [[SL c.codes, SI c.wrong]])], 1, 94, [], 0⟩) (Imp.keepAll) (Tr.block (Tr.loopI (fun mm ss => ∃ (i : Nat), (i ≤ (c.codes.getD k []).length ∧ ∀ j, j < i → isCode ((c.codes.getD k []).getD j 0) = true) ∧ (c.codes.getD k []).length - i = mm ∧ ss = ⟨[(1, .ptr 0 0 0), (4, I k), (5, I i)], [(0, .arr 2 [[SL c.codes, SI c.wrong]])], 1, 94, [], 0⟩) _ ⟨0, ?_, rfl, rfl⟩ ?_))
            · exact ⟨Nat.zero_le _, fun j hj => absurd hj (Nat.not_lt_zero _)⟩
            rintro mm ss ⟨i, hI, rfl, rfl⟩
            obtain ⟨hI3, hcd⟩ := hI
            refine Tr.seq ?_
            refine Tr.reg [1, 4, 5, 81] (by
                simp only [↓sxd, sxu, ↓zE, ↓exq, ↓zB, St.keep, ↓zJ, ↓zD, ↓zA, Nat.reduceBEq, Nat.reduceAdd, Nat.reduceLT, Nat.reduceEqDiff, sxe, tysW31_36, hlt2]
                (repeat' (first | rfl | exact trivial | exact fun h => h | exact fun h => (by rw [h]; rfl) | apply And.intro | omega | exact Nat.le_of_ble_eq_true rfl))) ?_
            refine Tr.cond rfl (fun h81 => ?_) (fun h81 => ?_)
            · have hlt3 : i < (c.codes.getD k []).length := by have := of_decide_eq_true h81; omega
              refine Tr.skip ?_
              refine Tr.seq ?_
              refine Tr.block ?_
              refine Tr.reg [1, 4, 5, 93] (by
                  simp only [↓sxd, sxu, ↓zE, ↓exq, St.keep, ↓zD, ↓zA, Nat.reduceBEq, Nat.reduceAdd, Nat.reduceLT, Nat.reduceEqDiff, sxe, tysW31_36, hlt2, hlt3]
                  (repeat ((with_reducible refine And.intro ?_ ?_); (focus (first | with_reducible rfl | trivial | exact fun h => h | exact fun h => (by rw [h]; rfl) | omega | assumption))))
                  refine CallO.use (In_c _ _ _ _) ?_
                  try simp only [↓sxd, sxu, ↓zE, ↓exq, ↓zL, Nat.reduceBEq, Nat.reduceLT]
                  (repeat' (first | rfl | exact trivial | exact fun h => h | exact fun h => (by rw [h]; rfl) | apply And.intro | omega | exact Nat.le_of_ble_eq_true rfl))) ?_
              refine Tr.cond rfl (fun h93 => ?_) (fun h93 => ?_)
              · have hck : c.check = 1 := cfault_row hz hlt2 (.inl (by
                  have hh : isCode ((c.codes.getD k []).getD i 0) = false := by simpa only [isCode, ge_iff_le, Bool.not_eq_true'] using h93
                  unfold Coding.row
                  have : (c.codes.getD k []).all isCode = false := by
                    rw [← Bool.not_eq_true, List.all_eq_true]
                    intro hc
                    rw [hc _ (getD_mem hlt3)] at hh; cases hh
                  rw [this]; simp))
                rw [hck]
                refine Tr.reg [2] (by
                    simp only [↓sxd, sxu, ↓zE, ↓exq, St.keep, Nat.reduceLT]
                    (repeat' (first | rfl | exact trivial | exact fun h => h | exact fun h => (by rw [h]; rfl) | apply And.intro | omega | exact Nat.le_of_ble_eq_true rfl))) ?_
                refine Tr.ret ?_
                (refine ⟨.inr rfl, ?_⟩; first | rfl | exact ⟨rfl, rfl, trivial⟩ | exact ⟨rfl, rfl, rfl, trivial⟩ | (simp only [Res, ResL, ResOK, ↓sxd, sxu, ↓zE, ↓zC, zK, ↓exP, ↓exq, ↓zB, St.keep, ↓zH, ↓zL, ↓zJ, ↓zD, ↓zI, ↓zA, Nat.reduceBEq, Nat.reduceAdd, Nat.reduceLT, Nat.reduceMul, Nat.reduceSub, Nat.reduceLeDiff, Nat.reduceEqDiff, Int.reduceLE, Int.reduceLT, Int.reduceToNat, reduceIte, implies_true, sxe, tysW31_36]; (repeat' (first | rfl | exact trivial | exact fun h => h | exact fun h => (by rw [h]; rfl) | apply And.intro | omega | exact Nat.le_of_ble_eq_true rfl))))
              · have hcode : isCode ((c.codes.getD k []).getD i 0) = true := by simpa only [isCode, ge_iff_le, Bool.not_eq_false'] using h93
                refine Tr.skip ?_
                have w2 : IntKind.i64.wrap ((i : Int) + 1) = ((i + 1 : Nat) : Int) := by rw [wr (by omega) (by omega)]; rfl
                refine Tr.reg1 [1, 4, 5] (by
                    simp only [↓sxd, sxu, ↓zE, ↓exq, St.keep, Nat.reduceBEq, Nat.reduceLT, w2]
                    (repeat' (first | rfl | exact trivial | exact fun h => h | exact fun h => (by rw [h]; rfl) | apply And.intro | omega | exact Nat.le_of_ble_eq_true rfl))) ?_
                exact ⟨_, _, by omega, Imp.keepAll, ⟨i + 1, ⟨hlt3, fun j hj => by
                  by_cases hji : j = i
                  · subst hji; exact hcode
                  · exact hcd j (by omega)⟩, rfl, rfl⟩⟩
            · have hge3 : i = (c.codes.getD k []).length := by have := of_decide_eq_false h81; omega
              have hrow : c.row k = true ∧ c.cols ≠ 0 := by
                have hh : _ := h73
                simp only [Bool.or_eq_false_iff, beq_eq_false_iff_ne, bne_eq_false_iff_eq, ne_eq, Bool.not_eq_false'] at hh
                refine ⟨?_, ?_⟩
                · unfold Coding.row Coding.cols within
                  rw [Bool.and_eq_true, Bool.and_eq_true, decide_eq_true_eq]
                  exact ⟨⟨by omega, allI_getD fun j hj => hcd j (by omega)⟩, hh.2⟩
                · unfold Coding.cols; omega
              refine Tr.exit ?_
              have w3 : IntKind.i64.wrap ((k : Int) + 1) = ((k + 1 : Nat) : Int) := by rw [wr (by omega) (by omega)]; rfl
              refine Tr.reg1 [1, 4] (by
                  simp only [↓sxd, sxu, ↓zE, ↓exq, St.keep, Nat.reduceBEq, Nat.reduceLT, w3]
                  (repeat' (first | rfl | exact trivial | exact fun h => h | exact fun h => (by rw [h]; rfl) | apply And.intro | omega | exact Nat.le_of_ble_eq_true rfl))) ?_
              exact ⟨_, _, by omega, Imp.keepAll, ⟨k + 1, ⟨hlt2, fun j hj => by
                by_cases hji : j = k
                · subst hji; exact hrow
                · exact hrows j (by omega)⟩, rfl, rfl⟩⟩
        · have hge2 : k = c.codes.length := by simp at h41; omega
          have hck : c.check = 0 := by
            unfold Coding.check
            rw [if_neg hz, if_neg, if_pos]
            · rw [List.all_eq_true]
              intro j hj
              exact (hrows j (by rw [hge2]; exact List.mem_range.1 hj)).1
            · have := (hrows 0 (by omega)).2
              omega
          rw [hck]
          refine Tr.exit ?_
          refine Tr.reg [2] (by
              simp only [↓sxd, sxu, ↓zE, ↓exq, St.keep, Nat.reduceLT]
              (repeat' (first | rfl | exact trivial | exact fun h => h | exact fun h => (by rw [h]; rfl) | apply And.intro | omega | exact Nat.le_of_ble_eq_true rfl))) ?_
          refine Tr.ret ?_
          (refine ⟨.inr rfl, ?_⟩; first | rfl | exact ⟨rfl, rfl, trivial⟩ | exact ⟨rfl, rfl, rfl, trivial⟩ | (simp only [Res, ResL, ResOK, ↓sxd, sxu, ↓zE, ↓zC, zK, ↓exP, ↓exq, ↓zB, St.keep, ↓zH, ↓zL, ↓zJ, ↓zD, ↓zI, ↓zA, Nat.reduceBEq, Nat.reduceAdd, Nat.reduceLT, Nat.reduceMul, Nat.reduceSub, Nat.reduceLeDiff, Nat.reduceEqDiff, Int.reduceLE, Int.reduceLT, Int.reduceToNat, reduceIte, implies_true, sxe, tysW31_36]; (repeat' (first | rfl | exact trivial | exact fun h => h | exact fun h => (by rw [h]; rfl) | apply And.intro | omega | exact Nat.le_of_ble_eq_true rfl))))
theorem errsAt_snoc (c : Coding) (k : Nat) (x : Int) : ∀ (u : List Int) (p : Nat), errsAt c k p (u ++ [x]) = errsAt c k p u + off c k (p + u.length) x
  | [], p => by simp [errsAt]
  | y :: u, p => by
    simp only [List.cons_append, errsAt, errsAt_snoc c k x u (p + 1), List.length_cons]
    rw [show p + 1 + u.length = p + (u.length + 1) by omega]; omega
theorem errsAt_take {c : Coding} {k i : Nat} {v : List Int} (h : i < v.length) : errsAt c k 0 (v.take (i + 1)) = errsAt c k 0 (v.take i) + off c k i (v.getD i 0) := by
  rw [List.take_succ_eq_append_getElem h, errsAt_snoc, List.length_take, Nat.min_eq_left (by omega), Nat.zero_add]
  simp [List.getD_eq_getElem?_getD, h]
theorem errsAt_le (c : Coding) (k : Nat) : ∀ (u : List Int) (p : Nat), errsAt c k p u ≤ u.length
  | [], p => Nat.le_refl _
  | y :: u, p => by
    have := off_le c k p y
    have := errsAt_le c k u (p + 1)
    simp only [errsAt, List.length_cons]; omega
abbrev tysW31_76 := And.intro ty.sz0 <| And.intro ty.agg0 <| And.intro ty.elem0 <| And.intro ty.sz3 <| And.intro ty.agg3 <| And.intro ty.elem3 <| And.intro ty.zero3 <| And.intro ty.und3 <| And.intro ty.sz4 <| And.intro ty.agg4 <| And.intro ty.elem4 <| And.intro ty.zero4 <| And.intro ty.und4 <| And.intro ty.sz39 <| And.intro ty.agg39 <| And.intro ty.elem39 <| And.intro ty.by39 <| And.intro ty.ez39 <| And.intro ty.zero39 <| And.intro ty.und39 <| And.intro ty.sz43 <| And.intro ty.agg43 <| And.intro ty.elem43 <| And.intro ty.by43 <| And.intro ty.ez43 <| And.intro ty.zero43 <| And.intro ty.und43 <| And.intro ty.sz55 <| And.intro ty.agg55 <| And.intro ty.fld55_0 <| And.intro ty.fld55_1 <| And.intro ty.elem55 <| And.intro ty.zero55 <| ty.pl55
theorem RErrors_c (c : Coding) (k : Nat) (v : List Int) (hk : k < c.codes.length) (hv : v.length ≤ (c.codes.getD k []).length) (hl : v.length ≤ 1000) : CallP Tryd.prog G0 76 [c.s, I k, SI v] (I (errsAt c k 0 v : Nat)) := by
  refine CallP.body 31 [.tmp 6] Tryd.func76 (by kernel_rfl) rfl rfl rfl (by repeat' (first | exact Pure.d _ | exact Pure.dx _ | exact Pure.dp _ | exact fa_nil | refine fa_cons ?_ ?_ | refine Pure.agg ?_ | refine Pure.tup ?_ | refine Pure.clo ?_ ?_ | refine Pure.fp ?_ | exact Pure.mapd _ | assumption)) (by repeat' (first | exact Pure.d _ | exact Pure.dx _ | exact Pure.dp _ | exact fa_nil | refine fa_cons ?_ ?_ | refine Pure.agg ?_ | refine Pure.tup ?_ | refine Pure.clo ?_ ?_ | refine Pure.fp ?_ | exact Pure.mapd _ | assumption)) ?_
  refine Tr.reg [1, 2, 3] (by
      simp only [↓sxd, sxu, ↓zE, ↓exq, St.keep, ↓zI, Nat.reduceBEq, Nat.reduceAdd, Nat.reduceLT, Nat.reduceEqDiff]
      (repeat' (first | rfl | exact trivial | exact fun h => h | exact fun h => (by rw [h]; rfl) | apply And.intro | omega | exact Nat.le_of_ble_eq_true rfl))) ?_
  refine Tr.reg [1, 2, 3, 7] (by
      simp only [↓sxd, sxu, ↓zE, ↓exq, St.keep, Nat.reduceBEq, Nat.reduceLT]
      (repeat' (first | rfl | exact trivial | exact fun h => h | exact fun h => (by rw [h]; rfl) | apply And.intro | omega | exact Nat.le_of_ble_eq_true rfl))) ?_
  refine Tr.seq ?_
  refine Tr.reg [1, 2, 3, 7, 8] (by
      simp only [↓sxd, sxu, ↓zE, ↓exq, St.keep, Nat.reduceBEq, Nat.reduceLT]
      (repeat' (first | rfl | exact trivial | exact fun h => h | exact fun h => (by rw [h]; rfl) | apply And.intro | omega | exact Nat.le_of_ble_eq_true rfl))) ?_
  refine Tr.imp (st' := ⟨[(1, I k), (2, SI v), (3, .ptr 0 0 0), (7, I (errsAt c k 0 (v.take 0) : Nat)), (8, I 0)], [(0, .arr 2 [[SL c.codes, SI c.wrong]])], 1, 31, [], 0⟩) (Imp.keepAll) (Tr.block (Tr.loopI (fun mm ss => ∃ (i : Nat), (i ≤ v.length) ∧ v.length - i = mm ∧ ss = ⟨[(1, I k), (2, SI v), (3, .ptr 0 0 0), (7, I (errsAt c k 0 (v.take i) : Nat)), (8, I i)], [(0, .arr 2 [[SL c.codes, SI c.wrong]])], 1, 31, [], 0⟩) _ ⟨0, ?_, rfl, rfl⟩ ?_))
  · (repeat' (first | rfl | exact trivial | exact fun h => h | exact fun h => (by rw [h]; rfl) | apply And.intro | omega | exact Nat.le_of_ble_eq_true rfl))
  rintro mm ss ⟨i, hI, rfl, rfl⟩
  refine Tr.seq ?_
  refine Tr.reg [1, 2, 3, 7, 8, 12] (by
      simp only [↓sxd, sxu, ↓zE, ↓exq, ↓zB, St.keep, ↓zJ, Nat.reduceBEq, Nat.reduceLT, sxe, tysW31_76]
      (repeat' (first | rfl | exact trivial | exact fun h => h | exact fun h => (by rw [h]; rfl) | apply And.intro | omega | exact Nat.le_of_ble_eq_true rfl))) ?_
  refine Tr.cond rfl (fun h12 => ?_) (fun h12 => ?_)
  · have hlt : i < v.length := by simpa using h12
    have hlc : i < (c.codes.getD k []).length := by omega
    have hle := errsAt_le c k (v.take i) 0
    have hle2 : (v.take i).length ≤ 1000 := by rw [List.length_take]; omega
    have htk := errsAt_take (c := c) (k := k) hlt
    refine Tr.skip ?_
    refine Tr.seq ?_
    refine Tr.block ?_
    refine Tr.regD [0, 1, 2, 3, 4, 5, 6, 7, 8, 9, 10, 11, 12] [] [] [1, 2, 3, 7, 8, 27] mix (by kernel_rfl) (by
        simp only [↓sxd, sxu, ↓zC, zK, ↓exq, St.keep, ↓zD, ↓zA, Nat.reduceBEq, Nat.reduceAdd, Nat.reduceLT, Nat.reduceEqDiff, sxe, tysW31_76, hk, hlt, hlc]
        (repeat' (first | rfl | exact trivial | exact fun h => h | exact fun h => (by rw [h]; rfl) | apply And.intro | omega | exact Nat.le_of_ble_eq_true rfl))) ?_
    refine Tr.cond rfl (fun h27 => ?_) (fun h27 => ?_)
    · have ho : off c k i (v.getD i 0) = 1 := if_pos (by simpa using h27)
      have w2 : IntKind.i64.wrap ((errsAt c k 0 (v.take i) : Int) + 1) = ((errsAt c k 0 (v.take i) + 1 : Nat) : Int) := by rw [wr (by omega) (by omega)]; rfl
      refine Tr.reg1 [1, 2, 3, 7, 8] (by
          simp only [↓sxd, sxu, ↓zE, ↓exq, St.keep, Nat.reduceBEq, Nat.reduceLT, w2]
          (repeat' (first | rfl | exact trivial | exact fun h => h | exact fun h => (by rw [h]; rfl) | apply And.intro | omega | exact Nat.le_of_ble_eq_true rfl))) ?_
      have w1 : IntKind.i64.wrap ((i : Int) + 1) = ((i + 1 : Nat) : Int) := by rw [wr (by omega) (by omega)]; rfl
      refine Tr.reg1 [1, 2, 3, 7, 8] (by
          simp only [↓sxd, sxu, ↓zE, ↓exq, St.keep, Nat.reduceBEq, Nat.reduceLT, w1]
          (repeat' (first | rfl | exact trivial | exact fun h => h | exact fun h => (by rw [h]; rfl) | apply And.intro | omega | exact Nat.le_of_ble_eq_true rfl))) ?_
      refine ⟨_, _, ?_, ?_, ⟨i + 1, hlt, rfl, rfl⟩⟩
      · omega
      · rw [htk, ho]
        exact Imp.keepAll
    · have ho : off c k i (v.getD i 0) = 0 := if_neg (by simpa using h27)
      refine Tr.skip ?_
      have w1 : IntKind.i64.wrap ((i : Int) + 1) = ((i + 1 : Nat) : Int) := by rw [wr (by omega) (by omega)]; rfl
      refine Tr.reg1 [1, 2, 3, 7, 8] (by
          simp only [↓sxd, sxu, ↓zE, ↓exq, St.keep, Nat.reduceBEq, Nat.reduceLT, w1]
          (repeat' (first | rfl | exact trivial | exact fun h => h | exact fun h => (by rw [h]; rfl) | apply And.intro | omega | exact Nat.le_of_ble_eq_true rfl))) ?_
      refine ⟨_, _, ?_, ?_, ⟨i + 1, hlt, rfl, rfl⟩⟩
      · omega
      · rw [htk, ho]
        exact Imp.keepAll
  · have hge : i = v.length := by simp at h12; omega
    subst hge
    rw [List.take_length]
    refine Tr.exit ?_
    refine Tr.reg [6] (by
        simp only [↓sxd, sxu, ↓zE, ↓exq, St.keep, Nat.reduceBEq, Nat.reduceLT]
        (repeat' (first | rfl | exact trivial | exact fun h => h | exact fun h => (by rw [h]; rfl) | apply And.intro | omega | exact Nat.le_of_ble_eq_true rfl))) ?_
    refine Tr.ret ?_
    (refine ⟨.inr rfl, ?_⟩; first | rfl | exact ⟨rfl, rfl, trivial⟩ | exact ⟨rfl, rfl, rfl, trivial⟩ | (simp only [Res, ResL, ResOK, ↓sxd, sxu, ↓zE, ↓zC, zK, ↓exP, ↓exq, ↓zB, St.keep, ↓zL, ↓zJ, ↓zD, ↓zI, ↓zA, Nat.reduceBEq, Nat.reduceAdd, Nat.reduceLT, Nat.reduceMul, Nat.reduceSub, Nat.reduceLeDiff, Nat.reduceEqDiff, Int.reduceLE, Int.reduceLT, Int.reduceToNat, reduceIte, implies_true, sxe, tysW31_76]; (repeat' (first | rfl | exact trivial | exact fun h => h | exact fun h => (by rw [h]; rfl) | apply And.intro | omega | exact Nat.le_of_ble_eq_true rfl))))
def Coding.isSol (c : Coding) (v : List Int) : Bool := decide (v.length = c.cols) && v.all isCode && (List.range c.codes.length).all fun k => decide ((errsAt c k 0 v : Int) ≤ c.wrong.getD k 0)
theorem isSol_iff {c : Coding} {v : List Int} : c.isSol v = true ↔ Comp c 0 e000 v := by
  unfold Coding.isSol
  simp only [Bool.and_eq_true, decide_eq_true_eq, List.all_eq_true, List.mem_range]
  constructor
  · rintro ⟨⟨h1, h2⟩, h3⟩
    refine ⟨by omega, fun x hx => by have := h2 x hx; simpa [isCode] using this, fun k hk => ?_⟩
    have := h3 k hk
    rw [e000_get]; omega
  · rintro ⟨h1, h2, h3⟩
    refine ⟨⟨by omega, fun x hx => by have := h2 x hx; simpa [isCode] using this⟩, fun k hk => ?_⟩
    have := h3 k hk
    rw [e000_get] at this; omega
abbrev tysW31_41 := And.intro ty.sz0 <| And.intro ty.agg0 <| And.intro ty.elem0 <| And.intro ty.sz3 <| And.intro ty.agg3 <| And.intro ty.elem3 <| And.intro ty.zero3 <| And.intro ty.und3 <| And.intro ty.sz4 <| And.intro ty.agg4 <| And.intro ty.elem4 <| And.intro ty.zero4 <| And.intro ty.und4 <| And.intro ty.sz39 <| And.intro ty.agg39 <| And.intro ty.elem39 <| And.intro ty.by39 <| And.intro ty.ez39 <| And.intro ty.zero39 <| And.intro ty.und39 <| And.intro ty.sz43 <| And.intro ty.agg43 <| And.intro ty.elem43 <| And.intro ty.by43 <| And.intro ty.ez43 <| And.intro ty.zero43 <| And.intro ty.und43 <| And.intro ty.sz55 <| And.intro ty.agg55 <| And.intro ty.fld55_0 <| And.intro ty.fld55_1 <| And.intro ty.elem55 <| And.intro ty.zero55 <| ty.pl55
theorem IsSolution_c (c : Coding) (h : CodingFine c) (v : List Int) (hl : v.length ≤ 1000) : CallP Tryd.prog G0 41 [c.s, SI v] (B (c.isSol v)) := by
  have hn0 := h.n0
  have hcols : (c.codes.getD 0 []).length = c.cols := rfl
  have hc10 := h.ok.c10
  have hn3 := h.ok.n3
  have hwl := h.ok.hw
  refine CallP.body 44 [.tmp 4] Tryd.func41 (by kernel_rfl) rfl rfl rfl (by repeat' (first | exact Pure.d _ | exact Pure.dx _ | exact Pure.dp _ | exact fa_nil | refine fa_cons ?_ ?_ | refine Pure.agg ?_ | refine Pure.tup ?_ | refine Pure.clo ?_ ?_ | refine Pure.fp ?_ | exact Pure.mapd _ | assumption)) (by repeat' (first | exact Pure.d _ | exact Pure.dx _ | exact Pure.dp _ | exact fa_nil | refine fa_cons ?_ ?_ | refine Pure.agg ?_ | refine Pure.tup ?_ | refine Pure.clo ?_ ?_ | refine Pure.fp ?_ | exact Pure.mapd _ | assumption)) ?_
  refine Tr.reg [1, 2] (by
      simp only [↓sxd, sxu, ↓zE, ↓exq, St.keep, ↓zI, Nat.reduceBEq, Nat.reduceAdd, Nat.reduceLT, Nat.reduceEqDiff]
      (repeat' (first | rfl | exact trivial | exact fun h => h | exact fun h => (by rw [h]; rfl) | apply And.intro | omega | exact Nat.le_of_ble_eq_true rfl))) ?_
  refine Tr.seq ?_
  refine Tr.reg [1, 2, 14] (by
      simp only [↓sxd, sxu, ↓zE, ↓exq, ↓zB, St.keep, ↓zJ, ↓zD, ↓zA, Nat.reduceBEq, Nat.reduceAdd, Nat.reduceLT, Nat.reduceEqDiff, Int.reduceLE, sxe, tysW31_41, hn0, hcols]
      (repeat' (first | rfl | exact trivial | exact fun h => h | exact fun h => (by rw [h]; rfl) | apply And.intro | omega | exact Nat.le_of_ble_eq_true rfl))) ?_
  refine Tr.cond rfl (fun h14 => ?_) (fun h14 => ?_)
  · have hne : v.length ≠ c.cols := by
      simp only [bne_iff_ne, ne_eq] at h14; omega
    have hf : c.isSol v = false := by unfold Coding.isSol; rw [decide_eq_false hne]; rfl
    rw [hf]
    refine Tr.reg [4] (by
        simp only [↓sxd, sxu, ↓zE, ↓exq, St.keep, Nat.reduceLT]
        (repeat' (first | rfl | exact trivial | exact fun h => h | exact fun h => (by rw [h]; rfl) | apply And.intro | omega | exact Nat.le_of_ble_eq_true rfl))) ?_
    refine Tr.ret ?_
    (refine ⟨.inr rfl, ?_⟩; first | rfl | exact ⟨rfl, rfl, trivial⟩ | exact ⟨rfl, rfl, rfl, trivial⟩ | (simp only [Res, ResL, ResOK, ↓sxd, sxu, ↓zE, ↓zC, zK, ↓exP, ↓exq, ↓zB, St.keep, ↓zL, ↓zJ, ↓zD, ↓zI, ↓zA, Nat.reduceBEq, Nat.reduceAdd, Nat.reduceLT, Nat.reduceMul, Nat.reduceSub, Nat.reduceLeDiff, Nat.reduceEqDiff, Int.reduceLE, Int.reduceLT, Int.reduceToNat, reduceIte, implies_true, sxe, tysW31_41]; (repeat' (first | rfl | exact trivial | exact fun h => h | exact fun h => (by rw [h]; rfl) | apply And.intro | omega | exact Nat.le_of_ble_eq_true rfl))))
  · have hlen : v.length = c.cols := by
      simp only [bne_eq_false_iff_eq] at h14; omega
    refine Tr.skip ?_
    refine Tr.seq ?_
    refine Tr.reg [1, 2, 5] (by
        simp only [↓sxd, sxu, ↓zE, ↓exq, St.keep, Nat.reduceBEq, Nat.reduceLT]
        (repeat' (first | rfl | exact trivial | exact fun h => h | exact fun h => (by rw [h]; rfl) | apply And.intro | omega | exact Nat.le_of_ble_eq_true rfl))) ?_
    refine Tr.imp (st' := ⟨[(1, SI v), (2, .ptr 0 0 0), (5, I 0)], [(0, .arr 2 [[SL c.codes, SI c.wrong]])], 1, 44, [], 0⟩) (Imp.keepAll) (Tr.block (Tr.loopI (fun mm ss => ∃ (i : Nat), (i ≤ v.length ∧ ∀ j, j < i → isCode (v.getD j 0) = true) ∧ v.length - i = mm ∧ ss = ⟨[(1, SI v), (2, .ptr 0 0 0), (5, I i)], [(0, .arr 2 [[SL c.codes, SI c.wrong]])], 1, 44, [], 0⟩) _ ⟨0, ?_, rfl, rfl⟩ ?_))
    · exact ⟨Nat.zero_le _, fun j hj => absurd hj (Nat.not_lt_zero _)⟩
    rintro mm ss ⟨i, hI, rfl, rfl⟩
    obtain ⟨hI, hcd⟩ := hI
    refine Tr.seq ?_
    refine Tr.reg [1, 2, 5, 18] (by
        simp only [↓sxd, sxu, ↓zE, ↓exq, ↓zB, St.keep, ↓zJ, Nat.reduceBEq, Nat.reduceLT, sxe, tysW31_41]
        (repeat' (first | rfl | exact trivial | exact fun h => h | exact fun h => (by rw [h]; rfl) | apply And.intro | omega | exact Nat.le_of_ble_eq_true rfl))) ?_
    refine Tr.cond rfl (fun h18 => ?_) (fun h18 => ?_)
    · have hlt : i < v.length := by simpa using h18
      refine Tr.skip ?_
      refine Tr.seq ?_
      refine Tr.block ?_
      refine Tr.reg [1, 2, 5, 26] (by
          simp only [↓sxd, sxu, ↓zE, ↓exq, St.keep, ↓zD, Nat.reduceBEq, Nat.reduceLT, sxe, tysW31_41, hlt]
          (repeat ((with_reducible refine And.intro ?_ ?_); (focus (first | with_reducible rfl | trivial | exact fun h => h | exact fun h => (by rw [h]; rfl) | omega | assumption))))
          refine CallO.use (In_c _ _ _ _) ?_
          try simp only [↓sxd, sxu, ↓zE, ↓exq, ↓zL, Nat.reduceBEq, Nat.reduceLT]
          (repeat' (first | rfl | exact trivial | exact fun h => h | exact fun h => (by rw [h]; rfl) | apply And.intro | omega | exact Nat.le_of_ble_eq_true rfl))) ?_
      refine Tr.cond rfl (fun h26 => ?_) (fun h26 => ?_)
      · have hf : c.isSol v = false := by
          have hh : isCode (v.getD i 0) = false := by simpa only [isCode, ge_iff_le, Bool.not_eq_true'] using h26
          have : v.all isCode = false := by
            rw [← Bool.not_eq_true, List.all_eq_true]
            intro hc
            rw [hc _ (getD_mem hlt)] at hh; cases hh
          unfold Coding.isSol
          rw [this]; simp
        rw [hf]
        refine Tr.reg [4] (by
            simp only [↓sxd, sxu, ↓zE, ↓exq, St.keep, Nat.reduceLT]
            (repeat' (first | rfl | exact trivial | exact fun h => h | exact fun h => (by rw [h]; rfl) | apply And.intro | omega | exact Nat.le_of_ble_eq_true rfl))) ?_
        refine Tr.ret ?_
        (refine ⟨.inr rfl, ?_⟩; first | rfl | exact ⟨rfl, rfl, trivial⟩ | exact ⟨rfl, rfl, rfl, trivial⟩ | (simp only [Res, ResL, ResOK, ↓sxd, sxu, ↓zE, ↓zC, zK, ↓exP, ↓exq, ↓zB, St.keep, ↓zL, ↓zJ, ↓zD, ↓zI, ↓zA, Nat.reduceBEq, Nat.reduceAdd, Nat.reduceLT, Nat.reduceMul, Nat.reduceSub, Nat.reduceLeDiff, Nat.reduceEqDiff, Int.reduceLE, Int.reduceLT, Int.reduceToNat, reduceIte, implies_true, sxe, tysW31_41]; (repeat' (first | rfl | exact trivial | exact fun h => h | exact fun h => (by rw [h]; rfl) | apply And.intro | omega | exact Nat.le_of_ble_eq_true rfl))))
      · have hcode : isCode (v.getD i 0) = true := by simpa only [isCode, ge_iff_le, Bool.not_eq_false'] using h26
        refine Tr.skip ?_
        have w1 : IntKind.i64.wrap ((i : Int) + 1) = ((i + 1 : Nat) : Int) := by rw [wr (by omega) (by omega)]; rfl
        refine Tr.reg1 [1, 2, 5] (by
            simp only [↓sxd, sxu, ↓zE, ↓exq, St.keep, Nat.reduceBEq, Nat.reduceLT, w1]
            (repeat' (first | rfl | exact trivial | exact fun h => h | exact fun h => (by rw [h]; rfl) | apply And.intro | omega | exact Nat.le_of_ble_eq_true rfl))) ?_
        exact ⟨_, _, by omega, Imp.keepAll, ⟨i + 1, ⟨hlt, fun j hj => by
          by_cases hji : j = i
          · subst hji; exact hcode
          · exact hcd j (by omega)⟩, rfl, rfl⟩⟩
    · have hge : i = v.length := by simp at h18; omega
      have hall : v.all isCode = true := allI_getD fun j hj => hcd j (by omega)
      refine Tr.exit ?_
      refine Tr.seq ?_
      refine Tr.reg [1, 2, 6] (by
          simp only [↓sxd, sxu, ↓zE, ↓exq, St.keep, Nat.reduceBEq, Nat.reduceLT]
          (repeat' (first | rfl | exact trivial | exact fun h => h | exact fun h => (by rw [h]; rfl) | apply And.intro | omega | exact Nat.le_of_ble_eq_true rfl))) ?_
      refine Tr.imp (st' := ⟨[(1, SI v), (2, .ptr 0 0 0), (6, I 0)], [(0, .arr 2 [[SL c.codes, SI c.wrong]])], 1, 44, [], 0⟩) (Imp.keepAll) (Tr.block (Tr.loopI (fun mm ss => ∃ (k : Nat), (k ≤ c.codes.length ∧ ∀ j, j < k → (errsAt c j 0 v : Int) ≤ c.wrong.getD j 0) ∧ c.codes.length - k = mm ∧ ss = ⟨[(1, SI v), (2, .ptr 0 0 0), (6, I k)], [(0, .arr 2 [[SL c.codes, SI c.wrong]])], 1, 44, [], 0⟩) _ ⟨0, ?_, rfl, rfl⟩ ?_))
      · exact ⟨Nat.zero_le _, fun j hj => absurd hj (Nat.not_lt_zero _)⟩
      rintro mm ss ⟨k, hI, rfl, rfl⟩
      obtain ⟨hI2, hfew⟩ := hI
      refine Tr.seq ?_
      refine Tr.reg [1, 2, 6, 31] (by
          simp only [↓sxd, sxu, ↓zE, ↓exq, ↓zB, St.keep, ↓zJ, ↓zD, ↓zA, Nat.reduceBEq, Nat.reduceAdd, Nat.reduceLT, Nat.reduceEqDiff, sxe, tysW31_41]
          (repeat' (first | rfl | exact trivial | exact fun h => h | exact fun h => (by rw [h]; rfl) | apply And.intro | omega | exact Nat.le_of_ble_eq_true rfl))) ?_
      refine Tr.cond rfl (fun h31 => ?_) (fun h31 => ?_)
      · have hlt2 : k < c.codes.length := by simpa using h31
        have hlw : k < c.wrong.length := by omega
        have hck := h.ok.cols k hlt2
        refine Tr.skip ?_
        refine Tr.seq ?_
        refine Tr.block ?_
        refine Tr.regD [0, 1, 2, 3, 4, 5, 6, 7, 8, 9] [] [] [1, 2, 6, 43] mix (by kernel_rfl) (by
            simp only [↓sxd, sxu, ↓zC, zK, ↓exq, St.keep, ↓zD, Nat.reduceBEq, Nat.reduceAdd, Nat.reduceLT, tysW31_41]
            (repeat ((with_reducible refine And.intro ?_ ?_); (focus (first | with_reducible rfl | trivial | exact fun h => h | exact fun h => (by rw [h]; rfl) | omega | assumption))))
            refine CallD.use (RErrors_c c k v hlt2 (by omega) hl) ?_
            try simp only [↓sxd, sxu, ↓zC, zK, ↓exq, ↓zD, ↓zA, Nat.reduceBEq, Nat.reduceAdd, Nat.reduceLT, Nat.reduceEqDiff, sxe, tysW31_41, hlw]
            (repeat' (first | rfl | exact trivial | exact fun h => h | exact fun h => (by rw [h]; rfl) | apply And.intro | omega | exact Nat.le_of_ble_eq_true rfl))) ?_
        refine Tr.cond rfl (fun h43 => ?_) (fun h43 => ?_)
        · have hf : c.isSol v = false := by
            unfold Coding.isSol
            rw [all_upto (p := fun k => decide ((errsAt c k 0 v : Int) ≤ c.wrong.getD k 0)) hlt2 (by simpa using h43)]
            simp
          rw [hf]
          refine Tr.reg [4] (by
              simp only [↓sxd, sxu, ↓zE, ↓exq, St.keep, Nat.reduceLT]
              (repeat' (first | rfl | exact trivial | exact fun h => h | exact fun h => (by rw [h]; rfl) | apply And.intro | omega | exact Nat.le_of_ble_eq_true rfl))) ?_
          refine Tr.ret ?_
          (refine ⟨.inr rfl, ?_⟩; first | rfl | exact ⟨rfl, rfl, trivial⟩ | exact ⟨rfl, rfl, rfl, trivial⟩ | (simp only [Res, ResL, ResOK, ↓sxd, sxu, ↓zE, ↓zC, zK, ↓exP, ↓exq, ↓zB, St.keep, ↓zL, ↓zJ, ↓zD, ↓zI, ↓zA, Nat.reduceBEq, Nat.reduceAdd, Nat.reduceLT, Nat.reduceMul, Nat.reduceSub, Nat.reduceLeDiff, Nat.reduceEqDiff, Int.reduceLE, Int.reduceLT, Int.reduceToNat, reduceIte, implies_true, sxe, tysW31_41]; (repeat' (first | rfl | exact trivial | exact fun h => h | exact fun h => (by rw [h]; rfl) | apply And.intro | omega | exact Nat.le_of_ble_eq_true rfl))))
        · have hle : (errsAt c k 0 v : Int) ≤ c.wrong.getD k 0 := by simpa using h43
          refine Tr.skip ?_
          have w2 : IntKind.i64.wrap ((k : Int) + 1) = ((k + 1 : Nat) : Int) := by rw [wr (by omega) (by omega)]; rfl
          refine Tr.reg1 [1, 2, 6] (by
              simp only [↓sxd, sxu, ↓zE, ↓exq, St.keep, Nat.reduceBEq, Nat.reduceLT, w2]
              (repeat' (first | rfl | exact trivial | exact fun h => h | exact fun h => (by rw [h]; rfl) | apply And.intro | omega | exact Nat.le_of_ble_eq_true rfl))) ?_
          exact ⟨_, _, by omega, Imp.keepAll, ⟨k + 1, ⟨hlt2, fun j hj => by
            by_cases hji : j = k
            · subst hji; exact hle
            · exact hfew j (by omega)⟩, rfl, rfl⟩⟩
      · have hge2 : k = c.codes.length := by simp at h31; omega
        have hf : c.isSol v = true := by
          unfold Coding.isSol
          rw [decide_eq_true hlen, hall, Bool.and_self, Bool.true_and, List.all_eq_true]
          intro j hj
          rw [decide_eq_true_eq]
          exact hfew j (by rw [hge2]; exact List.mem_range.1 hj)
        rw [hf]
        refine Tr.exit ?_
        refine Tr.reg [4] (by
            simp only [↓sxd, sxu, ↓zE, ↓exq, St.keep, Nat.reduceLT]
            (repeat' (first | rfl | exact trivial | exact fun h => h | exact fun h => (by rw [h]; rfl) | apply And.intro | omega | exact Nat.le_of_ble_eq_true rfl))) ?_
        refine Tr.ret ?_
        (refine ⟨.inr rfl, ?_⟩; first | rfl | exact ⟨rfl, rfl, trivial⟩ | exact ⟨rfl, rfl, rfl, trivial⟩ | (simp only [Res, ResL, ResOK, ↓sxd, sxu, ↓zE, ↓zC, zK, ↓exP, ↓exq, ↓zB, St.keep, ↓zL, ↓zJ, ↓zD, ↓zI, ↓zA, Nat.reduceBEq, Nat.reduceAdd, Nat.reduceLT, Nat.reduceMul, Nat.reduceSub, Nat.reduceLeDiff, Nat.reduceEqDiff, Int.reduceLE, Int.reduceLT, Int.reduceToNat, reduceIte, implies_true, sxe, tysW31_41]; (repeat' (first | rfl | exact trivial | exact fun h => h | exact fun h => (by rw [h]; rfl) | apply And.intro | omega | exact Nat.le_of_ble_eq_true rfl))))
abbrev uL (l : List (List Int)) : List (List SV) := l.map fun u => [SI u]
abbrev vI (v : List Int) : List (List SV) := v.map fun n => [I n]
theorem src_vI (v : List Int) : ((dI v).map fun e => e.map SV.d) = vI v := by simp [dI, vI]
theorem vI_all (v : List Int) : (∀ e ∈ vI v, e.length = 1 ∧ e.all SV.one = true) = True := by simp [SV.one]
theorem vI_fz {r : Nat → Nat} {hp hp' : HpT} (v : List Int) : F2 (F2 fun s x => TnS r hp hp' s (.d x)) (vI v) (dI v) := by
  rw [dI]; exact F2.map fun n _ => .cons (TnS.d _) .nil
theorem uL_fz {r : Nat → Nat} {hp hp' : HpT} (l : List (List Int)) : F2 (F2 fun s x => TnS r hp hp' s (.d x)) (uL l) (dL l) := by
  rw [dL]; exact F2.map fun n _ => .cons (TnS.d _) .nil
theorem uL_tn {r : Nat → Nat} {hp hp' : HpT} (l : List (List Int)) : F2 (F2 (TnS r hp hp')) (uL l) (uL l) := F2.map fun n _ => .cons (TnS.d _) .nil
theorem uL_take {l : List (List Int)} {k : Nat} (h : k < l.length) : uL (l.take (k + 1)) = uL (l.take k) ++ [[SI (l.getD k [])]] := by
  unfold uL
  rw [List.take_succ_eq_append_getElem h, List.map_append]
  simp [List.getD_eq_getElem?_getD, h]
end Go.Proofs.YtcnkbdfkjhlbiaaDoor
namespace Go.Proofs.YtcnkbdfkjhlbiaaDoor
open Go.Sy
set_option maxRecDepth 8000
abbrev tysW32_50 := And.intro ty.sz0 <| And.intro ty.agg0 <| And.intro ty.elem0 <| And.intro ty.sz3 <| And.intro ty.agg3 <| And.intro ty.elem3 <| And.intro ty.zero3 <| And.intro ty.und3 <| And.intro ty.sz4 <| And.intro ty.agg4 <| And.intro ty.elem4 <| And.intro ty.zero4 <| And.intro ty.und4 <| And.intro ty.sz39 <| And.intro ty.agg39 <| And.intro ty.elem39 <| And.intro ty.by39 <| And.intro ty.ez39 <| And.intro ty.zero39 <| And.intro ty.und39 <| And.intro ty.sz43 <| And.intro ty.agg43 <| And.intro ty.elem43 <| And.intro ty.by43 <| And.intro ty.ez43 <| And.intro ty.zero43 <| ty.und43
theorem rows_c (l : List (List Int)) (hl : l.length ≤ 1000) (hls : ∀ x ∈ l, x.length ≤ 1000) : CallP Tryd.prog G0 50 [SL l] (SL l) := by
  refine CallP.body 21 [.tmp 2] Tryd.func50 (by kernel_rfl) rfl rfl rfl (by repeat' (first | exact Pure.d _ | exact Pure.dx _ | exact Pure.dp _ | exact fa_nil | refine fa_cons ?_ ?_ | refine Pure.agg ?_ | refine Pure.tup ?_ | refine Pure.clo ?_ ?_ | refine Pure.fp ?_ | exact Pure.mapd _ | assumption)) (by repeat' (first | exact Pure.d _ | exact Pure.dx _ | exact Pure.dp _ | exact fa_nil | refine fa_cons ?_ ?_ | refine Pure.agg ?_ | refine Pure.tup ?_ | refine Pure.clo ?_ ?_ | refine Pure.fp ?_ | exact Pure.mapd _ | assumption)) ?_
  refine Tr.reg [0] (by
      simp only [↓sxd, sxu, ↓zE, ↓exq, St.keep, Nat.reduceBEq, Nat.reduceLT]
      (repeat' (first | rfl | exact trivial | exact fun h => h | exact fun h => (by rw [h]; rfl) | apply And.intro | omega | exact Nat.le_of_ble_eq_true rfl))) ?_
  refine Tr.reg [0, 3] (by
      simp only [↓sxd, sxu, ↓zE, ↓exq, St.keep, Nat.reduceBEq, Nat.reduceLT]
      (repeat' (first | rfl | exact trivial | exact fun h => h | exact fun h => (by rw [h]; rfl) | apply And.intro | omega | exact Nat.le_of_ble_eq_true rfl))) ?_
  refine Tr.seq ?_
  refine Tr.reg [0, 3, 4] (by
      simp only [↓sxd, sxu, ↓zE, ↓exq, St.keep, Nat.reduceBEq, Nat.reduceLT]
      (repeat' (first | rfl | exact trivial | exact fun h => h | exact fun h => (by rw [h]; rfl) | apply And.intro | omega | exact Nat.le_of_ble_eq_true rfl))) ?_
  refine Tr.imp (st' := ⟨[(0, SL l), (3, .slc 0 1 0 0 0), (4, I 0)], [(0, .arr 1 (uL (l.take 0)))], 1, 21, [], 0⟩) (Imp.goV 1 rfl rfl rfl rfl (by repeat' (first | exact trivial | exact F2.nil | refine F2.cons ?_ ?_ | refine TmV.cons rfl VnS.nil ?_ | refine TmV.cons rfl VnS.same ?_ | refine ⟨rfl, ?_⟩ | exact VnO.same _ | refine VnO.arr ?_ | exact VnS.nil | exact VnS.same | exact F2.refl fun _ _ => VnS.same)) (by repeat' (first | exact trivial | exact F2.nil | refine F2.cons ?_ ?_ | refine TmV.cons rfl VnS.nil ?_ | refine TmV.cons rfl VnS.same ?_ | refine ⟨rfl, ?_⟩ | exact VnO.same _ | refine VnO.arr ?_ | exact VnS.nil | exact VnS.same | exact F2.refl fun _ _ => VnS.same))) (Tr.block (Tr.loopI (fun mm ss => ∃ (k : Nat), (k ≤ l.length) ∧ l.length - k = mm ∧ ss = ⟨[(0, SL l), (3, .slc 0 1 0 k k), (4, I k)], [(0, .arr 1 (uL (l.take k)))], 1, 21, [], 0⟩) _ ⟨0, ?_, rfl, rfl⟩ ?_))
  · (repeat' (first | rfl | exact trivial | exact fun h => h | exact fun h => (by rw [h]; rfl) | apply And.intro | omega | exact Nat.le_of_ble_eq_true rfl))
  rintro mm ss ⟨k, hI, rfl, rfl⟩
  refine Tr.seq ?_
  refine Tr.reg [0, 3, 4, 8] (by
      simp only [↓sxd, sxu, ↓zE, ↓exq, ↓zB, St.keep, ↓zJ, Nat.reduceBEq, Nat.reduceLT, sxe, tysW32_50]
      (repeat' (first | rfl | exact trivial | exact fun h => h | exact fun h => (by rw [h]; rfl) | apply And.intro | omega | exact Nat.le_of_ble_eq_true rfl))) ?_
  refine Tr.cond rfl (fun h8 => ?_) (fun h8 => ?_)
  · have hlt : k < l.length := by simpa using h8
    have hx := hls _ (getD_memI hlt)
    have htl : (l.take k).length = k := by rw [List.length_take]; omega
    refine Tr.skip ?_
    refine Tr.seq ?_
    refine Tr.block ?_
    have hx2 : ((l.getD k []).length ≤ 1073741824) = True := eq_true (by omega)
    have hk2 : (k + 1 ≤ 1073741824) = True := by simp; omega
    refine Tr.reg1 [0, 3, 4] (by
        simp only [↓sxd, sxu, ↓zE, ↓exq, ↓zB, St.keep, ↓zD, ↓zG, ↓zQ, Nat.reduceBEq, Nat.reduceAdd, Nat.reduceLT, Nat.reduceLeDiff, Nat.reduceEqDiff, sxe, tysW32_50, hlt, src_vI, vI_all, hx2, hk2, htl]
        (repeat' (first | rfl | exact trivial | exact fun h => h | exact fun h => (by rw [h]; rfl) | apply And.intro | omega | exact Nat.le_of_ble_eq_true rfl))) ?_
    have w1 : IntKind.i64.wrap ((k : Int) + 1) = ((k + 1 : Nat) : Int) := by rw [wr (by omega) (by omega)]; rfl
    refine Tr.reg1 [0, 3, 4] (by
        simp only [↓sxd, sxu, ↓zE, ↓exq, St.keep, Nat.reduceBEq, Nat.reduceLT, w1]
        (repeat' (first | rfl | exact trivial | exact fun h => h | exact fun h => (by rw [h]; rfl) | apply And.intro | omega | exact Nat.le_of_ble_eq_true rfl))) ?_
    refine ⟨_, _, ?_, ?_, ⟨k + 1, hlt, rfl, rfl⟩⟩
    · omega
    · rw [uL_take hlt]
      exact Imp.go (fun i => i + 3) [(3, .arr 1 (uL (l.take k) ++ [[.slc 1 1 0 (l.getD k []).length (l.getD k []).length]]))] rfl rfl (.cons_cons _ (.cons _ (.cons _ .slnil))) (fun _ h => absurd h (Nat.not_lt_zero _)) (fun id h => Nat.add_le_add_right h 3) (by repeat' (first | exact TmT.cons rfl (TnS.d _) ?_ | exact trivial | exact F2.nil | refine F2.append ?_ ?_ | refine F2.map fun _ _ => ?_ | refine F2.cons ?_ ?_ | refine TmT.cons rfl ?_ ?_ | exact TnS.d _ | exact TnS.dx _ | exact TnS.dp _ | exact TnS.slc rfl | exact TnS.ptr rfl | refine TnS.frzf rfl (by simp) (by simp) (by simp) ?_ | refine TnS.frz0 rfl (by simp) (by simp) (by simp) ?_ | refine TnS.frzm rfl (by simp) ?_ | exact TnS.mapr rfl | exact TnS.yld rfl | refine ⟨rfl, ?_⟩ | refine TnO.arr ?_ | refine TnO.map ?_ | exact TnO.raw _ | exact TnO.iter _ _ | refine TnS.agg ?_ | refine TnS.tup ?_ | exact TnS.pure (Pure.clo (by assumption) (by assumption)) | refine TnS.clo ?_ ?_ | exact TnS.unk _ | exact TnS.pure (Pure.clo (by assumption) (by assumption)))) (.cons ⟨rfl, TnO.arr (F2.append (uL_tn _) (.cons (.cons (TnS.frz0 (id := 1) (sz := 1) (len := (l.getD k []).length) (es := vI (l.getD k [])) rfl (by simp) (by simp) (by simp) (vI_fz _)) .nil) .nil))⟩ .nil) (fun h => h)
  · have hge : k = l.length := by simp at h8; omega
    subst hge
    rw [List.take_length]
    refine Tr.exit ?_
    refine Tr.reg [2] (by
        simp only [↓sxd, sxu, ↓zE, ↓exq, St.keep, Nat.reduceBEq, Nat.reduceLT]
        (repeat' (first | rfl | exact trivial | exact fun h => h | exact fun h => (by rw [h]; rfl) | apply And.intro | omega | exact Nat.le_of_ble_eq_true rfl))) ?_
    refine Tr.imp (Imp.fin (tm' := [(2, SL l)]) ?_) ?_
    · exact .cons rfl (TnS.frz0 (es := uL l) rfl (by simp) (by simp) (by simp) (uL_fz _)) trivial
    refine Tr.ret ?_
    (refine ⟨.inr rfl, ?_⟩; first | rfl | exact ⟨rfl, rfl, trivial⟩ | exact ⟨rfl, rfl, rfl, trivial⟩ | (simp only [Res, ResL, ResOK, ↓sxd, sxu, ↓zE, ↓zC, zK, ↓exP, ↓exq, ↓zB, St.keep, ↓zL, ↓zJ, ↓zD, ↓zG, ↓zQ, Nat.reduceBEq, Nat.reduceAdd, Nat.reduceLT, Nat.reduceMul, Nat.reduceSub, Nat.reduceLeDiff, Nat.reduceEqDiff, Int.reduceLE, Int.reduceLT, Int.reduceToNat, reduceIte, implies_true, sxe, tysW32_50]; (repeat' (first | rfl | exact trivial | exact fun h => h | exact fun h => (by rw [h]; rfl) | apply And.intro | omega | exact Nat.le_of_ble_eq_true rfl))))
abbrev tysW32_38 := And.intro ty.sz0 <| And.intro ty.agg0 <| And.intro ty.elem0 <| And.intro ty.sz39 <| And.intro ty.agg39 <| And.intro ty.elem39 <| And.intro ty.by39 <| And.intro ty.ez39 <| And.intro ty.zero39 <| And.intro ty.und39 <| And.intro ty.sz43 <| And.intro ty.agg43 <| And.intro ty.elem43 <| And.intro ty.by43 <| And.intro ty.ez43 <| And.intro ty.zero43 <| And.intro ty.und43 <| And.intro ty.sz55 <| And.intro ty.agg55 <| And.intro ty.fld55_0 <| And.intro ty.fld55_1 <| And.intro ty.elem55 <| And.intro ty.zero55 <| And.intro ty.pl55 <| And.intro ty.sz59 <| And.intro ty.agg59 <| And.intro ty.fld59_0 <| And.intro ty.fld59_1 <| And.intro ty.elem59 <| And.intro ty.zero59 <| ty.pl59
theorem Coding_c (c : Coding) (hl : c.codes.length ≤ 1000) (hls : ∀ x ∈ c.codes, x.length ≤ 1000) (hw : c.wrong.length ≤ 1000) : CallP Tryd.prog G0 38 [c.s] c.s := by
  refine CallP.body 11 [.cell 2 59] Tryd.func38 (by kernel_rfl) rfl rfl rfl (by repeat' (first | exact Pure.d _ | exact Pure.dx _ | exact Pure.dp _ | exact fa_nil | refine fa_cons ?_ ?_ | refine Pure.agg ?_ | refine Pure.tup ?_ | refine Pure.clo ?_ ?_ | refine Pure.fp ?_ | exact Pure.mapd _ | assumption)) (by repeat' (first | exact Pure.d _ | exact Pure.dx _ | exact Pure.dp _ | exact fa_nil | refine fa_cons ?_ ?_ | refine Pure.agg ?_ | refine Pure.tup ?_ | refine Pure.clo ?_ ?_ | refine Pure.fp ?_ | exact Pure.mapd _ | assumption)) ?_
  refine Tr.reg [1, 2] (by
      simp only [↓sxd, sxu, ↓zE, ↓exq, St.keep, ↓zM, ↓zI, Nat.reduceBEq, Nat.reduceAdd, Nat.reduceLT, Nat.reduceEqDiff, tysW32_38]
      (repeat' (first | rfl | exact trivial | exact fun h => h | exact fun h => (by rw [h]; rfl) | apply And.intro | omega | exact Nat.le_of_ble_eq_true rfl))) ?_
  have hw2 : (c.wrong.length ≤ 1073741824) = True := by simp; omega
  refine Tr.regD [0, 1, 2, 3, 4, 5, 6, 7, 8] [6, 8] [] [2] mix (by kernel_rfl) (by
      simp only [↓sxd, sxu, ↓zC, zK, ↓exq, St.keep, ↓zD, ↓zA, Nat.reduceBEq, Nat.reduceAdd, Nat.reduceLT, Nat.reduceEqDiff, tysW32_38]
      (repeat ((with_reducible refine And.intro ?_ ?_); (focus (first | with_reducible rfl | trivial | exact fun h => h | exact fun h => (by rw [h]; rfl) | omega | assumption))))
      refine CallD.use (rows_c c.codes hl hls) ?_
      try simp only [↓sxd, sxu, ↓zC, zK, ↓exq, ↓zB, ↓zD, ↓zO, ↓zG, ↓zQ, ↓zA, Nat.reduceBEq, Nat.reduceAdd, Nat.reduceLT, Nat.reduceLeDiff, Nat.reduceEqDiff, tysW32_38, src_vI, vI_all, hw2]
      (repeat' (first | rfl | exact trivial | exact fun h => h | exact fun h => (by rw [h]; rfl) | apply And.intro | omega | exact Nat.le_of_ble_eq_true rfl))) ?_
  refine Tr.imp (st' := ⟨[(2, .ptr 1 0 0)], [(1, .arr 2 [[SL c.codes, SI c.wrong]])], _, _, [], _⟩) (Imp.go (fun i => i) [(1, _)] rfl rfl (.cons _ (.cons_cons _ (.cons _ .slnil))) (fun _ _ => rfl) (fun _ h => h) (by repeat' (first | exact TmT.cons rfl (TnS.d _) ?_ | exact trivial | exact F2.nil | refine F2.append ?_ ?_ | refine F2.map fun _ _ => ?_ | refine F2.cons ?_ ?_ | refine TmT.cons rfl ?_ ?_ | exact TnS.d _ | exact TnS.dx _ | exact TnS.dp _ | exact TnS.slc rfl | exact TnS.ptr rfl | refine TnS.frzf rfl (by simp) (by simp) (by simp) ?_ | refine TnS.frz0 rfl (by simp) (by simp) (by simp) ?_ | refine TnS.frzm rfl (by simp) ?_ | exact TnS.mapr rfl | exact TnS.yld rfl | refine ⟨rfl, ?_⟩ | refine TnO.arr ?_ | refine TnO.map ?_ | exact TnO.raw _ | exact TnO.iter _ _ | refine TnS.agg ?_ | refine TnS.tup ?_ | exact TnS.pure (Pure.clo (by assumption) (by assumption)) | refine TnS.clo ?_ ?_ | exact TnS.unk _ | exact TnS.pure (Pure.clo (by assumption) (by assumption)))) (.cons ⟨rfl, TnO.arr (.cons (.cons (TnS.d _) (.cons (TnS.frz0 (es := vI c.wrong) rfl (by simp) (by simp) (by simp) (vI_fz _)) .nil)) .nil)⟩ .nil) (fun _ => rfl)) ?_
  refine Tr.ret ?_
  (refine ⟨.inr rfl, ?_⟩; first | rfl | exact ⟨rfl, rfl, trivial⟩ | exact ⟨rfl, rfl, rfl, trivial⟩ | (simp only [Res, ResOK, sxu, ↓zD, Nat.reduceAdd, Nat.reduceLT, tysW32_38]; (repeat' (first | rfl | exact trivial | exact fun h => h | exact fun h => (by rw [h]; rfl) | apply And.intro | omega | exact Nat.le_of_ble_eq_true rfl))))
end Go.Proofs.YtcnkbdfkjhlbiaaDoor
namespace Go.Proofs.YtcnkbdfkjhlbiaaDoor
set_option maxRecDepth 8000
def nth : Nat → Nat → List Int
  | _, 0 => []
  | n, l + 1 => ((n % 10 : Nat) : Int) :: nth (n / 10) l
theorem nth_len : ∀ (l n : Nat), (nth n l).length = l
  | 0, _ => rfl
  | l + 1, n => by rw [nth, List.length_cons, nth_len l]
theorem nth_surj : ∀ (u : List Int), (∀ x ∈ u, 0 ≤ x ∧ x ≤ 9) → ∃ k, k < 10 ^ u.length ∧ nth k u.length = u
  | [], _ => ⟨0, by simp, rfl⟩
  | x :: u, h => by
    obtain ⟨k, hk, he⟩ := nth_surj u fun y hy => h y (List.mem_cons_of_mem _ hy)
    have hx := h x List.mem_cons_self
    refine ⟨x.toNat + 10 * k, ?_, ?_⟩
    · rw [List.length_cons, Nat.pow_succ]; omega
    · rw [List.length_cons, nth, show (x.toNat + 10 * k) % 10 = x.toNat by omega, show (x.toNat + 10 * k) / 10 = k by omega, he, show ((x.toNat : Nat) : Int) = x by omega]
def Coding.leastTo (c : Coding) (l : Nat) : Nat → Int
  | 0 => -1
  | k + 1 => if c.isSol (nth k l) then (if c.leastTo l k < 0 ∨ (totAt c 0 (nth k l) : Int) < c.leastTo l k then (totAt c 0 (nth k l) : Int) else c.leastTo l k) else c.leastTo l k
def Coding.possTo (c : Coding) (l k p x : Nat) : Bool := decide (p < l) && (List.range k).any fun j => c.isSol (nth j l) && ((nth j l).getD p 0 == (x : Int))
theorem possTo_zero {c : Coding} {l p x : Nat} : c.possTo l 0 p x = false := by unfold Coding.possTo; simp
theorem possTo_succ {c : Coding} {l k p x : Nat} : c.possTo l (k + 1) p x = (c.possTo l k p x || (c.isSol (nth k l) && (decide (p < l) && ((nth k l).getD p 0 == (x : Int))))) := by
  unfold Coding.possTo
  rw [List.range_succ, List.any_append]
  simp only [List.any_cons, List.any_nil, Bool.or_false]
  cases decide (p < l) <;> cases c.isSol (nth k l) <;> simp
theorem leastTo_law {c : Coding} {l : Nat} : ∀ k, (c.leastTo l k = -1 ∧ ∀ j, j < k → c.isSol (nth j l) = false) ∨ (0 ≤ c.leastTo l k ∧ (∃ j, j < k ∧ c.isSol (nth j l) = true ∧ c.leastTo l k = totAt c 0 (nth j l)) ∧ ∀ j, j < k → c.isSol (nth j l) = true → c.leastTo l k ≤ totAt c 0 (nth j l))
  | 0 => .inl ⟨rfl, fun j hj => absurd hj (Nat.not_lt_zero _)⟩
  | k + 1 => by
    have ih := leastTo_law (c := c) (l := l) k
    rw [Coding.leastTo]
    cases hs : c.isSol (nth k l) with
    | false =>
      simp only [Bool.false_eq_true, if_false]
      rcases ih with ⟨h1, h2⟩ | ⟨h1, ⟨j, h2, h3, h4⟩, h5⟩
      · refine .inl ⟨h1, fun j hj => ?_⟩
        by_cases hjk : j = k
        · subst hjk; exact hs
        · exact h2 j (by omega)
      · refine .inr ⟨h1, ⟨j, by omega, h3, h4⟩, fun i hi hsi => ?_⟩
        by_cases hik : i = k
        · subst hik; rw [hs] at hsi; cases hsi
        · exact h5 i (by omega) hsi
    | true =>
      simp only [if_true]
      right
      rcases ih with ⟨h1, h2⟩ | ⟨h1, ⟨j, h2, h3, h4⟩, h5⟩
      · rw [if_pos (.inl (by omega))]
        refine ⟨by omega, ⟨k, by omega, hs, rfl⟩, fun i hi hsi => ?_⟩
        by_cases hik : i = k
        · subst hik; exact Int.le_refl _
        · rw [h2 i (by omega)] at hsi; cases hsi
      · by_cases hlt : (totAt c 0 (nth k l) : Int) < c.leastTo l k
        · rw [if_pos (.inr hlt)]
          refine ⟨by omega, ⟨k, by omega, hs, rfl⟩, fun i hi hsi => ?_⟩
          by_cases hik : i = k
          · subst hik; exact Int.le_refl _
          · have := h5 i (by omega) hsi; omega
        · rw [if_neg (by omega)]
          refine ⟨h1, ⟨j, by omega, h3, h4⟩, fun i hi hsi => ?_⟩
          by_cases hik : i = k
          · subst hik; omega
          · exact h5 i (by omega) hsi
theorem sol_nth {c : Coding} {w : List Int} (h : Comp c 0 e000 w) : ∃ k, k < 10 ^ c.cols ∧ nth k c.cols = w ∧ c.isSol w = true := by
  obtain ⟨k, h1, h2⟩ := nth_surj w h.cod
  have hl : w.length = c.cols := by have := h.len; omega
  rw [hl] at h1 h2
  exact ⟨k, h1, h2, isSol_iff.2 h⟩
theorem fine_ctried {c : Coding} (h : CodingFine c) (hk : c.check = 0) : c.tried = if c.goes c.root.2 0 e000 then 0 else 9 := by
  unfold Coding.tried
  rw [if_neg (fun hc => hc hk)]
theorem codes_no {c : Coding} (h : CodingFine c) (hk : c.check = 0) (hl : c.leastTo c.cols (10 ^ c.cols) < 0) : c.codesS = ([], 9) ∧ c.errorsS = (0, 9) := by
  have hno : c.goes c.root.2 0 e000 = false := by
    rw [← Bool.not_eq_true, ctried_iff h]
    rintro ⟨w, hw⟩
    obtain ⟨k, h1, h2, h3⟩ := sol_nth hw
    rcases leastTo_law (c := c) (l := c.cols) (10 ^ c.cols) with ⟨_, h4⟩ | ⟨h4, _⟩
    · have := h4 k h1; rw [h2, h3] at this; cases this
    · omega
  have ht : c.tried = 9 := by rw [fine_ctried h hk, hno]; rfl
  unfold Coding.codesS Coding.errorsS
  rw [ht]
  exact ⟨rfl, rfl⟩
theorem codes_yes {c : Coding} (h : CodingFine c) (hk : c.check = 0) (hl : ¬ c.leastTo c.cols (10 ^ c.cols) < 0) :
    c.codesS = ((List.range c.cols).map fun p => nats ((List.range 10).filter (c.possTo c.cols (10 ^ c.cols) p)), 0) ∧ c.errorsS = (c.leastTo c.cols (10 ^ c.cols), 0) := by
  rcases leastTo_law (c := c) (l := c.cols) (10 ^ c.cols) with ⟨h4, _⟩ | ⟨h1, ⟨j, h2, h3, h4⟩, h5⟩
  · omega
  · have hs : ∃ w, Comp c 0 e000 w := ⟨_, isSol_iff.1 h3⟩
    have hgo : c.goes c.root.2 0 e000 = true := (ctried_iff h).2 hs
    have ht : c.tried = 0 := by rw [fine_ctried h hk, hgo]; rfl
    unfold Coding.codesS Coding.errorsS
    rw [ht, if_pos rfl, if_pos rfl]
    obtain ⟨w, e1, e2, e3⟩ := errors_law h hs
    constructor
    · congr 1
      refine List.map_congr_left fun p hp => ?_
      rw [List.mem_range] at hp
      congr 1
      unfold Coding.codesAt
      refine List.filter_congr fun x hx => ?_
      rw [List.mem_range] at hx
      rw [Bool.eq_iff_iff, canAt_iff h hs hp hx]
      unfold Coding.possTo
      rw [decide_eq_true hp, Bool.true_and, List.any_eq_true]
      constructor
      · rintro ⟨u, hu, hux⟩
        obtain ⟨k, g1, g2, g3⟩ := sol_nth hu
        exact ⟨k, List.mem_range.2 g1, by rw [g2, g3, hux]; simp⟩
      · rintro ⟨k, g1, g2⟩
        rw [Bool.and_eq_true, beq_iff_eq] at g2
        exact ⟨_, isSol_iff.1 g2.1, g2.2⟩
    · rw [e2]
      congr 1
      obtain ⟨k, g1, g2, g3⟩ := sol_nth e1
      have := h5 k g1 (by rw [g2]; exact g3)
      rw [g2] at this
      have := e3 _ (isSol_iff.1 h3)
      omega
end Go.Proofs.YtcnkbdfkjhlbiaaDoor
namespace Go.Proofs.YtcnkbdfkjhlbiaaDoor
open Go.Sy
set_option maxRecDepth 8000
theorem ib (p q : Nat) : ((p : Int) == (q : Int)) = (p == q) := by
  rw [Bool.eq_iff_iff, beq_iff_eq, beq_iff_eq]; omega
theorem natsF2 {r : Nat → Nat} {hp hp' : HpT} (o : List Nat) : F2 (F2 fun s x => TnS r hp hp' s (SV.d x)) (o.map fun (n : Nat) => [I n]) (dI (nats o)) := by
  unfold dI nats
  rw [List.map_map]
  exact F2.map fun n _ => .cons (TnS.d _) .nil
end Go.Proofs.YtcnkbdfkjhlbiaaDoor
namespace Go.Proofs.YtcnkbdfkjhlbiaaDoor
open Go.Sy
set_option maxRecDepth 8000
theorem tmod10 (n : Nat) : (n : Int).tmod 10 = ((n % 10 : Nat) : Int) := by
  rw [Int.natCast_emod, Int.tmod_eq_emod_of_nonneg (Int.natCast_nonneg _)]; rfl
theorem tdiv10 (n : Nat) : (n : Int).tdiv 10 = ((n / 10 : Nat) : Int) := by
  rw [Int.natCast_ediv, Int.tdiv_eq_ediv_of_nonneg (Int.natCast_nonneg _)]; rfl
abbrev tysW33_40 := And.intro ty.sz3 <| And.intro ty.agg3 <| And.intro ty.elem3 <| And.intro ty.zero3 <| And.intro ty.und3 <| And.intro ty.sz4 <| And.intro ty.agg4 <| And.intro ty.elem4 <| And.intro ty.zero4 <| And.intro ty.und4 <| And.intro ty.sz43 <| And.intro ty.agg43 <| And.intro ty.elem43 <| And.intro ty.by43 <| And.intro ty.ez43 <| And.intro ty.zero43 <| ty.und43
theorem Nth_c (n l : Nat) (hn : n ≤ 1000000) (hl : l ≤ 100) : CallP Tryd.prog G0 40 [I n, I l] (SI (nth n l)) := by
  refine CallP.body 20 [.tmp 4] Tryd.func40 (by kernel_rfl) rfl rfl rfl (by repeat' (first | exact Pure.d _ | exact Pure.dx _ | exact Pure.dp _ | exact fa_nil | refine fa_cons ?_ ?_ | refine Pure.agg ?_ | refine Pure.tup ?_ | refine Pure.clo ?_ ?_ | refine Pure.fp ?_ | exact Pure.mapd _ | assumption)) (by repeat' (first | exact Pure.d _ | exact Pure.dx _ | exact Pure.dp _ | exact fa_nil | refine fa_cons ?_ ?_ | refine Pure.agg ?_ | refine Pure.tup ?_ | refine Pure.clo ?_ ?_ | refine Pure.fp ?_ | exact Pure.mapd _ | assumption)) ?_
  refine Tr.reg [0, 1] (by
      simp only [↓sxd, sxu, ↓zE, ↓exq, St.keep, Nat.reduceBEq, Nat.reduceAdd, Nat.reduceLT]
      (repeat' (first | rfl | exact trivial | exact fun h => h | exact fun h => (by rw [h]; rfl) | apply And.intro | omega | exact Nat.le_of_ble_eq_true rfl))) ?_
  refine Tr.reg [0, 1, 5] (by
      simp only [↓sxd, sxu, ↓zE, ↓exq, St.keep, Nat.reduceBEq, Nat.reduceLT]
      (repeat' (first | rfl | exact trivial | exact fun h => h | exact fun h => (by rw [h]; rfl) | apply And.intro | omega | exact Nat.le_of_ble_eq_true rfl))) ?_
  refine Tr.seq ?_
  refine Tr.reg [0, 1, 5, 6] (by
      simp only [↓sxd, sxu, ↓zE, ↓exq, St.keep, Nat.reduceBEq, Nat.reduceLT]
      (repeat' (first | rfl | exact trivial | exact fun h => h | exact fun h => (by rw [h]; rfl) | apply And.intro | omega | exact Nat.le_of_ble_eq_true rfl))) ?_
  refine Tr.imp (st' := ⟨[(0, I n), (1, I l), (5, .slc 0 1 0 [].length [].length), (6, I 0)], [(0, .arr 1 (vI []))], 1, 20, [], 0⟩) (Imp.goV 1 rfl rfl rfl rfl (by repeat' (first | exact trivial | exact F2.nil | refine F2.cons ?_ ?_ | refine TmV.cons rfl VnS.nil ?_ | refine TmV.cons rfl VnS.same ?_ | refine ⟨rfl, ?_⟩ | exact VnO.same _ | refine VnO.arr ?_ | exact VnS.nil | exact VnS.same | exact F2.refl fun _ _ => VnS.same)) (by repeat' (first | exact trivial | exact F2.nil | refine F2.cons ?_ ?_ | refine TmV.cons rfl VnS.nil ?_ | refine TmV.cons rfl VnS.same ?_ | refine ⟨rfl, ?_⟩ | exact VnO.same _ | refine VnO.arr ?_ | exact VnS.nil | exact VnS.same | exact F2.refl fun _ _ => VnS.same))) (Tr.block (Tr.loopI (fun mm ss => ∃ (m k : Nat) (o : List Int), (k ≤ l ∧ o.length = k ∧ m ≤ 1000000 ∧ o ++ nth m (l - k) = nth n l) ∧ l - k = mm ∧ ss = ⟨[(0, I m), (1, I l), (5, .slc 0 1 0 o.length o.length), (6, I k)], [(0, .arr 1 (vI o))], 1, 20, [], 0⟩) _ ⟨n, 0, [], ?_, rfl, rfl⟩ ?_))
  · exact ⟨Nat.zero_le _, rfl, hn, rfl⟩
  rintro mm ss ⟨m, k, o, hI, rfl, rfl⟩
  obtain ⟨hI, hol, hm, he⟩ := hI
  refine Tr.seq ?_
  refine Tr.reg [0, 1, 5, 6, 9] (by
      simp only [↓sxd, sxu, ↓zE, ↓exq, St.keep, Nat.reduceBEq, Nat.reduceLT, sxe]
      (repeat' (first | rfl | exact trivial | exact fun h => h | exact fun h => (by rw [h]; rfl) | apply And.intro | omega | exact Nat.le_of_ble_eq_true rfl))) ?_
  refine Tr.cond rfl (fun h9 => ?_) (fun h9 => ?_)
  · have hlt : k < l := by simpa using h9
    have hst : nth m (l - k) = ((m % 10 : Nat) : Int) :: nth (m / 10) (l - (k + 1)) := by
      rw [show l - k = (l - (k + 1)) + 1 by omega]; rfl
    refine Tr.skip ?_
    refine Tr.seq ?_
    refine Tr.block ?_
    have ho1 : (o.length + 1 ≤ 1073741824) = True := by simp; omega
    refine Tr.reg [0, 1, 5, 6] (by
        simp only [↓sxd, sxu, ↓zE, ↓exq, ↓zB, St.keep, ↓zG, ↓zQ, Nat.reduceBEq, Nat.reduceAdd, Nat.reduceLT, Nat.reduceLeDiff, Nat.reduceEqDiff, tysW33_40, tmod10, ho1]
        (repeat' (first | rfl | exact trivial | exact fun h => h | exact fun h => (by rw [h]; rfl) | apply And.intro | omega | exact Nat.le_of_ble_eq_true rfl))) ?_
    have wd : IntKind.i64.wrap ((m / 10 : Nat) : Int) = ((m / 10 : Nat) : Int) := wr (by omega) (by omega)
    refine Tr.reg1 [0, 1, 5, 6] (by
        simp only [↓sxd, sxu, ↓zE, ↓exq, St.keep, Nat.reduceBEq, Nat.reduceLT, tdiv10, wd]
        (repeat' (first | rfl | exact trivial | exact fun h => h | exact fun h => (by rw [h]; rfl) | apply And.intro | omega | exact Nat.le_of_ble_eq_true rfl))) ?_
    have w1 : IntKind.i64.wrap ((k : Int) + 1) = ((k + 1 : Nat) : Int) := by rw [wr (by omega) (by omega)]; rfl
    refine Tr.reg1 [0, 1, 5, 6] (by
        simp only [↓sxd, sxu, ↓zE, ↓exq, St.keep, Nat.reduceBEq, Nat.reduceLT, w1]
        (repeat' (first | rfl | exact trivial | exact fun h => h | exact fun h => (by rw [h]; rfl) | apply And.intro | omega | exact Nat.le_of_ble_eq_true rfl))) ?_
    exact ⟨_, _, by omega, Imp.go (fun i => i + 1) _ rfl rfl (List.Sublist.refl _) (by simp) (by simp) (by simp only [List.length_append, List.length_cons, List.length_nil, Nat.zero_add, Int.natCast_add, Int.natCast_one]; repeat' (first | exact TmT.cons rfl (TnS.d _) ?_ | exact trivial | exact F2.nil | refine F2.append ?_ ?_ | refine F2.map fun _ _ => ?_ | refine F2.cons ?_ ?_ | refine TmT.cons rfl ?_ ?_ | exact TnS.d _ | exact TnS.dx _ | exact TnS.dp _ | exact TnS.slc rfl | exact TnS.ptr rfl | refine TnS.frzf rfl (by simp) (by simp) (by simp) ?_ | refine TnS.frz0 rfl (by simp) (by simp) (by simp) ?_ | refine TnS.frzm rfl (by simp) ?_ | exact TnS.mapr rfl | exact TnS.yld rfl | refine ⟨rfl, ?_⟩ | refine TnO.arr ?_ | refine TnO.map ?_ | exact TnO.raw _ | exact TnO.iter _ _ | refine TnS.agg ?_ | refine TnS.tup ?_ | exact TnS.pure (Pure.clo (by assumption) (by assumption)) | refine TnS.clo ?_ ?_ | exact TnS.unk _ | exact TnS.pure (Pure.clo (by assumption) (by assumption)))) (by simp only [List.map_append, List.map_cons, List.map_nil]; repeat' (first | exact TmT.cons rfl (TnS.d _) ?_ | exact trivial | exact F2.nil | refine F2.append ?_ ?_ | refine F2.map fun _ _ => ?_ | refine F2.cons ?_ ?_ | refine TmT.cons rfl ?_ ?_ | exact TnS.d _ | exact TnS.dx _ | exact TnS.dp _ | exact TnS.slc rfl | exact TnS.ptr rfl | refine TnS.frzf rfl (by simp) (by simp) (by simp) ?_ | refine TnS.frz0 rfl (by simp) (by simp) (by simp) ?_ | refine TnS.frzm rfl (by simp) ?_ | exact TnS.mapr rfl | exact TnS.yld rfl | refine ⟨rfl, ?_⟩ | refine TnO.arr ?_ | refine TnO.map ?_ | exact TnO.raw _ | exact TnO.iter _ _ | refine TnS.agg ?_ | refine TnS.tup ?_ | exact TnS.pure (Pure.clo (by assumption) (by assumption)) | refine TnS.clo ?_ ?_ | exact TnS.unk _ | exact TnS.pure (Pure.clo (by assumption) (by assumption)))) (fun _ => rfl), ⟨m / 10, k + 1, o ++ [((m % 10 : Nat) : Int)], ⟨by omega, by simp; omega, by omega, by rw [← he, hst, List.append_assoc]; rfl⟩, rfl, rfl⟩⟩
  · have hge : k = l := by simp at h9; omega
    rw [hge, Nat.sub_self, nth, List.append_nil] at he
    refine Tr.exit ?_
    refine Tr.reg [4] (by
        simp only [↓sxd, sxu, ↓zE, ↓exq, St.keep, Nat.reduceBEq, Nat.reduceLT]
        (repeat' (first | rfl | exact trivial | exact fun h => h | exact fun h => (by rw [h]; rfl) | apply And.intro | omega | exact Nat.le_of_ble_eq_true rfl))) ?_
    refine Tr.imp (Imp.fin (tm' := [(4, SI (nth n l))]) ?_) ?_
    · rw [← he]
      exact TmT.cons rfl (TnS.frz0 (es := vI o) rfl (by simp) (by simp) (by simp) (vI_fz _)) trivial
    refine Tr.ret ?_
    (refine ⟨.inr rfl, ?_⟩; first | rfl | exact ⟨rfl, rfl, trivial⟩ | exact ⟨rfl, rfl, rfl, trivial⟩ | (simp only [Res, ResL, ResOK, ↓sxd, sxu, ↓zE, ↓zC, zK, ↓exP, ↓exq, ↓zB, St.keep, ↓zL, ↓zG, ↓zQ, Nat.reduceBEq, Nat.reduceAdd, Nat.reduceLT, Nat.reduceMul, Nat.reduceSub, Nat.reduceLeDiff, Nat.reduceEqDiff, Int.reduceLE, Int.reduceLT, Int.reduceToNat, reduceIte, implies_true, sxe, tysW33_40]; (repeat' (first | rfl | exact trivial | exact fun h => h | exact fun h => (by rw [h]; rfl) | apply And.intro | omega | exact Nat.le_of_ble_eq_true rfl))))
theorem sumTo_le {f : Nat → Nat} {b : Nat} (h : ∀ k, f k ≤ b) : ∀ n, sumTo f n ≤ n * b
  | 0 => Nat.zero_le _
  | n + 1 => by
    have := sumTo_le h n
    have := h n
    simp only [sumTo, Nat.succ_mul]; omega
abbrev tysW33_42 := And.intro ty.sz0 <| And.intro ty.agg0 <| And.intro ty.elem0 <| And.intro ty.sz3 <| And.intro ty.agg3 <| And.intro ty.elem3 <| And.intro ty.zero3 <| And.intro ty.und3 <| And.intro ty.sz4 <| And.intro ty.agg4 <| And.intro ty.elem4 <| And.intro ty.zero4 <| And.intro ty.und4 <| And.intro ty.sz39 <| And.intro ty.agg39 <| And.intro ty.elem39 <| And.intro ty.by39 <| And.intro ty.ez39 <| And.intro ty.zero39 <| And.intro ty.und39 <| And.intro ty.sz43 <| And.intro ty.agg43 <| And.intro ty.elem43 <| And.intro ty.by43 <| And.intro ty.ez43 <| And.intro ty.zero43 <| And.intro ty.und43 <| And.intro ty.sz55 <| And.intro ty.agg55 <| And.intro ty.fld55_0 <| And.intro ty.fld55_1 <| And.intro ty.elem55 <| And.intro ty.zero55 <| ty.pl55
theorem Total_c (c : Coding) (h : CodingFine c) (v : List Int) (hl : v.length = c.cols) : CallP Tryd.prog G0 42 [c.s, SI v] (I (totAt c 0 v : Nat)) := by
  have hc10 := h.ok.c10
  have hn3 := h.ok.n3
  obtain ⟨T, hT⟩ : ∃ T : Nat → Nat, ∀ n, T n = sumTo (fun k => errsAt c k 0 v) n := ⟨_, fun _ => rfl⟩
  have hTs : ∀ n, T (n + 1) = T n + errsAt c n 0 v := fun n => by rw [hT, hT]; rfl
  have hTb : ∀ n, T n ≤ n * 10 := fun n => by rw [hT]; exact sumTo_le (fun k => by have := errsAt_le c k v 0; omega) n
  rw [show totAt c 0 v = T c.codes.length from (hT _).symm]
  refine CallP.body 21 [.tmp 4] Tryd.func42 (by kernel_rfl) rfl rfl rfl (by repeat' (first | exact Pure.d _ | exact Pure.dx _ | exact Pure.dp _ | exact fa_nil | refine fa_cons ?_ ?_ | refine Pure.agg ?_ | refine Pure.tup ?_ | refine Pure.clo ?_ ?_ | refine Pure.fp ?_ | exact Pure.mapd _ | assumption)) (by repeat' (first | exact Pure.d _ | exact Pure.dx _ | exact Pure.dp _ | exact fa_nil | refine fa_cons ?_ ?_ | refine Pure.agg ?_ | refine Pure.tup ?_ | refine Pure.clo ?_ ?_ | refine Pure.fp ?_ | exact Pure.mapd _ | assumption)) ?_
  refine Tr.reg [1, 2] (by
      simp only [↓sxd, sxu, ↓zE, ↓exq, St.keep, ↓zI, Nat.reduceBEq, Nat.reduceAdd, Nat.reduceLT, Nat.reduceEqDiff]
      (repeat' (first | rfl | exact trivial | exact fun h => h | exact fun h => (by rw [h]; rfl) | apply And.intro | omega | exact Nat.le_of_ble_eq_true rfl))) ?_
  refine Tr.reg [1, 2, 5] (by
      simp only [↓sxd, sxu, ↓zE, ↓exq, St.keep, Nat.reduceBEq, Nat.reduceLT]
      (repeat' (first | rfl | exact trivial | exact fun h => h | exact fun h => (by rw [h]; rfl) | apply And.intro | omega | exact Nat.le_of_ble_eq_true rfl))) ?_
  refine Tr.seq ?_
  refine Tr.reg [1, 2, 5, 6] (by
      simp only [↓sxd, sxu, ↓zE, ↓exq, St.keep, Nat.reduceBEq, Nat.reduceLT]
      (repeat' (first | rfl | exact trivial | exact fun h => h | exact fun h => (by rw [h]; rfl) | apply And.intro | omega | exact Nat.le_of_ble_eq_true rfl))) ?_
  refine Tr.imp (st' := ⟨[(1, SI v), (2, .ptr 0 0 0), (5, I (T 0 : Nat)), (6, I 0)], [(0, .arr 2 [[SL c.codes, SI c.wrong]])], 1, 21, [], 0⟩) (by rw [show T 0 = 0 from hT 0]; exact Imp.keepAll) (Tr.block (Tr.loopI (fun mm ss => ∃ (k : Nat), (k ≤ c.codes.length) ∧ c.codes.length - k = mm ∧ ss = ⟨[(1, SI v), (2, .ptr 0 0 0), (5, I (T k : Nat)), (6, I k)], [(0, .arr 2 [[SL c.codes, SI c.wrong]])], 1, 21, [], 0⟩) _ ⟨0, ?_, rfl, rfl⟩ ?_))
  · (repeat' (first | rfl | exact trivial | exact fun h => h | exact fun h => (by rw [h]; rfl) | apply And.intro | omega | exact Nat.le_of_ble_eq_true rfl))
  rintro mm ss ⟨k, hI, rfl, rfl⟩
  refine Tr.seq ?_
  refine Tr.reg [1, 2, 5, 6, 11] (by
      simp only [↓sxd, sxu, ↓zE, ↓exq, ↓zB, St.keep, ↓zJ, ↓zD, ↓zA, Nat.reduceBEq, Nat.reduceAdd, Nat.reduceLT, Nat.reduceEqDiff, sxe, tysW33_42]
      (repeat' (first | rfl | exact trivial | exact fun h => h | exact fun h => (by rw [h]; rfl) | apply And.intro | omega | exact Nat.le_of_ble_eq_true rfl))) ?_
  refine Tr.cond rfl (fun h11 => ?_) (fun h11 => ?_)
  · have hlt : k < c.codes.length := by simpa using h11
    have hck := h.ok.cols k hlt
    have hb := hTb k
    have he := errsAt_le c k v 0
    refine Tr.skip ?_
    refine Tr.seq ?_
    refine Tr.block ?_
    have w2 : IntKind.i64.wrap ((T k : Int) + (errsAt c k 0 v : Int)) = ((T (k + 1) : Nat) : Int) := by rw [hTs, wr (by omega) (by omega)]; rfl
    refine Tr.reg1 [1, 2, 5, 6] (by
        simp only [↓sxd, sxu, ↓zE, ↓exq, St.keep, ↓zD, Nat.reduceBEq, Nat.reduceAdd, Nat.reduceLT, tysW33_42]
        (repeat ((with_reducible refine And.intro ?_ ?_); (focus (first | with_reducible rfl | trivial | exact fun h => h | exact fun h => (by rw [h]; rfl) | omega | assumption))))
        refine CallO.use (RErrors_c c k v hlt (by omega) (by omega)) ?_
        try simp only [↓sxd, sxu, ↓zE, ↓exq, Nat.reduceBEq, Nat.reduceLT, w2]
        (repeat' (first | rfl | exact trivial | exact fun h => h | exact fun h => (by rw [h]; rfl) | apply And.intro | omega | exact Nat.le_of_ble_eq_true rfl))) ?_
    have w1 : IntKind.i64.wrap ((k : Int) + 1) = ((k + 1 : Nat) : Int) := by rw [wr (by omega) (by omega)]; rfl
    refine Tr.reg1 [1, 2, 5, 6] (by
        simp only [↓sxd, sxu, ↓zE, ↓exq, St.keep, Nat.reduceBEq, Nat.reduceLT, w1]
        (repeat' (first | rfl | exact trivial | exact fun h => h | exact fun h => (by rw [h]; rfl) | apply And.intro | omega | exact Nat.le_of_ble_eq_true rfl))) ?_
    exact ⟨_, _, by omega, Imp.keepAll, ⟨k + 1, hlt, rfl, rfl⟩⟩
  · have hge : k = c.codes.length := by simp at h11; omega
    subst hge
    refine Tr.exit ?_
    refine Tr.reg [4] (by
        simp only [↓sxd, sxu, ↓zE, ↓exq, St.keep, Nat.reduceBEq, Nat.reduceLT]
        (repeat' (first | rfl | exact trivial | exact fun h => h | exact fun h => (by rw [h]; rfl) | apply And.intro | omega | exact Nat.le_of_ble_eq_true rfl))) ?_
    refine Tr.ret ?_
    (refine ⟨.inr rfl, ?_⟩; first | rfl | exact ⟨rfl, rfl, trivial⟩ | exact ⟨rfl, rfl, rfl, trivial⟩ | (simp only [Res, ResL, ResOK, ↓sxd, sxu, ↓zE, ↓zC, zK, ↓exP, ↓exq, ↓zB, St.keep, ↓zL, ↓zJ, ↓zD, ↓zI, ↓zA, Nat.reduceBEq, Nat.reduceAdd, Nat.reduceLT, Nat.reduceMul, Nat.reduceSub, Nat.reduceLeDiff, Nat.reduceEqDiff, Int.reduceLE, Int.reduceLT, Int.reduceToNat, reduceIte, implies_true, sxe, tysW33_42]; (repeat' (first | rfl | exact trivial | exact fun h => h | exact fun h => (by rw [h]; rfl) | apply And.intro | omega | exact Nat.le_of_ble_eq_true rfl))))
abbrev cells (f : Nat → Nat → Bool) : List SV := (List.range 30).map fun q => B (f (q / 10) (q % 10))
theorem cellsB_len (f : Nat → Nat → Bool) : (cells f).length = 30 := by simp
theorem cellsB_get {f : Nat → Nat → Bool} {i y : Nat} (hi : i < 3) (hy : y < 10) : (cells f).getD (i * 10 + y) .unk = B (f i y) := by
  have h : i * 10 + y < 30 := by omega
  simp only [cells, List.getD_eq_getElem?_getD, List.getElem?_map, List.getElem?_range h, Option.map_some, Option.getD_some]
  rw [show (i * 10 + y) / 10 = i by omega, show (i * 10 + y) % 10 = y by omega]
theorem cellsB_set {f : Nat → Nat → Bool} {i y : Nat} (hi : i < 3) (hy : y < 10) : (cells f).set (i * 10 + y) (B true) = cells (fun a b => f a b || (a == i && b == y)) := by
  refine List.ext_getElem (by simp) fun q h1 h2 => ?_
  simp only [cells, List.length_map, List.length_range] at h2
  rw [List.getElem_set]
  simp only [cells, List.getElem_map, List.getElem_range]
  by_cases hq : i * 10 + y = q
  · subst hq
    rw [if_pos rfl, show (i * 10 + y) / 10 = i by omega, show (i * 10 + y) % 10 = y by omega]
    simp
  · rw [if_neg hq]
    have : ((q / 10 == i) && (q % 10 == y)) = false := by
      rw [← Bool.not_eq_true, Bool.and_eq_true, beq_iff_eq, beq_iff_eq]; omega
    rw [this, Bool.or_false]
theorem cellsB_congr {f g : Nat → Nat → Bool} (h : ∀ a b, a < 3 → b < 10 → f a b = g a b) : cells f = cells g := by
  refine List.map_congr_left fun q hq => ?_
  rw [List.mem_range] at hq
  rw [h _ _ (by omega) (by omega)]
theorem codes_err {c : Coding} (hk : c.check ≠ 0) : c.codesS = ([], c.check) ∧ c.errorsS = (0, c.check) := by
  have ht : c.tried = c.check := if_pos hk
  unfold Coding.codesS Coding.errorsS
  rw [if_neg (by rw [ht]; exact hk), if_neg (by rw [ht]; exact hk), ht]
  exact ⟨rfl, rfl⟩
abbrev tysW33_5 := And.intro ty.sz0 <| And.intro ty.agg0 <| And.intro ty.elem0 <| And.intro ty.sz3 <| And.intro ty.agg3 <| And.intro ty.elem3 <| And.intro ty.zero3 <| And.intro ty.und3 <| And.intro ty.sz4 <| And.intro ty.agg4 <| And.intro ty.elem4 <| And.intro ty.zero4 <| And.intro ty.und4 <| And.intro ty.sz31 <| And.intro ty.agg31 <| And.intro ty.elem31 <| And.intro ty.zero31 <| And.intro ty.und31 <| And.intro ty.sz39 <| And.intro ty.agg39 <| And.intro ty.elem39 <| And.intro ty.by39 <| And.intro ty.ez39 <| And.intro ty.zero39 <| And.intro ty.und39 <| And.intro ty.sz40 <| And.intro ty.agg40 <| And.intro ty.elem40 <| And.intro ty.sz43 <| And.intro ty.agg43 <| And.intro ty.elem43 <| And.intro ty.by43 <| And.intro ty.ez43 <| And.intro ty.zero43 <| And.intro ty.und43 <| And.intro ty.sz55 <| And.intro ty.agg55 <| And.intro ty.fld55_0 <| And.intro ty.fld55_1 <| And.intro ty.elem55 <| And.intro ty.zero55 <| And.intro ty.pl55 <| And.intro ty.sz59 <| And.intro ty.agg59 <| And.intro ty.fld59_0 <| And.intro ty.fld59_1 <| And.intro ty.elem59 <| And.intro ty.zero59 <| And.intro ty.pl59 <| And.intro ty.sz61 <| And.intro ty.agg61 <| And.intro ty.elem61 <| And.intro ty.sz63 <| And.intro ty.agg63 <| And.intro ty.elem63 <| And.intro ty.arr63 <| And.intro ty.zero63 <| And.intro ty.und63 <| And.intro ty.sz64 <| And.intro ty.agg64 <| And.intro ty.elem64 <| And.intro ty.arr64 <| And.intro ty.zero64 <| ty.und64
set_option maxHeartbeats 4000000 in
theorem SheetCodes_c (c : Coding) : CallP Tryd.prog G0 5 [c.s] (B true) := by
  refine CallP.body 194 [.tmp 2] Tryd.func5 (by kernel_rfl) rfl rfl rfl (by repeat' (first | exact Pure.d _ | exact Pure.dx _ | exact Pure.dp _ | exact fa_nil | refine fa_cons ?_ ?_ | refine Pure.agg ?_ | refine Pure.tup ?_ | refine Pure.clo ?_ ?_ | refine Pure.fp ?_ | exact Pure.mapd _ | assumption)) (by repeat' (first | exact Pure.d _ | exact Pure.dx _ | exact Pure.dp _ | exact fa_nil | refine fa_cons ?_ ?_ | refine Pure.agg ?_ | refine Pure.tup ?_ | refine Pure.clo ?_ ?_ | refine Pure.fp ?_ | exact Pure.mapd _ | assumption)) ?_
  refine Tr.reg [1] (by
      simp only [↓sxd, sxu, ↓zE, ↓exq, St.keep, ↓zI, Nat.reduceBEq, Nat.reduceAdd, Nat.reduceLT, Nat.reduceEqDiff]
      (repeat' (first | rfl | exact trivial | exact fun h => h | exact fun h => (by rw [h]; rfl) | apply And.intro | omega | exact Nat.le_of_ble_eq_true rfl))) ?_
  refine Tr.seq ?_
  refine Tr.reg [1, 35] (by
      simp only [↓sxd, sxu, ↓zE, ↓exq, ↓zB, St.keep, ↓zJ, ↓zD, ↓zA, Nat.reduceAdd, Nat.reduceLT, Nat.reduceEqDiff, sxe, tysW33_5]
      iterate 2
        (repeat ((with_reducible refine And.intro ?_ ?_); (focus (first | with_reducible rfl | trivial | exact fun h => h | exact fun h => (by rw [h]; rfl) | omega | assumption))))
        refine GdO.mk _ (fun hg => by simp only [sxu, ↓exq, ↓zD, ↓zA, Nat.reduceBEq, Nat.reduceAdd, Nat.reduceLT, Nat.reduceEqDiff, tysW33_5, hg]; (repeat' (first | rfl | exact trivial | exact fun h => h | exact fun h => (by rw [h]; rfl) | apply And.intro | omega | exact Nat.le_of_ble_eq_true rfl))) ?_
        simp only [↓sxd, sxu, ↓zE, Nat.reduceBEq, Nat.reduceLT]
      (repeat ((with_reducible refine And.intro ?_ ?_); (focus (first | with_reducible rfl | trivial | exact fun h => h | exact fun h => (by rw [h]; rfl) | omega | assumption))))
      refine GdO.mk _ (fun hg => by simp only [sxu, ↓exq, ↓zB, hg]; (repeat ((with_reducible refine And.intro ?_ ?_); (focus (first | with_reducible rfl | trivial | exact fun h => h | exact fun h => (by rw [h]; rfl) | omega | assumption)))); exact CallP.use (short_c c.codes) ⟨rfl, rfl, rfl⟩) ?_
      simp only [↓sxd, sxu, ↓zE, Nat.reduceBEq, Nat.reduceLT]
      iterate 5
        (repeat ((with_reducible refine And.intro ?_ ?_); (focus (first | with_reducible rfl | trivial | exact fun h => h | exact fun h => (by rw [h]; rfl) | omega | assumption))))
        refine GdO.mk _ (fun hg => by simp only [↓sxd, sxu, ↓exq, ↓zB, ↓zL, ↓zJ, ↓zD, ↓zA, Nat.reduceBEq, Nat.reduceAdd, Nat.reduceLT, Nat.reduceEqDiff, sxe, tysW33_5, hg]; (repeat' (first | rfl | exact trivial | exact fun h => h | exact fun h => (by rw [h]; rfl) | apply And.intro | omega | exact Nat.le_of_ble_eq_true rfl))) ?_
        simp only [↓sxd, sxu, ↓zE, ↓exq, ↓zH, Nat.reduceBEq, Nat.reduceLT]
      (repeat' (first | rfl | exact trivial | exact fun h => h | exact fun h => (by rw [h]; rfl) | apply And.intro | omega | exact Nat.le_of_ble_eq_true rfl))) ?_
  refine Tr.cond rfl (fun h35 => ?_) (fun h35 => ?_)
  · refine Tr.reg [2] (by
        simp only [↓sxd, sxu, ↓zE, St.keep, Nat.reduceLT]
        (repeat ((with_reducible refine And.intro ?_ ?_); (focus (first | with_reducible rfl | trivial | exact fun h => h | exact fun h => (by rw [h]; rfl) | omega | assumption))))
        refine CallO.use (awake_c) ?_
        try simp only [↓sxd, sxu, ↓zE, ↓exq, Nat.reduceLT]
        (repeat' (first | rfl | exact trivial | exact fun h => h | exact fun h => (by rw [h]; rfl) | apply And.intro | omega | exact Nat.le_of_ble_eq_true rfl))) ?_
    refine Tr.ret ?_
    (refine ⟨.inr rfl, ?_⟩; first | rfl | exact ⟨rfl, rfl, trivial⟩ | exact ⟨rfl, rfl, rfl, trivial⟩ | (simp only [Res, ResL, ResOK, ↓sxd, sxu, ↓zE, ↓zC, zK, ↓exP, ↓exq, ↓zB, St.keep, ↓zH, ↓zL, ↓zJ, ↓zD, ↓zN, ↓zM, ↓zI, ↓zG, ↓zQ, ↓zA, Nat.reduceBEq, Nat.reduceAdd, Nat.reduceLT, Nat.reduceMul, Nat.reduceSub, Nat.reduceLeDiff, Nat.reduceEqDiff, Int.reduceLE, Int.reduceLT, Int.reduceToNat, reduceIte, implies_true, sxe, tysW33_5]; (repeat' (first | rfl | exact trivial | exact fun h => h | exact fun h => (by rw [h]; rfl) | apply And.intro | omega | exact Nat.le_of_ble_eq_true rfl))))
  · have hfx : c.codes.length ≤ 5 ∧ shortB c.codes = true ∧ c.wrong.length ≤ 13 := by
      simp only [Bool.or_eq_false_iff, decide_eq_false_iff_not, Bool.not_eq_false'] at h35
      obtain ⟨⟨a, b⟩, d⟩ := h35
      exact ⟨by omega, b, by omega⟩
    obtain ⟨h1, h2, h3⟩ := hfx
    obtain ⟨_, h5⟩ := short_iff.1 h2
    have hcc := Coding_c c (by omega) (fun x hx => by have := h5 x hx; omega) (by omega)
    refine Tr.skip ?_
    refine Tr.reg [1, 3] (by
        simp only [↓sxd, sxu, ↓zE, ↓exq, St.keep, ↓zD, Nat.reduceAdd, Nat.reduceLT, tysW33_5]
        (repeat ((with_reducible refine And.intro ?_ ?_); (focus (first | with_reducible rfl | trivial | exact fun h => h | exact fun h => (by rw [h]; rfl) | omega | assumption))))
        refine CallO.use (CodingFault_c c (by omega) (by omega) (fun x hx => by have := h5 x hx; omega)) ?_
        try simp only [↓sxd, sxu, ↓zE, ↓exq, Nat.reduceBEq, Nat.reduceLT]
        (repeat' (first | rfl | exact trivial | exact fun h => h | exact fun h => (by rw [h]; rfl) | apply And.intro | omega | exact Nat.le_of_ble_eq_true rfl))) ?_
    refine Tr.seq ?_
    refine Tr.reg [1, 3, 48] (by
        simp only [↓sxd, sxu, ↓zE, ↓exq, St.keep, Nat.reduceBEq, Nat.reduceLT]
        iterate 2
          (repeat ((with_reducible refine And.intro ?_ ?_); (focus (first | with_reducible rfl | trivial | exact fun h => h | exact fun h => (by rw [h]; rfl) | omega | assumption))))
          refine GdO.mk _ (fun hg => by simp only [sxu, ↓exq, ↓zD, ↓zA, Nat.reduceBEq, Nat.reduceAdd, Nat.reduceLT, Nat.reduceEqDiff, tysW33_5, hg]; (repeat' (first | rfl | exact trivial | exact fun h => h | exact fun h => (by rw [h]; rfl) | apply And.intro | omega | exact Nat.le_of_ble_eq_true rfl))) ?_
          simp only [↓sxd, sxu, ↓zE, Nat.reduceBEq, Nat.reduceLT]
        (repeat ((with_reducible refine And.intro ?_ ?_); (focus (first | with_reducible rfl | trivial | exact fun h => h | exact fun h => (by rw [h]; rfl) | omega | assumption))))
        refine GdO.mk _ (fun hg => by
          have h0 : 0 < c.codes.length := (coding_ok (by simpa using hg)).2.1
          simp only [↓sxd, sxu, ↓exq, Int.reduceLE, sxe, tysW33_5, hg, h0]
          (repeat' (first | rfl | exact trivial | exact fun h => h | exact fun h => (by rw [h]; rfl) | apply And.intro | omega | exact Nat.le_of_ble_eq_true rfl))) ?_
        try simp only [↓sxd, sxu, ↓zE, Nat.reduceBEq, Nat.reduceLT]
        (repeat ((with_reducible refine And.intro ?_ ?_); (focus (first | with_reducible rfl | trivial | exact fun h => h | exact fun h => (by rw [h]; rfl) | omega | assumption))))
        refine GdO.mk _ (fun hg => by
          have h0 : 0 < c.codes.length := (coding_ok (by simpa using hg)).2.1
          simp only [sxu, ↓exq, ↓zD, Nat.reduceLT, tysW33_5, hg]
          (repeat' (first | rfl | exact trivial | exact fun h => h | exact fun h => (by rw [h]; rfl) | apply And.intro | omega | exact Nat.le_of_ble_eq_true rfl))) ?_
        try simp only [↓sxd, sxu, ↓zE, Nat.reduceBEq, Nat.reduceLT]
        iterate 2
          (repeat ((with_reducible refine And.intro ?_ ?_); (focus (first | with_reducible rfl | trivial | exact fun h => h | exact fun h => (by rw [h]; rfl) | omega | assumption))))
          refine GdO.mk _ (fun hg => by simp only [↓sxd, sxu, ↓exq, ↓zB, ↓zJ, sxe, tysW33_5, hg]; (repeat' (first | rfl | exact trivial | exact fun h => h | exact fun h => (by rw [h]; rfl) | apply And.intro | omega | exact Nat.le_of_ble_eq_true rfl))) ?_
          simp only [↓sxd, sxu, ↓zE, ↓exq, ↓zH, Nat.reduceBEq, Nat.reduceLT]
        (repeat' (first | rfl | exact trivial | exact fun h => h | exact fun h => (by rw [h]; rfl) | apply And.intro | omega | exact Nat.le_of_ble_eq_true rfl))) ?_
    refine Tr.cond rfl (fun h48 => ?_) (fun h48 => ?_)
    · refine Tr.reg [2] (by
          simp only [↓sxd, sxu, ↓zE, St.keep, Nat.reduceLT]
          (repeat ((with_reducible refine And.intro ?_ ?_); (focus (first | with_reducible rfl | trivial | exact fun h => h | exact fun h => (by rw [h]; rfl) | omega | assumption))))
          refine CallO.use (awake_c) ?_
          try simp only [↓sxd, sxu, ↓zE, ↓exq, Nat.reduceLT]
          (repeat' (first | rfl | exact trivial | exact fun h => h | exact fun h => (by rw [h]; rfl) | apply And.intro | omega | exact Nat.le_of_ble_eq_true rfl))) ?_
      refine Tr.ret ?_
      (refine ⟨.inr rfl, ?_⟩; first | rfl | exact ⟨rfl, rfl, trivial⟩ | exact ⟨rfl, rfl, rfl, trivial⟩ | (simp only [Res, ResL, ResOK, ↓sxd, sxu, ↓zE, ↓zC, zK, ↓exP, ↓exq, ↓zB, St.keep, ↓zH, ↓zL, ↓zJ, ↓zD, ↓zN, ↓zM, ↓zI, ↓zG, ↓zQ, ↓zA, Nat.reduceBEq, Nat.reduceAdd, Nat.reduceLT, Nat.reduceMul, Nat.reduceSub, Nat.reduceLeDiff, Nat.reduceEqDiff, Int.reduceLE, Int.reduceLT, Int.reduceToNat, reduceIte, implies_true, sxe, tysW33_5]; (repeat' (first | rfl | exact trivial | exact fun h => h | exact fun h => (by rw [h]; rfl) | apply And.intro | omega | exact Nat.le_of_ble_eq_true rfl))))
    · have hC := Codes_c c (by omega) (by omega)
      have hE := Errors_c c (by omega) (by omega)
      obtain ⟨l, e, hle⟩ : ∃ l e, c.codesS = (l, e) := ⟨_, _, rfl⟩
      obtain ⟨n, f, hnf⟩ : ∃ n f, c.errorsS = (n, f) := ⟨_, _, rfl⟩
      rw [hle] at hC
      rw [hnf] at hE
      refine Tr.skip ?_
      refine Tr.reg [1, 3, 4, 5] (by
          simp only [↓sxd, sxu, ↓zE, ↓exq, St.keep, ↓zD, Nat.reduceAdd, Nat.reduceLT, tysW33_5]
          (repeat ((with_reducible refine And.intro ?_ ?_); (focus (first | with_reducible rfl | trivial | exact fun h => h | exact fun h => (by rw [h]; rfl) | omega | assumption))))
          refine CallO.use (hcc) ?_
          try simp only [↓sxd, sxu, ↓zE, Nat.reduceLT]
          (repeat ((with_reducible refine And.intro ?_ ?_); (focus (first | with_reducible rfl | trivial | exact fun h => h | exact fun h => (by rw [h]; rfl) | omega | assumption))))
          refine CallO.use (hC) ?_
          try simp only [↓sxd, sxu, ↓zE, ↓exq, ↓zN, Nat.reduceBEq, Nat.reduceAdd, Nat.reduceLT]
          (repeat' (first | rfl | exact trivial | exact fun h => h | exact fun h => (by rw [h]; rfl) | apply And.intro | omega | exact Nat.le_of_ble_eq_true rfl))) ?_
      refine Tr.reg [1, 3, 4, 5, 6, 7] (by
          simp only [↓sxd, sxu, ↓zE, ↓exq, St.keep, ↓zD, Nat.reduceAdd, Nat.reduceLT, tysW33_5]
          (repeat ((with_reducible refine And.intro ?_ ?_); (focus (first | with_reducible rfl | trivial | exact fun h => h | exact fun h => (by rw [h]; rfl) | omega | assumption))))
          refine CallO.use (hcc) ?_
          try simp only [↓sxd, sxu, ↓zE, Nat.reduceLT]
          (repeat ((with_reducible refine And.intro ?_ ?_); (focus (first | with_reducible rfl | trivial | exact fun h => h | exact fun h => (by rw [h]; rfl) | omega | assumption))))
          refine CallO.use (hE) ?_
          try simp only [↓sxd, sxu, ↓zE, ↓exq, ↓zN, Nat.reduceBEq, Nat.reduceAdd, Nat.reduceLT]
          (repeat' (first | rfl | exact trivial | exact fun h => h | exact fun h => (by rw [h]; rfl) | apply And.intro | omega | exact Nat.le_of_ble_eq_true rfl))) ?_
      refine Tr.seq ?_
      refine Tr.reg [1, 3, 4, 5, 6, 7, 63] (by
          simp only [↓sxd, sxu, ↓zE, ↓exq, St.keep, Nat.reduceBEq, Nat.reduceLT]
          (repeat' (first | rfl | exact trivial | exact fun h => h | exact fun h => (by rw [h]; rfl) | apply And.intro | omega | exact Nat.le_of_ble_eq_true rfl))) ?_
      refine Tr.cond rfl (fun h63 => ?_) (fun h63 => ?_)
      · have hk : c.check ≠ 0 := by simpa using h63
        obtain ⟨g1, g2⟩ := codes_err hk
        rw [hle] at g1
        rw [hnf] at g2
        simp only [Prod.mk.injEq] at g1 g2
        obtain ⟨rfl, rfl⟩ := g1
        obtain ⟨rfl, rfl⟩ := g2
        refine Tr.reg [2] (by
            simp only [↓sxd, sxu, ↓zE, ↓exq, St.keep, Nat.reduceBEq, Nat.reduceLT]
            iterate 8
              (repeat ((with_reducible refine And.intro ?_ ?_); (focus (first | with_reducible rfl | trivial | exact fun h => h | exact fun h => (by rw [h]; rfl) | omega | assumption))))
              refine GdO.mk _ (fun hg => by simp only [↓sxd, sxu, ↓exq, ↓zB, ↓zJ, Nat.reduceBEq, sxe, tysW33_5]; (repeat' (first | rfl | exact trivial | exact fun h => h | exact fun h => (by rw [h]; rfl) | apply And.intro | omega | exact Nat.le_of_ble_eq_true rfl))) ?_
              simp only [↓sxd, sxu, ↓zE, ↓exq, ↓zH, Nat.reduceBEq, Nat.reduceLT]
            (repeat ((with_reducible refine And.intro ?_ ?_); (focus (first | with_reducible rfl | trivial | exact fun h => h | exact fun h => (by rw [h]; rfl) | omega | assumption))))
            refine GdO.mk _ (fun hg => by simp only [sxu, ↓exq, ↓zB]; (repeat ((with_reducible refine And.intro ?_ ?_); (focus (first | with_reducible rfl | trivial | exact fun h => h | exact fun h => (by rw [h]; rfl) | omega | assumption)))); exact CallP.use (awake_c) ⟨rfl, rfl, rfl⟩) ?_
            simp only [↓sxd, sxu, ↓zE, ↓exq, ↓zH, Nat.reduceBEq, Nat.reduceLT]
            (repeat' (first | rfl | exact trivial | exact fun h => h | exact fun h => (by rw [h]; rfl) | apply And.intro | omega | exact Nat.le_of_ble_eq_true rfl))) ?_
        refine Tr.ret ?_
        (refine ⟨.inr rfl, ?_⟩; first | rfl | exact ⟨rfl, rfl, trivial⟩ | exact ⟨rfl, rfl, rfl, trivial⟩ | (simp only [Res, ResL, ResOK, ↓sxd, sxu, ↓zE, ↓zC, zK, ↓exP, ↓exq, ↓zB, St.keep, ↓zH, ↓zL, ↓zJ, ↓zD, ↓zN, ↓zM, ↓zI, ↓zG, ↓zQ, ↓zA, Nat.reduceBEq, Nat.reduceAdd, Nat.reduceLT, Nat.reduceMul, Nat.reduceSub, Nat.reduceLeDiff, Nat.reduceEqDiff, Int.reduceLE, Int.reduceLT, Int.reduceToNat, reduceIte, implies_true, sxe, tysW33_5]; (repeat' (first | rfl | exact trivial | exact fun h => h | exact fun h => (by rw [h]; rfl) | apply And.intro | omega | exact Nat.le_of_ble_eq_true rfl))))
      · have hk : c.check = 0 := by simpa using h63
        have hf := coding_fine hk
        have hcols : (c.codes.getD 0 []).length = c.cols := rfl
        have hc3 : c.cols ≤ 3 := by
          have : _ := h48
          rw [hk] at this
          simp only [beq_self_eq_true, Bool.true_and, decide_eq_false_iff_not] at this
          omega
        have hn0 := hf.n0
        refine Tr.skip ?_
        refine Tr.reg [1, 4, 5, 6, 7, 8, 9, 10] (by
            simp only [↓sxd, sxu, ↓zE, ↓exq, ↓zB, St.keep, ↓zJ, ↓zD, ↓zA, Nat.reduceBEq, Nat.reduceAdd, Nat.reduceLT, Nat.reduceEqDiff, Int.reduceLE, sxe, tysW33_5, hn0, hcols]
            (repeat' (first | rfl | exact trivial | exact fun h => h | exact fun h => (by rw [h]; rfl) | apply And.intro | omega | exact Nat.le_of_ble_eq_true rfl))) ?_
        refine Tr.reg [1, 4, 5, 6, 7, 8, 9, 10, 11] (by
            simp only [↓sxd, sxu, ↓zE, ↓exq, St.keep, ↓zM, Nat.reduceBEq, Nat.reduceAdd, Nat.reduceLT, Nat.reduceEqDiff, tysW33_5]
            (repeat' (first | rfl | exact trivial | exact fun h => h | exact fun h => (by rw [h]; rfl) | apply And.intro | omega | exact Nat.le_of_ble_eq_true rfl))) ?_
        refine Tr.seq ?_
        refine Tr.reg [1, 4, 5, 6, 7, 8, 9, 10, 11, 12] (by
            simp only [↓sxd, sxu, ↓zE, ↓exq, St.keep, Nat.reduceBEq, Nat.reduceLT]
            (repeat' (first | rfl | exact trivial | exact fun h => h | exact fun h => (by rw [h]; rfl) | apply And.intro | omega | exact Nat.le_of_ble_eq_true rfl))) ?_
        refine Tr.imp (st' := ⟨[(1, .ptr 0 0 0), (4, SL l), (5, I e), (6, I n), (7, I f), (8, I c.cols), (9, I (10 ^ 0 : Nat)), (10, I (-1)), (11, .ptr 1 0 0), (12, I 0)], [(1, .arr 30 [cells fun _ _ => false]), (0, .arr 2 [[SL c.codes, SI c.wrong]])], 2, 194, [], 0⟩) (Imp.keepAll) (Tr.block (Tr.loopI (fun mm ss => ∃ (i : Nat), (i ≤ c.cols) ∧ c.cols - i = mm ∧ ss = ⟨[(1, .ptr 0 0 0), (4, SL l), (5, I e), (6, I n), (7, I f), (8, I c.cols), (9, I (10 ^ i : Nat)), (10, I (-1)), (11, .ptr 1 0 0), (12, I i)], [(1, .arr 30 [cells fun _ _ => false]), (0, .arr 2 [[SL c.codes, SI c.wrong]])], 2, 194, [], 0⟩) _ ⟨0, ?_, rfl, rfl⟩ ?_))
        · exact Nat.zero_le _
        rintro mm ss ⟨i, hI, rfl, rfl⟩
        refine Tr.seq ?_
        refine Tr.reg [1, 4, 5, 6, 7, 8, 9, 10, 11, 12, 91] (by
            simp only [↓sxd, sxu, ↓zE, ↓exq, St.keep, Nat.reduceBEq, Nat.reduceLT, sxe]
            (repeat' (first | rfl | exact trivial | exact fun h => h | exact fun h => (by rw [h]; rfl) | apply And.intro | omega | exact Nat.le_of_ble_eq_true rfl))) ?_
        refine Tr.cond rfl (fun h91 => ?_) (fun h91 => ?_)
        · have hlt : i < c.cols := by have := of_decide_eq_true h91; omega
          have hpw : 10 ^ i ≤ 10 ^ 2 := Nat.pow_le_pow_right (n := 10) (by omega) (by omega)
          refine Tr.skip ?_
          refine Tr.seq ?_
          refine Tr.block ?_
          have w10 : IntKind.i64.wrap (((10 ^ i : Nat) : Int) * 10) = ((10 ^ (i + 1) : Nat) : Int) := by
            have h : ∀ z : Nat, z ≤ 100 → IntKind.i64.wrap ((z : Int) * 10) = ((z * 10 : Nat) : Int) := fun z hz => by rw [wr (by omega) (by omega)]; rfl
            rw [Nat.pow_succ]; exact h _ (by omega)
          refine Tr.reg1 [1, 4, 5, 6, 7, 8, 9, 10, 11, 12] (by
              simp only [↓sxd, sxu, ↓zE, ↓exq, St.keep, Nat.reduceBEq, Nat.reduceLT, w10]
              (repeat' (first | rfl | exact trivial | exact fun h => h | exact fun h => (by rw [h]; rfl) | apply And.intro | omega | exact Nat.le_of_ble_eq_true rfl))) ?_
          have w1 : IntKind.i64.wrap ((i : Int) + 1) = ((i + 1 : Nat) : Int) := by rw [wr (by omega) (by omega)]; rfl
          refine Tr.reg1 [1, 4, 5, 6, 7, 8, 9, 10, 11, 12] (by
              simp only [↓sxd, sxu, ↓zE, ↓exq, St.keep, Nat.reduceBEq, Nat.reduceLT, w1]
              (repeat' (first | rfl | exact trivial | exact fun h => h | exact fun h => (by rw [h]; rfl) | apply And.intro | omega | exact Nat.le_of_ble_eq_true rfl))) ?_
          exact ⟨_, _, by omega, Imp.keepAll, ⟨i + 1, hlt, rfl, rfl⟩⟩
        · have hge : i = c.cols := by have := of_decide_eq_false h91; omega
          have hpw : 10 ^ c.cols ≤ 10 ^ 3 := Nat.pow_le_pow_right (n := 10) (by omega) hc3
          rw [hge]
          refine Tr.exit ?_
          refine Tr.seq ?_
          refine Tr.reg [1, 4, 5, 6, 7, 8, 9, 10, 11, 13] (by
              simp only [↓sxd, sxu, ↓zE, ↓exq, St.keep, Nat.reduceBEq, Nat.reduceLT]
              (repeat' (first | rfl | exact trivial | exact fun h => h | exact fun h => (by rw [h]; rfl) | apply And.intro | omega | exact Nat.le_of_ble_eq_true rfl))) ?_
          refine Tr.imp (st' := ⟨[(1, .ptr 0 0 0), (4, SL l), (5, I e), (6, I n), (7, I f), (8, I c.cols), (9, I (10 ^ c.cols : Nat)), (10, I (c.leastTo c.cols 0)), (11, .ptr 1 0 0), (13, I 0)], [(1, .arr 30 [cells (c.possTo c.cols 0)]), (0, .arr 2 [[SL c.codes, SI c.wrong]])], 2, 194, [], 0⟩) (by rw [cellsB_congr (f := c.possTo c.cols 0) (g := fun _ _ => false) (fun a b _ _ => possTo_zero)]; exact Imp.keepAll) (Tr.block (Tr.loopI (fun mm ss => ∃ (k : Nat), (k ≤ 10 ^ c.cols) ∧ 10 ^ c.cols - k = mm ∧ ss = ⟨[(1, .ptr 0 0 0), (4, SL l), (5, I e), (6, I n), (7, I f), (8, I c.cols), (9, I (10 ^ c.cols : Nat)), (10, I (c.leastTo c.cols k)), (11, .ptr 1 0 0), (13, I k)], [(1, .arr 30 [cells (c.possTo c.cols k)]), (0, .arr 2 [[SL c.codes, SI c.wrong]])], 2, 194, [], 0⟩) _ ⟨0, ?_, rfl, rfl⟩ ?_))
          · exact Nat.zero_le _
          rintro mm ss ⟨k, hI, rfl, rfl⟩
          refine Tr.seq ?_
          refine Tr.reg [1, 4, 5, 6, 7, 8, 9, 10, 11, 13, 98] (by
              simp only [↓sxd, sxu, ↓zE, ↓exq, St.keep, Nat.reduceBEq, Nat.reduceLT, sxe]
              (repeat' (first | rfl | exact trivial | exact fun h => h | exact fun h => (by rw [h]; rfl) | apply And.intro | omega | exact Nat.le_of_ble_eq_true rfl))) ?_
          refine Tr.cond rfl (fun h98 => ?_) (fun h98 => ?_)
          · have hkl : k < 10 ^ c.cols := by have := of_decide_eq_true h98; omega
            have hnl := nth_len c.cols k
            have hms : c.leastTo c.cols (k + 1) = if c.isSol (nth k c.cols) then (if c.leastTo c.cols k < 0 ∨ (totAt c 0 (nth k c.cols) : Int) < c.leastTo c.cols k then (totAt c 0 (nth k c.cols) : Int) else c.leastTo c.cols k) else c.leastTo c.cols k := rfl
            have hps : ∀ a b, c.possTo c.cols (k + 1) a b = (c.possTo c.cols k a b || (c.isSol (nth k c.cols) && (decide (a < c.cols) && ((nth k c.cols).getD a 0 == (b : Int))))) := fun a b => possTo_succ
            refine Tr.skip ?_
            refine Tr.seq ?_
            refine Tr.block ?_
            refine Tr.reg [1, 4, 5, 6, 7, 8, 9, 10, 11, 13, 14] (by
                simp only [↓sxd, sxu, ↓zE, ↓exq, St.keep, Nat.reduceBEq, Nat.reduceLT]
                (repeat ((with_reducible refine And.intro ?_ ?_); (focus (first | with_reducible rfl | trivial | exact fun h => h | exact fun h => (by rw [h]; rfl) | omega | assumption))))
                refine CallO.use (Nth_c k c.cols (by omega) (by omega)) ?_
                try simp only [↓sxd, sxu, ↓zE, ↓exq, Nat.reduceBEq, Nat.reduceLT]
                (repeat' (first | rfl | exact trivial | exact fun h => h | exact fun h => (by rw [h]; rfl) | apply And.intro | omega | exact Nat.le_of_ble_eq_true rfl))) ?_
            refine Tr.seq ?_
            refine Tr.reg [1, 4, 5, 6, 7, 8, 9, 10, 11, 13, 14, 107] (by
                simp only [↓sxd, sxu, ↓zE, ↓exq, St.keep, ↓zD, Nat.reduceBEq, Nat.reduceAdd, Nat.reduceLT, tysW33_5]
                (repeat ((with_reducible refine And.intro ?_ ?_); (focus (first | with_reducible rfl | trivial | exact fun h => h | exact fun h => (by rw [h]; rfl) | omega | assumption))))
                refine CallO.use (IsSolution_c c hf (nth k c.cols) (by omega)) ?_
                try simp only [↓sxd, sxu, ↓zE, ↓exq, ↓zL, Nat.reduceBEq, Nat.reduceLT]
                (repeat' (first | rfl | exact trivial | exact fun h => h | exact fun h => (by rw [h]; rfl) | apply And.intro | omega | exact Nat.le_of_ble_eq_true rfl))) ?_
            refine Tr.cond rfl (fun h107 => ?_) (fun h107 => ?_)
            · have hs : c.isSol (nth k c.cols) = false := by simpa using h107
              have hlk : c.leastTo c.cols (k + 1) = c.leastTo c.cols k := by rw [hms, hs]; rfl
              have hck : cells (c.possTo c.cols (k + 1)) = cells (c.possTo c.cols k) := cellsB_congr fun a b _ _ => by rw [hps, hs]; simp
              refine Tr.exit ?_
              have w2 : IntKind.i64.wrap ((k : Int) + 1) = ((k + 1 : Nat) : Int) := by rw [wr (by omega) (by omega)]; rfl
              refine Tr.reg1 [1, 4, 5, 6, 7, 8, 9, 10, 11, 13] (by
                  simp only [↓sxd, sxu, ↓zE, ↓exq, St.keep, Nat.reduceBEq, Nat.reduceLT, w2]
                  (repeat' (first | rfl | exact trivial | exact fun h => h | exact fun h => (by rw [h]; rfl) | apply And.intro | omega | exact Nat.le_of_ble_eq_true rfl))) ?_
              refine ⟨_, _, ?_, ?_, ⟨k + 1, hkl, rfl, rfl⟩⟩
              · omega
              · first |(rw [hck]; exact Imp.keepAll) |(rw [hlk, hck]; exact Imp.keepAll) |(exact Imp.keepAll)
            · have hs : c.isSol (nth k c.cols) = true := by simpa using h107
              have hcd := (isSol_iff.1 hs).cod
              have hck : cells (c.possTo c.cols (k + 1)) = cells (fun a b => c.possTo c.cols k a b || (decide (a < c.cols) && ((nth k c.cols).getD a 0 == (b : Int)))) := cellsB_congr fun a b _ _ => by rw [hps, hs, Bool.true_and]
              refine Tr.skip ?_
              refine Tr.seq ?_
              refine Tr.reg [1, 4, 5, 6, 7, 8, 9, 10, 11, 13, 14, 15] (by
                  simp only [↓sxd, sxu, ↓zE, ↓exq, St.keep, ↓zD, Nat.reduceBEq, Nat.reduceAdd, Nat.reduceLT, tysW33_5]
                  (repeat ((with_reducible refine And.intro ?_ ?_); (focus (first | with_reducible rfl | trivial | exact fun h => h | exact fun h => (by rw [h]; rfl) | omega | assumption))))
                  refine CallO.use (Total_c c hf (nth k c.cols) hnl) ?_
                  try simp only [↓sxd, sxu, ↓zE, ↓exq, Nat.reduceBEq, Nat.reduceLT]
                  (repeat' (first | rfl | exact trivial | exact fun h => h | exact fun h => (by rw [h]; rfl) | apply And.intro | omega | exact Nat.le_of_ble_eq_true rfl))) ?_
              refine Tr.reg [1, 4, 5, 6, 7, 8, 9, 10, 11, 13, 14, 15, 117] (by
                  simp only [↓sxd, sxu, ↓zE, ↓exq, St.keep, Nat.reduceBEq, Nat.reduceLT]
                  iterate 3
                    (repeat ((with_reducible refine And.intro ?_ ?_); (focus (first | with_reducible rfl | trivial | exact fun h => h | exact fun h => (by rw [h]; rfl) | omega | assumption))))
                    refine GdO.mk _ (fun hg => by simp only [↓sxd, sxu, ↓exq, Nat.reduceBEq, hg]; (repeat' (first | rfl | exact trivial | exact fun h => h | exact fun h => (by rw [h]; rfl) | apply And.intro | omega | exact Nat.le_of_ble_eq_true rfl))) ?_
                    simp only [↓sxd, sxu, ↓zE, ↓exq, ↓zH, Nat.reduceBEq, Nat.reduceLT]
                  (repeat' (first | rfl | exact trivial | exact fun h => h | exact fun h => (by rw [h]; rfl) | apply And.intro | omega | exact Nat.le_of_ble_eq_true rfl))) ?_
              refine Tr.join2 (st' := ⟨[(1, .ptr 0 0 0), (4, SL l), (5, I e), (6, I n), (7, I f), (8, I c.cols), (9, I (10 ^ c.cols : Nat)), (10, I (c.leastTo c.cols (k + 1))), (11, .ptr 1 0 0), (13, I k), (14, SI (nth k c.cols))], [(1, .arr 30 [cells (c.possTo c.cols k)]), (0, .arr 2 [[SL c.codes, SI c.wrong]])], 2, 194, [], 0⟩) ?_ ?_
              ·
                refine Tr.cond rfl (fun h117 => ?_) (fun h117 => ?_)
                · have hlk : c.leastTo c.cols (k + 1) = (totAt c 0 (nth k c.cols) : Int) := by
                    rw [hms, hs]
                    simp only [if_true]
                    rw [if_pos (by simpa only [Bool.or_eq_true, decide_eq_true_eq] using h117)]
                  refine Tr.reg1 [1, 4, 5, 6, 7, 8, 9, 10, 11, 13, 14] (by
                      simp only [↓sxd, sxu, ↓zE, ↓exq, St.keep, Nat.reduceBEq, Nat.reduceLT]
                      (repeat' (first | rfl | exact trivial | exact fun h => h | exact fun h => (by rw [h]; rfl) | apply And.intro | omega | exact Nat.le_of_ble_eq_true rfl))) ?_
                  exact ⟨_, by rw [hlk]; exact Imp.keep [1, 4, 5, 6, 7, 8, 9, 10, 11, 13, 14], rfl⟩
                · have hlk : c.leastTo c.cols (k + 1) = c.leastTo c.cols k := by
                    rw [hms, hs]
                    simp only [if_true]
                    rw [if_neg (by simpa only [Bool.or_eq_false_iff, decide_eq_false_iff_not, not_or] using h117)]
                  refine Tr.skip ?_
                  exact ⟨_, by rw [hlk]; exact Imp.keep [1, 4, 5, 6, 7, 8, 9, 10, 11, 13, 14], rfl⟩
              refine Tr.reg [1, 4, 5, 6, 7, 8, 9, 10, 11, 13, 14, 16] (by
                  simp only [↓sxd, sxu, ↓zE, ↓exq, St.keep, Nat.reduceBEq, Nat.reduceLT]
                  (repeat' (first | rfl | exact trivial | exact fun h => h | exact fun h => (by rw [h]; rfl) | apply And.intro | omega | exact Nat.le_of_ble_eq_true rfl))) ?_
              refine Tr.imp (st' := ⟨[(1, .ptr 0 0 0), (4, SL l), (5, I e), (6, I n), (7, I f), (8, I c.cols), (9, I (10 ^ c.cols : Nat)), (10, I (c.leastTo c.cols (k + 1))), (11, .ptr 1 0 0), (13, I k), (14, SI (nth k c.cols)), (16, I 0)], [(1, .arr 30 [cells fun a b => c.possTo c.cols k a b || (decide (a < 0) && ((nth k c.cols).getD a 0 == (b : Int)))]), (0, .arr 2 [[SL c.codes, SI c.wrong]])], 2, 194, [], 0⟩) (by rw [cellsB_congr (f := fun a b => c.possTo c.cols k a b || (decide (a < 0) && ((nth k c.cols).getD a 0 == (b : Int)))) (g := c.possTo c.cols k) (fun a b _ _ => by simp)]; exact Imp.keepAll) (Tr.block (Tr.loopI (fun mm ss => ∃ (i : Nat), (i ≤ c.cols) ∧ c.cols - i = mm ∧ ss = ⟨[(1, .ptr 0 0 0), (4, SL l), (5, I e), (6, I n), (7, I f), (8, I c.cols), (9, I (10 ^ c.cols : Nat)), (10, I (c.leastTo c.cols (k + 1))), (11, .ptr 1 0 0), (13, I k), (14, SI (nth k c.cols)), (16, I i)], [(1, .arr 30 [cells fun a b => c.possTo c.cols k a b || (decide (a < i) && ((nth k c.cols).getD a 0 == (b : Int)))]), (0, .arr 2 [[SL c.codes, SI c.wrong]])], 2, 194, [], 0⟩) _ ⟨0, ?_, rfl, rfl⟩ ?_))
              · exact Nat.zero_le _
              rintro mm ss ⟨i, hI, rfl, rfl⟩
              refine Tr.seq ?_
              refine Tr.reg [1, 4, 5, 6, 7, 8, 9, 10, 11, 13, 14, 16, 121] (by
                  simp only [↓sxd, sxu, ↓zE, ↓exq, St.keep, Nat.reduceBEq, Nat.reduceLT, sxe]
                  (repeat' (first | rfl | exact trivial | exact fun h => h | exact fun h => (by rw [h]; rfl) | apply And.intro | omega | exact Nat.le_of_ble_eq_true rfl))) ?_
              refine Tr.cond rfl (fun h121 => ?_) (fun h121 => ?_)
              · have hlt3 : i < c.cols := by have := of_decide_eq_true h121; omega
                have hi3 : i < 3 := by omega
                have hin : i < (nth k c.cols).length := by omega
                have hx := hcd _ (getD_mem (d := 0) hin)
                obtain ⟨y, hy⟩ := Int.eq_ofNat_of_zero_le hx.1
                have hy10 : y < 10 := by omega
                refine Tr.skip ?_
                refine Tr.seq ?_
                refine Tr.block ?_
                refine Tr.regD1 [0, 1, 2, 3, 4, 5, 6, 7] [7] [] [1, 4, 5, 6, 7, 8, 9, 10, 11, 13, 14, 16] mix (by kernel_rfl) (by
                    simp only [↓sxd, sxu, ↓zC, zK, ↓exq, St.keep, ↓zD, Nat.reduceBEq, Nat.reduceAdd, Nat.reduceLT, Nat.reduceLeDiff, Nat.reduceEqDiff, sxe, tysW33_5, hin, hy, hy10, hi3, cellsB_set hi3 hy10]
                    (repeat' (first | rfl | exact trivial | exact fun h => h | exact fun h => (by rw [h]; rfl) | apply And.intro | omega | exact Nat.le_of_ble_eq_true rfl))) ?_
                have w3 : IntKind.i64.wrap ((i : Int) + 1) = ((i + 1 : Nat) : Int) := by rw [wr (by omega) (by omega)]; rfl
                refine Tr.reg1 [1, 4, 5, 6, 7, 8, 9, 10, 11, 13, 14, 16] (by
                    simp only [↓sxd, sxu, ↓zE, ↓exq, St.keep, Nat.reduceBEq, Nat.reduceLT, w3]
                    (repeat' (first | rfl | exact trivial | exact fun h => h | exact fun h => (by rw [h]; rfl) | apply And.intro | omega | exact Nat.le_of_ble_eq_true rfl))) ?_
                refine ⟨_, _, ?_, ?_, ⟨i + 1, hlt3, rfl, rfl⟩⟩
                · omega
                · rw [cellsB_congr (f := fun a b => c.possTo c.cols k a b || (decide (a < i + 1) && ((nth k c.cols).getD a 0 == (b : Int)))) (g := fun a b => (c.possTo c.cols k a b || (decide (a < i) && ((nth k c.cols).getD a 0 == (b : Int)))) || (a == i && b == y)) (fun a b _ _ => by
                    by_cases hai : a = i
                    · subst hai
                      rw [hy, ib]
                      simp only [Nat.lt_irrefl, decide_false, Bool.false_and, Bool.or_false, beq_self_eq_true, Bool.true_and]
                      rw [decide_eq_true (by omega), Bool.true_and, Bool.beq_comm]
                    · have e1 : decide (a < i + 1) = decide (a < i) := decide_eq_decide.2 (by omega)
                      have e2 : (a == i) = false := by simpa using hai
                      rw [e1, e2]; simp)]
                  exact Imp.keepAll
              · have hge3 : i = c.cols := by have := of_decide_eq_false h121; omega
                rw [hge3, ← hck]
                refine Tr.exit ?_
                have w2 : IntKind.i64.wrap ((k : Int) + 1) = ((k + 1 : Nat) : Int) := by rw [wr (by omega) (by omega)]; rfl
                refine Tr.reg1 [1, 4, 5, 6, 7, 8, 9, 10, 11, 13] (by
                    simp only [↓sxd, sxu, ↓zE, ↓exq, St.keep, Nat.reduceBEq, Nat.reduceLT, w2]
                    (repeat' (first | rfl | exact trivial | exact fun h => h | exact fun h => (by rw [h]; rfl) | apply And.intro | omega | exact Nat.le_of_ble_eq_true rfl))) ?_
                refine ⟨_, _, ?_, ?_, ⟨k + 1, hkl, rfl, rfl⟩⟩
                · omega
                · first |(rw [hck]; exact Imp.keepAll) |(rw [hlk, hck]; exact Imp.keepAll) |(exact Imp.keepAll)
          · have hge2 : k = 10 ^ c.cols := by have := of_decide_eq_false h98; omega
            refine Tr.exit ?_
            refine Tr.seq ?_
            subst hge2
            refine Tr.reg [4, 5, 6, 7, 8, 10, 11, 132] (by
                simp only [↓sxd, sxu, ↓zE, ↓exq, St.keep, Nat.reduceBEq, Nat.reduceLT]
                (repeat' (first | rfl | exact trivial | exact fun h => h | exact fun h => (by rw [h]; rfl) | apply And.intro | omega | exact Nat.le_of_ble_eq_true rfl))) ?_
            refine Tr.cond rfl (fun h132 => ?_) (fun h132 => ?_)
            · have hneg : c.leastTo c.cols (10 ^ c.cols) < 0 := of_decide_eq_true h132
              obtain ⟨g1, g2⟩ := codes_no hf hk hneg
              rw [hle] at g1
              rw [hnf] at g2
              simp only [Prod.mk.injEq] at g1 g2
              obtain ⟨rfl, rfl⟩ := g1
              obtain ⟨rfl, rfl⟩ := g2
              refine Tr.reg [2] (by
                  simp only [↓sxd, sxu, ↓zE, ↓exq, St.keep, Nat.reduceBEq, Nat.reduceLT]
                  iterate 7
                    (repeat ((with_reducible refine And.intro ?_ ?_); (focus (first | with_reducible rfl | trivial | exact fun h => h | exact fun h => (by rw [h]; rfl) | omega | assumption))))
                    refine GdO.mk _ (fun hg => by simp only [↓sxd, sxu, ↓exq, ↓zB, ↓zJ, Nat.reduceBEq, sxe, tysW33_5]; (repeat' (first | rfl | exact trivial | exact fun h => h | exact fun h => (by rw [h]; rfl) | apply And.intro | omega | exact Nat.le_of_ble_eq_true rfl))) ?_
                    simp only [↓sxd, sxu, ↓zE, ↓exq, ↓zH, Nat.reduceBEq, Nat.reduceLT]
                  (repeat ((with_reducible refine And.intro ?_ ?_); (focus (first | with_reducible rfl | trivial | exact fun h => h | exact fun h => (by rw [h]; rfl) | omega | assumption))))
                  refine GdO.mk _ (fun hg => by simp only [sxu, ↓exq, ↓zB]; (repeat ((with_reducible refine And.intro ?_ ?_); (focus (first | with_reducible rfl | trivial | exact fun h => h | exact fun h => (by rw [h]; rfl) | omega | assumption)))); exact CallP.use (awake_c) ⟨rfl, rfl, rfl⟩) ?_
                  simp only [↓sxd, sxu, ↓zE, ↓exq, ↓zH, Nat.reduceBEq, Nat.reduceLT]
                  (repeat' (first | rfl | exact trivial | exact fun h => h | exact fun h => (by rw [h]; rfl) | apply And.intro | omega | exact Nat.le_of_ble_eq_true rfl))) ?_
              refine Tr.ret ?_
              (refine ⟨.inr rfl, ?_⟩; first | rfl | exact ⟨rfl, rfl, trivial⟩ | exact ⟨rfl, rfl, rfl, trivial⟩ | (simp only [Res, ResL, ResOK, ↓sxd, sxu, ↓zE, ↓zC, zK, ↓exP, ↓exq, ↓zB, St.keep, ↓zH, ↓zL, ↓zJ, ↓zD, ↓zN, ↓zM, ↓zI, ↓zG, ↓zQ, ↓zA, Nat.reduceBEq, Nat.reduceAdd, Nat.reduceLT, Nat.reduceMul, Nat.reduceSub, Nat.reduceLeDiff, Nat.reduceEqDiff, Int.reduceLE, Int.reduceLT, Int.reduceToNat, reduceIte, implies_true, sxe, tysW33_5]; (repeat' (first | rfl | exact trivial | exact fun h => h | exact fun h => (by rw [h]; rfl) | apply And.intro | omega | exact Nat.le_of_ble_eq_true rfl))))
            · have hneg : ¬ c.leastTo c.cols (10 ^ c.cols) < 0 := of_decide_eq_false h132
              obtain ⟨g1, g2⟩ := codes_yes hf hk hneg
              rw [hle] at g1
              rw [hnf] at g2
              simp only [Prod.mk.injEq] at g1 g2
              obtain ⟨rfl, rfl⟩ := g1
              obtain ⟨rfl, rfl⟩ := g2
              generalize hF : c.possTo c.cols (10 ^ c.cols) = F
              have hLl : ((List.range c.cols).map fun p => nats ((List.range 10).filter (F p))).length = c.cols := by simp
              have hLg : ∀ i, i < c.cols → ((List.range c.cols).map fun p => nats ((List.range 10).filter (F p))).getD i [] = nats ((List.range 10).filter (F i)) := fun i hi => by simp [List.getD_eq_getElem?_getD, hi]
              generalize ((List.range c.cols).map fun p => nats ((List.range 10).filter (F p))) = L at hLl hLg
              refine Tr.skip ?_
              refine Tr.seq ?_
              refine Tr.reg [4, 8, 11, 167] (by
                  simp only [↓sxd, sxu, ↓zE, ↓exq, St.keep, Nat.reduceBEq, Nat.reduceLT]
                  iterate 9
                    (repeat ((with_reducible refine And.intro ?_ ?_); (focus (first | with_reducible rfl | trivial | exact fun h => h | exact fun h => (by rw [h]; rfl) | omega | assumption))))
                    refine GdO.mk _ (fun hg => by simp only [↓sxd, sxu, ↓exq, ↓zB, ↓zJ, Nat.reduceBEq, sxe, tysW33_5, hLl, hg]; (repeat' (first | rfl | exact trivial | exact fun h => h | exact fun h => (by rw [h]; rfl) | apply And.intro | omega | exact Nat.le_of_ble_eq_true rfl))) ?_
                    simp only [↓sxd, sxu, ↓zE, ↓exq, ↓zH, Nat.reduceBEq, Nat.reduceLT]
                  (repeat' (first | rfl | exact trivial | exact fun h => h | exact fun h => (by rw [h]; rfl) | apply And.intro | omega | exact Nat.le_of_ble_eq_true rfl))) ?_
              refine Tr.cond rfl (fun h167 => ?_) (fun h167 => ?_)
              · exact absurd h167 (by simp)
              · refine Tr.skip ?_
                refine Tr.seq ?_
                refine Tr.reg [4, 8, 11, 17] (by
                    simp only [↓sxd, sxu, ↓zE, ↓exq, St.keep, Nat.reduceBEq, Nat.reduceLT]
                    (repeat' (first | rfl | exact trivial | exact fun h => h | exact fun h => (by rw [h]; rfl) | apply And.intro | omega | exact Nat.le_of_ble_eq_true rfl))) ?_
                refine Tr.imp (st' := ⟨[(4, SL L), (8, I c.cols), (11, .ptr 1 0 0), (17, I 0)], [(1, .arr 30 [cells F]), (0, .arr 2 [[SL c.codes, SI c.wrong]])], 2, 194, [], 0⟩) (Imp.keepAll) (Tr.block (Tr.loopI (fun mm ss => ∃ (i : Nat), (i ≤ c.cols) ∧ c.cols - i = mm ∧ ss = ⟨[(4, SL L), (8, I c.cols), (11, .ptr 1 0 0), (17, I i)], [(1, .arr 30 [cells F]), (0, .arr 2 [[SL c.codes, SI c.wrong]])], 2, 194, [], 0⟩) _ ⟨0, ?_, rfl, rfl⟩ ?_))
                · exact Nat.zero_le _
                rintro mm ss ⟨i, hI, rfl, rfl⟩
                refine Tr.seq ?_
                refine Tr.reg [4, 8, 11, 17, 170] (by
                    simp only [↓sxd, sxu, ↓zE, ↓exq, St.keep, Nat.reduceBEq, Nat.reduceLT, sxe]
                    (repeat' (first | rfl | exact trivial | exact fun h => h | exact fun h => (by rw [h]; rfl) | apply And.intro | omega | exact Nat.le_of_ble_eq_true rfl))) ?_
                refine Tr.cond rfl (fun h170 => ?_) (fun h170 => ?_)
                · have hlt : i < c.cols := by have := of_decide_eq_true h170; omega
                  have hi3 : i < 3 := by omega
                  have hiL : i < L.length := by omega
                  have hgm := hLg i hlt
                  refine Tr.skip ?_
                  refine Tr.seq ?_
                  refine Tr.block ?_
                  refine Tr.reg [4, 8, 11, 17, 18] (by
                      simp only [↓sxd, sxu, ↓zE, ↓exq, St.keep, Nat.reduceBEq, Nat.reduceLT]
                      (repeat' (first | rfl | exact trivial | exact fun h => h | exact fun h => (by rw [h]; rfl) | apply And.intro | omega | exact Nat.le_of_ble_eq_true rfl))) ?_
                  refine Tr.seq ?_
                  refine Tr.reg [4, 8, 11, 17, 18, 19] (by
                      simp only [↓sxd, sxu, ↓zE, ↓exq, St.keep, Nat.reduceBEq, Nat.reduceLT]
                      (repeat' (first | rfl | exact trivial | exact fun h => h | exact fun h => (by rw [h]; rfl) | apply And.intro | omega | exact Nat.le_of_ble_eq_true rfl))) ?_
                  refine Tr.imp (st' := ⟨[(4, SL L), (8, I c.cols), (11, .ptr 1 0 0), (17, I i), (18, .slc 2 1 0 [].length [].length), (19, I 0)], [(2, .arr 1 ([].map fun (n : Nat) => [I n])), (1, .arr 30 [cells F]), (0, .arr 2 [[SL c.codes, SI c.wrong]])], 3, 194, [], 0⟩) (Imp.goV 1 rfl rfl rfl rfl (by repeat' (first | exact trivial | exact F2.nil | refine F2.cons ?_ ?_ | refine TmV.cons rfl VnS.nil ?_ | refine TmV.cons rfl VnS.same ?_ | refine ⟨rfl, ?_⟩ | exact VnO.same _ | refine VnO.arr ?_ | exact VnS.nil | exact VnS.same | exact F2.refl fun _ _ => VnS.same)) (by repeat' (first | exact trivial | exact F2.nil | refine F2.cons ?_ ?_ | refine TmV.cons rfl VnS.nil ?_ | refine TmV.cons rfl VnS.same ?_ | refine ⟨rfl, ?_⟩ | exact VnO.same _ | refine VnO.arr ?_ | exact VnS.nil | exact VnS.same | exact F2.refl fun _ _ => VnS.same))) (Tr.block (Tr.loopI (fun mm ss => ∃ (j : Nat) (o : List Nat), (j ≤ 10 ∧ o = (List.range j).filter (F i)) ∧ 10 - j = mm ∧ ss = ⟨[(4, SL L), (8, I c.cols), (11, .ptr 1 0 0), (17, I i), (18, .slc 2 1 0 o.length o.length), (19, I j)], [(2, .arr 1 (o.map fun (n : Nat) => [I n])), (1, .arr 30 [cells F]), (0, .arr 2 [[SL c.codes, SI c.wrong]])], 3, 194, [], 0⟩) _ ⟨0, [], ?_, rfl, rfl⟩ ?_))
                  · exact ⟨Nat.zero_le _, rfl⟩
                  rintro mm ss ⟨j, o, hI, rfl, rfl⟩
                  obtain ⟨hI, ho⟩ := hI
                  have hol : o.length ≤ j := by rw [ho]; exact Nat.le_trans (List.length_filter_le _ _) (by simp)
                  refine Tr.seq ?_
                  refine Tr.reg [4, 8, 11, 17, 18, 19, 174] (by
                      simp only [↓sxd, sxu, ↓zE, ↓exq, St.keep, Nat.reduceBEq, Nat.reduceLT]
                      (repeat' (first | rfl | exact trivial | exact fun h => h | exact fun h => (by rw [h]; rfl) | apply And.intro | omega | exact Nat.le_of_ble_eq_true rfl))) ?_
                  refine Tr.cond rfl (fun h174 => ?_) (fun h174 => ?_)
                  · have hj : j < 10 := by have := of_decide_eq_true h174; omega
                    refine Tr.skip ?_
                    refine Tr.seq ?_
                    refine Tr.block ?_
                    refine Tr.reg [4, 8, 11, 17, 18, 19, 181] (by
                        simp only [↓sxd, sxu, ↓zE, ↓exq, St.keep, ↓zD, Nat.reduceBEq, Nat.reduceAdd, Nat.reduceLT, sxe, tysW33_5, cellsB_get hi3 hj, hi3]
                        (repeat' (first | rfl | exact trivial | exact fun h => h | exact fun h => (by rw [h]; rfl) | apply And.intro | omega | exact Nat.le_of_ble_eq_true rfl))) ?_
                    refine Tr.cond rfl (fun h181 => ?_) (fun h181 => ?_)
                    · have hg : F i j = true := h181
                      have ho1 : (o.length + 1 ≤ 1073741824) = True := eq_true (by omega)
                      refine Tr.reg1 [4, 8, 11, 17, 18, 19] (by
                          simp only [↓sxd, sxu, ↓zE, ↓exq, ↓zB, St.keep, ↓zG, ↓zQ, Nat.reduceBEq, Nat.reduceAdd, Nat.reduceLT, Nat.reduceLeDiff, Nat.reduceEqDiff, tysW33_5, ho1]
                          (repeat' (first | rfl | exact trivial | exact fun h => h | exact fun h => (by rw [h]; rfl) | apply And.intro | omega | exact Nat.le_of_ble_eq_true rfl))) ?_
                      have w4 : IntKind.i64.wrap ((j : Int) + 1) = ((j + 1 : Nat) : Int) := by rw [wr (by omega) (by omega)]; rfl
                      refine Tr.reg1 [4, 8, 11, 17, 18, 19] (by
                          simp only [↓sxd, sxu, ↓zE, ↓exq, St.keep, Nat.reduceBEq, Nat.reduceLT, w4]
                          (repeat' (first | rfl | exact trivial | exact fun h => h | exact fun h => (by rw [h]; rfl) | apply And.intro | omega | exact Nat.le_of_ble_eq_true rfl))) ?_
                      have hfs := filt_succ (f := F i) (j := j)
                      rw [← ho, hg] at hfs
                      first |(have hq : F i j = true := hg; exact ⟨_, _, by omega, Imp.go (fun i => if i < 2 then i else i + 1) [_, _, _] rfl rfl (.refl _) (fun _ h => absurd h (Nat.not_lt_zero _)) (fun id h => by simp only [show ¬ id < 2 by omega, if_false]; omega) (by simp only [List.length_append, List.length_cons, List.length_nil, Nat.zero_add, Int.natCast_add, Int.natCast_one]; repeat' (first | exact TmT.cons rfl (TnS.d _) ?_ | exact trivial | exact F2.nil | refine F2.append ?_ ?_ | refine F2.map fun _ _ => ?_ | refine F2.cons ?_ ?_ | refine TmT.cons rfl ?_ ?_ | exact TnS.d _ | exact TnS.dx _ | exact TnS.dp _ | exact TnS.slc rfl | exact TnS.ptr rfl | refine TnS.frzf rfl (by simp) (by simp) (by simp) ?_ | refine TnS.frz0 rfl (by simp) (by simp) (by simp) ?_ | refine TnS.frzm rfl (by simp) ?_ | exact TnS.mapr rfl | exact TnS.yld rfl | refine ⟨rfl, ?_⟩ | refine TnO.arr ?_ | refine TnO.map ?_ | exact TnO.raw _ | exact TnO.iter _ _ | refine TnS.agg ?_ | refine TnS.tup ?_ | exact TnS.pure (Pure.clo (by assumption) (by assumption)) | refine TnS.clo ?_ ?_ | exact TnS.unk _ | exact TnS.pure (Pure.clo (by assumption) (by assumption)))) (by simp only [List.map_append, List.map_cons, List.map_nil]; repeat' (first | exact TmT.cons rfl (TnS.d _) ?_ | exact trivial | exact F2.nil | refine F2.append ?_ ?_ | refine F2.map fun _ _ => ?_ | refine F2.cons ?_ ?_ | refine TmT.cons rfl ?_ ?_ | exact TnS.d _ | exact TnS.dx _ | exact TnS.dp _ | exact TnS.slc rfl | exact TnS.ptr rfl | refine TnS.frzf rfl (by simp) (by simp) (by simp) ?_ | refine TnS.frz0 rfl (by simp) (by simp) (by simp) ?_ | refine TnS.frzm rfl (by simp) ?_ | exact TnS.mapr rfl | exact TnS.yld rfl | refine ⟨rfl, ?_⟩ | refine TnO.arr ?_ | refine TnO.map ?_ | exact TnO.raw _ | exact TnO.iter _ _ | refine TnS.agg ?_ | refine TnS.tup ?_ | exact TnS.pure (Pure.clo (by assumption) (by assumption)) | refine TnS.clo ?_ ?_ | exact TnS.unk _ | exact TnS.pure (Pure.clo (by assumption) (by assumption)))) (fun _ => rfl), ⟨j + 1, o ++ [j], ⟨hj, by rw [hfs]; rfl⟩, rfl, rfl⟩⟩) |(exact ⟨_, _, by omega, Imp.keepAll, ⟨j + 1, o, ⟨hj, by rw [hfs]; simp⟩, rfl, rfl⟩⟩)
                    · have hg : F i j = false := h181
                      refine Tr.skip ?_
                      have w4 : IntKind.i64.wrap ((j : Int) + 1) = ((j + 1 : Nat) : Int) := by rw [wr (by omega) (by omega)]; rfl
                      refine Tr.reg1 [4, 8, 11, 17, 18, 19] (by
                          simp only [↓sxd, sxu, ↓zE, ↓exq, St.keep, Nat.reduceBEq, Nat.reduceLT, w4]
                          (repeat' (first | rfl | exact trivial | exact fun h => h | exact fun h => (by rw [h]; rfl) | apply And.intro | omega | exact Nat.le_of_ble_eq_true rfl))) ?_
                      have hfs := filt_succ (f := F i) (j := j)
                      rw [← ho, hg] at hfs
                      first |(have hq : F i j = true := hg; exact ⟨_, _, by omega, Imp.go (fun i => if i < 2 then i else i + 1) [_, _, _] rfl rfl (.refl _) (fun _ h => absurd h (Nat.not_lt_zero _)) (fun id h => by simp only [show ¬ id < 2 by omega, if_false]; omega) (by simp only [List.length_append, List.length_cons, List.length_nil, List.length_map, List.map_append, List.map_cons, List.map_nil, Nat.zero_add, Nat.add_zero, Int.natCast_add, Int.natCast_one, Int.natCast_zero, List.append_assoc, List.nil_append]; repeat' (first | exact TmT.cons rfl (TnS.d _) ?_ | exact trivial | exact F2.nil | refine F2.append ?_ ?_ | refine F2.map fun _ _ => ?_ | refine F2.cons ?_ ?_ | refine TmT.cons rfl ?_ ?_ | exact TnS.d _ | exact TnS.dx _ | exact TnS.dp _ | exact TnS.slc rfl | exact TnS.ptr rfl | refine TnS.frzf rfl (by simp) (by simp) (by simp) ?_ | refine TnS.frz0 rfl (by simp) (by simp) (by simp) ?_ | refine TnS.frzm rfl (by simp) ?_ | exact TnS.mapr rfl | exact TnS.yld rfl | refine ⟨rfl, ?_⟩ | refine TnO.arr ?_ | refine TnO.map ?_ | exact TnO.raw _ | exact TnO.iter _ _ | refine TnS.agg ?_ | refine TnS.tup ?_ | exact TnS.pure (Pure.clo (by assumption) (by assumption)) | refine TnS.clo ?_ ?_ | exact TnS.unk _ | exact TnS.pure (Pure.clo (by assumption) (by assumption)))) (by simp only [List.length_append, List.length_cons, List.length_nil, List.length_map, List.map_append, List.map_cons, List.map_nil, Nat.zero_add, Nat.add_zero, Int.natCast_add, Int.natCast_one, Int.natCast_zero, List.append_assoc, List.nil_append]; repeat' (first | exact TmT.cons rfl (TnS.d _) ?_ | exact trivial | exact F2.nil | refine F2.append ?_ ?_ | refine F2.map fun _ _ => ?_ | refine F2.cons ?_ ?_ | refine TmT.cons rfl ?_ ?_ | exact TnS.d _ | exact TnS.dx _ | exact TnS.dp _ | exact TnS.slc rfl | exact TnS.ptr rfl | refine TnS.frzf rfl (by simp) (by simp) (by simp) ?_ | refine TnS.frz0 rfl (by simp) (by simp) (by simp) ?_ | refine TnS.frzm rfl (by simp) ?_ | exact TnS.mapr rfl | exact TnS.yld rfl | refine ⟨rfl, ?_⟩ | refine TnO.arr ?_ | refine TnO.map ?_ | exact TnO.raw _ | exact TnO.iter _ _ | refine TnS.agg ?_ | refine TnS.tup ?_ | exact TnS.pure (Pure.clo (by assumption) (by assumption)) | refine TnS.clo ?_ ?_ | exact TnS.unk _ | exact TnS.pure (Pure.clo (by assumption) (by assumption)))) (fun _ => rfl), ⟨j + 1, o ++ [j], ⟨hj, by rw [hfs]; rfl⟩, rfl, rfl⟩⟩) |(exact ⟨_, _, by omega, Imp.keepAll, ⟨j + 1, o, ⟨hj, by rw [hfs]; simp⟩, rfl, rfl⟩⟩)
                  · have hj : j = 10 := by have := of_decide_eq_false h174; omega
                    subst hj
                    rw [← ho] at hgm
                    have hlo : (nats o).length < 4611686018427387904 := by rw [nats_len]; omega
                    have hii : CallP Tryd.prog G0 34 [SI (nats o), SI (nats o)] (B true) := by
                      have := ints_c (nats o) (nats o) hlo hlo
                      rwa [decide_eq_true rfl] at this
                    refine Tr.exit ?_
                    refine Tr.reg [4, 8, 11, 17, 192] (by
                        simp only [↓sxd, sxu, ↓zE, ↓exq, St.keep, ↓zD, Nat.reduceBEq, Nat.reduceLT, sxe, tysW33_5, hiL, hgm]
                        (repeat ((with_reducible refine And.intro ?_ ?_); (focus (first | with_reducible rfl | trivial | exact fun h => h | exact fun h => (by rw [h]; rfl) | omega | assumption))))
                        refine CallO.useZ [(1, .arr 30 [cells F]), (0, .arr 2 [[SL c.codes, SI c.wrong]])] hii (.cons _ (.refl _)) (.cons (TnS.d _) (.cons (TnS.frz0 (id := 2) (sz := 1) (len := o.length) (es := o.map fun (n : Nat) => [I n]) (by rfl) (by simp) (by simp) (by simp) (natsF2 o)) .nil)) ?_
                        try simp only [↓sxd, sxu, ↓zE, ↓exq, ↓zL, Nat.reduceBEq, Nat.reduceLT]
                        (repeat' (first | rfl | exact trivial | exact fun h => h | exact fun h => (by rw [h]; rfl) | apply And.intro | omega | exact Nat.le_of_ble_eq_true rfl))) ?_
                    refine Tr.cond rfl (fun h192 => ?_) (fun h192 => ?_)
                    · simp at h192
                    · refine Tr.skip ?_
                      have w5 : IntKind.i64.wrap ((i : Int) + 1) = ((i + 1 : Nat) : Int) := by rw [wr (by omega) (by omega)]; rfl
                      refine Tr.reg1 [4, 8, 11, 17] (by
                          simp only [↓sxd, sxu, ↓zE, ↓exq, St.keep, Nat.reduceBEq, Nat.reduceLT, w5]
                          (repeat' (first | rfl | exact trivial | exact fun h => h | exact fun h => (by rw [h]; rfl) | apply And.intro | omega | exact Nat.le_of_ble_eq_true rfl))) ?_
                      exact ⟨_, _, by omega, Imp.go (fun i => if i < 2 then i else i + 1) [(1, _), (0, _)] rfl rfl (.refl _) (fun _ h => absurd h (Nat.not_lt_zero _)) (fun id h => by simp only [show ¬ id < 2 by omega, if_false]; omega) (by repeat' (first | exact TmT.cons rfl (TnS.d _) ?_ | exact trivial | exact F2.nil | refine F2.append ?_ ?_ | refine F2.map fun _ _ => ?_ | refine F2.cons ?_ ?_ | refine TmT.cons rfl ?_ ?_ | exact TnS.d _ | exact TnS.dx _ | exact TnS.dp _ | exact TnS.slc rfl | exact TnS.ptr rfl | refine TnS.frzf rfl (by simp) (by simp) (by simp) ?_ | refine TnS.frz0 rfl (by simp) (by simp) (by simp) ?_ | refine TnS.frzm rfl (by simp) ?_ | exact TnS.mapr rfl | exact TnS.yld rfl | refine ⟨rfl, ?_⟩ | refine TnO.arr ?_ | refine TnO.map ?_ | exact TnO.raw _ | exact TnO.iter _ _ | refine TnS.agg ?_ | refine TnS.tup ?_ | exact TnS.pure (Pure.clo (by assumption) (by assumption)) | refine TnS.clo ?_ ?_ | exact TnS.unk _ | exact TnS.pure (Pure.clo (by assumption) (by assumption)))) (by repeat' (first | exact TmT.cons rfl (TnS.d _) ?_ | exact trivial | exact F2.nil | refine F2.append ?_ ?_ | refine F2.map fun _ _ => ?_ | refine F2.cons ?_ ?_ | refine TmT.cons rfl ?_ ?_ | exact TnS.d _ | exact TnS.dx _ | exact TnS.dp _ | exact TnS.slc rfl | exact TnS.ptr rfl | refine TnS.frzf rfl (by simp) (by simp) (by simp) ?_ | refine TnS.frz0 rfl (by simp) (by simp) (by simp) ?_ | refine TnS.frzm rfl (by simp) ?_ | exact TnS.mapr rfl | exact TnS.yld rfl | refine ⟨rfl, ?_⟩ | refine TnO.arr ?_ | refine TnO.map ?_ | exact TnO.raw _ | exact TnO.iter _ _ | refine TnS.agg ?_ | refine TnS.tup ?_ | exact TnS.pure (Pure.clo (by assumption) (by assumption)) | refine TnS.clo ?_ ?_ | exact TnS.unk _ | exact TnS.pure (Pure.clo (by assumption) (by assumption)))) (fun _ => rfl), ⟨i + 1, hlt, rfl, rfl⟩⟩
                · skip
                  refine Tr.exit ?_
                  refine Tr.reg [2] (by
                      simp only [↓sxd, sxu, ↓zE, St.keep, Nat.reduceLT]
                      (repeat ((with_reducible refine And.intro ?_ ?_); (focus (first | with_reducible rfl | trivial | exact fun h => h | exact fun h => (by rw [h]; rfl) | omega | assumption))))
                      refine CallO.use (awake_c) ?_
                      try simp only [↓sxd, sxu, ↓zE, ↓exq, Nat.reduceLT]
                      (repeat' (first | rfl | exact trivial | exact fun h => h | exact fun h => (by rw [h]; rfl) | apply And.intro | omega | exact Nat.le_of_ble_eq_true rfl))) ?_
                  refine Tr.ret ?_
                  (refine ⟨.inr rfl, ?_⟩; first | rfl | exact ⟨rfl, rfl, trivial⟩ | exact ⟨rfl, rfl, rfl, trivial⟩ | (simp only [Res, ResL, ResOK, ↓sxd, sxu, ↓zE, ↓zC, zK, ↓exP, ↓exq, ↓zB, St.keep, ↓zH, ↓zL, ↓zJ, ↓zD, ↓zN, ↓zM, ↓zI, ↓zG, ↓zQ, ↓zA, Nat.reduceBEq, Nat.reduceAdd, Nat.reduceLT, Nat.reduceMul, Nat.reduceSub, Nat.reduceLeDiff, Nat.reduceEqDiff, Int.reduceLE, Int.reduceLT, Int.reduceToNat, reduceIte, implies_true, sxe, tysW33_5]; (repeat' (first | rfl | exact trivial | exact fun h => h | exact fun h => (by rw [h]; rfl) | apply And.intro | omega | exact Nat.le_of_ble_eq_true rfl))))
end Go.Proofs.YtcnkbdfkjhlbiaaDoor
