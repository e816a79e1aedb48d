/- Lemmas, part XWA. Conditions: none. -/
import Derived.Test.YtcnkbdfkjhlbiaaDoorXPBC
import Derived.Carry
set_option linter.unusedVariables false
namespace Go.Proofs.YtcnkbdfkjhlbiaaDoor
open Go.Sy
theorem ty.sz69 : tsz Tryd.prog 69 = some 1 := by kernel_rfl
theorem ty.agg69 : tagg Tryd.prog 69 = some false := by kernel_rfl
theorem ty.zero69 : tzero Tryd.prog 69 = some (SV.d (.lit (.pointer none)) :: []) := by kernel_rfl
theorem ty.elem69 : telem Tryd.prog 69 = none := by kernel_rfl
end Go.Proofs.YtcnkbdfkjhlbiaaDoor
namespace Go.Proofs.YtcnkbdfkjhlbiaaDoor
open Go.Sy Go.Deep Go.ChangeShapes
theorem trodAll_five {H : Type} {enc : TypeId × Value → H} {P : Program} {w : World} {base : Nat} {spare : Nat → Bool} {held : Bool} {t0 t1 t2 t3 t4 : TypeId} {args : Array Value} {ds : List (DataW H)} {ps : List MemPlace} (h : DataW.TrodAll enc P w base spare held [t0, t1, t2, t3, t4] args.toList ds ps) :
    ∃ v0 v1 v2 v3 v4 d0 d1 d2 d3 d4 p0 p1 p2 p3 p4, args = #[v0, v1, v2, v3, v4] ∧ ds = [d0, d1, d2, d3, d4] ∧ ps = p0 ++ p1 ++ p2 ++ p3 ++ p4 ∧ DataW.Trod enc P w base spare held t0 v0 d0 p0 ∧ DataW.Trod enc P w base spare held t1 v1 d1 p1 ∧ DataW.Trod enc P w base spare held t2 v2 d2 p2 ∧ DataW.Trod enc P w base spare held t3 v3 d3 p3 ∧ DataW.Trod enc P w base spare held t4 v4 d4 p4 := by
  obtain ⟨v0, w0, d0, e0, p0, q0, hargs, rfl, rfl, hd0, h0⟩ := trodAll_cons h
  obtain ⟨v1, w1, d1, e1, p1, q1, rfl, rfl, rfl, hd1, h1⟩ := trodAll_cons h0
  obtain ⟨v2, w2, d2, e2, p2, q2, rfl, rfl, rfl, hd2, h2⟩ := trodAll_cons h1
  obtain ⟨v3, w3, d3, e3, p3, q3, rfl, rfl, rfl, hd3, h3⟩ := trodAll_cons h2
  obtain ⟨v4, w4, d4, e4, p4, q4, rfl, rfl, rfl, hd4, h4⟩ := trodAll_cons h3
  obtain ⟨rfl, rfl, rfl⟩ := trodAll_nil h4
  exact ⟨v0, v1, v2, v3, v4, d0, d1, d2, d3, d4, p0, p1, p2, p3, p4, by cases args; simp_all, rfl, by simp, hd0, hd1, hd2, hd3, hd4⟩
end Go.Proofs.YtcnkbdfkjhlbiaaDoor
namespace Go.Proofs.YtcnkbdfkjhlbiaaDoor
open Go.Sy
set_option maxRecDepth 8000
theorem ib (p q : Nat) : ((p : Int) == (q : Int)) = (p == q) := by
  rw [Bool.eq_iff_iff, beq_iff_eq, beq_iff_eq]; omega
end Go.Proofs.YtcnkbdfkjhlbiaaDoor
namespace Go.Proofs.YtcnkbdfkjhlbiaaDoor
set_option maxRecDepth 8000
structure Says (c x : Census) : Prop where
  len : x.entries.length = c.entries.length
  ent : ∀ i, i < c.entries.length → (x.entry i).sched = (c.entry i).sched ∧ (x.entry i).sex = (c.entry i).sex ∧ (x.entry i).key = (c.entry i).key ∧ (c.entry i).ages.lo ≤ (x.entry i).ages.lo ∧ (x.entry i).ages.hi ≤ (c.entry i).ages.hi
  same : ∀ p ∈ c.same, p ∈ x.same
  apart : ∀ p ∈ c.apart, p ∈ x.apart
  om : c.omitted.lo ≤ x.omitted.lo ∧ x.omitted.hi ≤ c.omitted.hi
  nu : c.number.lo ≤ x.number.lo ∧ x.number.hi ≤ c.number.hi
theorem Says.allow {c x : Census} (h : Says c x) {f : Nat → Nat} (ha : Allow x f) : Allow c f := by
  refine ⟨fun i k hi hk hik hf => ?_, fun p hp => ha.same p (h.same p hp), fun p hp => ha.apart p (h.apart p hp)⟩
  have h1 := ha.fits i k (by rw [h.len]; exact hi) (by rw [h.len]; exact hk) hik hf
  obtain ⟨a1, a2, a3, a4, a5⟩ := h.ent i hi
  obtain ⟨b1, b2, b3, b4, b5⟩ := h.ent k hk
  unfold Entry.fits at h1 ⊢
  rw [a1, a2, a3, b1, b2, b3] at h1
  simp only [Bool.and_eq_true, decide_eq_true_eq] at h1 ⊢
  exact ⟨h1.1, by omega⟩
theorem Says.sem {c x : Census} (h : Says c x) {m : Nat} (hs : Sem x m) : Sem c m := by
  obtain ⟨f, ha, he⟩ := hs
  exact ⟨f, h.allow ha, by rw [← h.len]; exact he⟩
theorem Says.sums {c x : Census} (h : Says c x) {m : Nat} (hs : Sums x m) : Sums c m := by
  obtain ⟨k, h1, h2, h3, h4⟩ := hs
  have := h.om; have := h.nu
  exact ⟨k, by omega, by omega, by omega, by omega⟩
theorem fine_tried {c : Census} (h : Fine c) : c.tried true = if c.cons then 0 else 9 := by
  have hk := fine_iff.2 h
  unfold Census.tried Census.cons
  rw [if_neg (fun hc => hc hk)]
  simp only [Bool.not_true, Bool.false_eq_true, if_false, decide_eq_true_eq]
  by_cases hg : (readW c).persons.lo > (readW c).persons.hi
  · rw [if_pos hg, if_neg (by omega)]
  · rw [if_neg hg, if_pos (by omega)]
theorem personsS_yes {c : Census} (h : Fine c) (hc : c.cons = true) : c.personsS = (pers c, c.omitted.cut (c.number.lo - (pers c).hi) (c.number.hi - (pers c).lo), 0) := by
  have h0 : 0 ≤ (readW c).persons.lo ∧ (readW c).persons.hi ≤ c.entries.length := pers_lo h.pairs h.n10
  have h1 : (readW c).persons.lo ≤ (readW c).persons.hi := cons_lo hc
  have h10 := h.n10
  have ho := h.om
  have hn := h.nu
  unfold Census.personsS
  rw [if_pos (by rw [fine_tried h, hc]; rfl), wr_id (by omega) (by omega), wr_id (by omega) (by omega)]
theorem personsS_no {c : Census} (h : Fine c) (hc : c.cons = false) : c.personsS = (⟨0, 0⟩, ⟨0, 0⟩, 9) := by
  unfold Census.personsS
  rw [fine_tried h, hc, if_neg (by decide)]
  rfl
theorem Says.cons {c x : Census} (hc : Fine c) (hx : Fine x) (h : Says c x) (hs : x.cons = true) : c.cons = true := by
  obtain ⟨m, h1, h2⟩ := (cons_iff hx.pairs hx.n10 hx.lims).1 hs
  exact (cons_iff hc.pairs hc.n10 hc.lims).2 ⟨m, h.sem h1, h.sums h2⟩
theorem Says.pers {c x : Census} (hc : Fine c) (hx : Fine x) (h : Says c x) (hs : x.cons = true) : (pers c).lo ≤ (pers x).lo ∧ (pers x).hi ≤ (pers c).hi := by
  have h1 := cons_lo hs
  have h0 := pers_lo hx.pairs hx.n10
  have key : ∀ m : Nat, (Go.Proofs.YtcnkbdfkjhlbiaaDoor.pers x).lo ≤ m → (m : Int) ≤ (Go.Proofs.YtcnkbdfkjhlbiaaDoor.pers x).hi → (Go.Proofs.YtcnkbdfkjhlbiaaDoor.pers c).lo ≤ m ∧ (m : Int) ≤ (Go.Proofs.YtcnkbdfkjhlbiaaDoor.pers c).hi := fun m a b => by
    obtain ⟨p, q⟩ := (pers_iff hx.pairs hx.n10 hx.lims).2 ⟨a, b⟩
    exact (pers_iff hc.pairs hc.n10 hc.lims).1 ⟨h.sem p, h.sums q⟩
  have k1 := key (Go.Proofs.YtcnkbdfkjhlbiaaDoor.pers x).lo.toNat (by omega) (by omega)
  have k2 := key (Go.Proofs.YtcnkbdfkjhlbiaaDoor.pers x).hi.toNat (by omega) (by omega)
  omega
theorem more_law {c x : Census} (hc : Fine c) (hx : Fine x) (h : Says c x) :
    (x.personsS.2.2 ≠ 0 ∧ x.personsS.2.2 = 9 ∧ (c.personsS.2.2 = 0 ∨ c.personsS.2.2 = 9)) ∨
    (x.personsS.2.2 = 0 ∧ c.personsS.2.2 = 0 ∧ c.personsS.1.lo ≤ x.personsS.1.lo ∧ x.personsS.1.hi ≤ c.personsS.1.hi ∧ c.personsS.2.1.lo ≤ x.personsS.2.1.lo ∧ x.personsS.2.1.hi ≤ c.personsS.2.1.hi) := by
  cases hs : x.cons with
  | false =>
    left
    rw [personsS_no hx hs]
    refine ⟨by decide, rfl, ?_⟩
    cases hq : c.cons with
    | false => rw [personsS_no hc hq]; exact .inr rfl
    | true => rw [personsS_yes hc hq]; exact .inl rfl
  | true =>
    right
    have hq := h.cons hc hx hs
    have h1 := h.pers hc hx hs
    have ho := h.om
    have hn := h.nu
    rw [personsS_yes hx hs, personsS_yes hc hq]
    refine ⟨rfl, rfl, h1.1, h1.2, ?_, ?_⟩
    · simp only [Rng.cut]; omega
    · simp only [Rng.cut]; omega
structure Moves (c x : Census) (s : Nat → Nat) : Prop where
  len : x.entries.length = c.entries.length
  to : ∀ i, i < c.entries.length → s i < c.entries.length
  inj : ∀ i k, i < c.entries.length → k < c.entries.length → s i = s k → i = k
  sur : ∀ j, j < c.entries.length → ∃ i, i < c.entries.length ∧ s i = j
  ent : ∀ i, i < c.entries.length → x.entry i = c.entry (s i)
  same : ∀ p ∈ x.same, ∃ q ∈ c.same, s p.fst.toNat = q.fst.toNat ∧ s p.snd.toNat = q.snd.toNat
  apart : ∀ p ∈ x.apart, ∃ q ∈ c.apart, s p.fst.toNat = q.fst.toNat ∧ s p.snd.toNat = q.snd.toNat
end Go.Proofs.YtcnkbdfkjhlbiaaDoor
namespace Go.Proofs.YtcnkbdfkjhlbiaaDoor
open Go.Sy
set_option maxRecDepth 8000
theorem wi {n : Nat} (h : n < 9223372036854775808) : IntKind.i64.wrap (n : Int) = n := wr (by omega) (by omega)
theorem fine_small {c : Census} (h : Fine c) : c.small := ⟨by have := h.n10; omega, by have := h.s6; omega, by have := h.a6; omega⟩
theorem PersonsF_c (c : Census) (h : Fine c) : CallP Tryd.prog G0 21 [c.s] (.tup [c.personsS.1.s, c.personsS.2.1.s, I c.personsS.2.2]) := Persons_c c (fine_small h) (fun hk => Census.readable hk)
end Go.Proofs.YtcnkbdfkjhlbiaaDoor
namespace Go.Proofs.YtcnkbdfkjhlbiaaDoor
open Go.Sy
set_option maxRecDepth 8000
theorem tmod_n (a n : Nat) : ((a : Nat) : Int).tmod (n : Int) = ((a % n : Nat) : Int) := by
  rw [Int.natCast_emod, Int.tmod_eq_emod_of_nonneg (Int.natCast_nonneg _)]
theorem src_ee (l : List Entry) : ((dE l).map fun e => e.map SV.d) = ee l := rfl
theorem ee_all (l : List Entry) : (∀ e ∈ ee l, e.length = 5 ∧ e.all SV.one = true) = True := by simp [ee, dE, SV.one]
end Go.Proofs.YtcnkbdfkjhlbiaaDoor
namespace Go.Proofs.YtcnkbdfkjhlbiaaDoor
open Go.Sy
set_option maxRecDepth 8000
def Rng.nar (r : Rng) (b : Nat) : Rng := ⟨min r.hi (r.lo + ((b % 3 : Nat) : Int)), max (min r.hi (r.lo + ((b % 3 : Nat) : Int))) (r.hi - ((b / 4 % 3 : Nat) : Int))⟩
theorem nar_in {r : Rng} (b : Nat) (h : r.lo ≤ r.hi) : r.lo ≤ (r.nar b).lo ∧ (r.nar b).lo ≤ (r.nar b).hi ∧ (r.nar b).hi ≤ r.hi := by
  simp only [Rng.nar]; omega
def narE (l : List Entry) (j b : Nat) : List Entry := l.set j { l.getD j default with ages := (l.getD j default).ages.nar b }
theorem ee_set {l : List Entry} {j : Nat} {e : Entry} : (ee l).set j (e.d.map SV.d) = ee (l.set j e) := by
  simp only [ee, dE, List.map_set]
theorem src_pp (l : List Pair) : ((dP l).map fun e => e.map SV.d) = pp l := rfl
theorem pp_all (l : List Pair) : (∀ e ∈ pp l, e.length = 2 ∧ e.all SV.one = true) = True := by simp [pp, dP, SV.one]
theorem tmod4 (n : Nat) : (n : Int).tmod 4 = ((n % 4 : Nat) : Int) := tmod_n n 4
theorem tmod3 (n : Nat) : (n : Int).tmod 3 = ((n % 3 : Nat) : Int) := tmod_n n 3
theorem tdiv4 (n : Nat) : (n : Int).tdiv 4 = ((n / 4 : Nat) : Int) := by
  rw [Int.natCast_ediv, Int.tdiv_eq_ediv_of_nonneg (Int.natCast_nonneg _)]; rfl
theorem ee_get {l : List Entry} {j : Nat} (h : j < l.length) : (ee l).getD j [] = [I (l.getD j default).sched, I (l.getD j default).sex, I (l.getD j default).key, I (l.getD j default).ages.lo, I (l.getD j default).ages.hi] := by
  simp [ee, dE, List.getD_eq_getElem?_getD, h]
theorem set_at {l : List (List SV)} {j : Nat} {v : List SV} (h : j < l.length) : (l.set j v).getD j [] = v := by
  simp [List.getD_eq_getElem?_getD, h]
theorem narE_ee {l : List Entry} {j b : Nat} : ee (narE l j b) = (ee l).set j [I (l.getD j default).sched, I (l.getD j default).sex, I (l.getD j default).key, I ((l.getD j default).ages.nar b).lo, I ((l.getD j default).ages.nar b).hi] := by
  rw [narE, ← ee_set]; rfl
theorem narE_len {l : List Entry} {j b : Nat} : (narE l j b).length = l.length := by simp [narE]
theorem wadd {n : Int} {k : Nat} (h : 0 ≤ n) (h2 : n ≤ 1000) (h3 : k ≤ 1000) : IntKind.i64.wrap (n + (k : Int)) = n + (k : Int) := wr (by omega) (by omega)
theorem wsub {n : Int} {k : Nat} (h : 0 ≤ n) (h2 : n ≤ 1000) (h3 : k ≤ 1000) : IntKind.i64.wrap (n - (k : Int)) = n - (k : Int) := wr (by omega) (by omega)
theorem rot_ne {n i t : Nat} (hi : i < n) (ht : t < n - 1) : (i + 1 + t) % n < n ∧ i ≠ (i + 1 + t) % n := by
  refine ⟨Nat.mod_lt _ (by omega), ?_⟩
  by_cases h : i + 1 + t < n
  · rw [Nat.mod_eq_of_lt h]; omega
  · rw [Nat.mod_eq_sub_mod (by omega), Nat.mod_eq_of_lt (by omega)]; omega
structure Nar (c : Census) (E : List Entry) (O N : Rng) : Prop where
  len : E.length = c.entries.length
  val : ∀ e ∈ E, Entry.valid e = true
  ent : ∀ i, i < c.entries.length → (E.getD i default).sched = (c.entry i).sched ∧ (E.getD i default).sex = (c.entry i).sex ∧ (E.getD i default).key = (c.entry i).key ∧ (c.entry i).ages.lo ≤ (E.getD i default).ages.lo ∧ (E.getD i default).ages.hi ≤ (c.entry i).ages.hi
  om : c.omitted.lo ≤ O.lo ∧ O.lo ≤ O.hi ∧ O.hi ≤ c.omitted.hi
  nu : c.number.lo ≤ N.lo ∧ N.lo ≤ N.hi ∧ N.hi ≤ c.number.hi
theorem Nar.keep {c : Census} (hf : Fine c) : Nar c c.entries c.omitted c.number :=
  ⟨rfl, hf.ents, fun i _ => ⟨rfl, rfl, rfl, Int.le_refl _, Int.le_refl _⟩, ⟨Int.le_refl _, hf.om.2.1, Int.le_refl _⟩, ⟨Int.le_refl _, hf.nu.2.1, Int.le_refl _⟩⟩
theorem Nar.omit {c : Census} (hf : Fine c) (y : Nat) : Nar c c.entries (c.omitted.nar y) c.number := { Nar.keep hf with om := nar_in y hf.om.2.1 }
theorem Nar.num {c : Census} (hf : Fine c) (y : Nat) : Nar c c.entries c.omitted (c.number.nar y) := { Nar.keep hf with nu := nar_in y hf.nu.2.1 }
theorem Nar.age {c : Census} (hf : Fine c) (y : Nat) {j : Nat} (hj : j < c.entries.length) : Nar c (narE c.entries j y) c.omitted c.number := by
  have hv := hf.ents _ (getD_mem (d := default) hj)
  have hv2 : _ := hv
  simp only [Entry.valid, Rng.valid, Bool.and_eq_true, decide_eq_true_eq] at hv2
  have hn := nar_in (r := (c.entries.getD j default).ages) y hv2.2.1.2
  refine { Nar.keep hf with len := narE_len, val := fun e he => ?_, ent := fun i hi => ?_ }
  · rcases List.mem_or_eq_of_mem_set he with he | rfl
    · exact hf.ents e he
    · simp only [Entry.valid, Rng.valid, Bool.and_eq_true, decide_eq_true_eq]
      exact ⟨hv2.1, ⟨by omega, by omega⟩, by omega⟩
  · by_cases hij : i = j
    · subst hij
      have e : (narE c.entries i y).getD i default = { c.entries.getD i default with ages := (c.entries.getD i default).ages.nar y } := by simp [narE, List.getD_eq_getElem?_getD, hi]
      rw [e]
      exact ⟨rfl, rfl, rfl, hn.1, hn.2.2⟩
    · have e : (narE c.entries j y).getD i default = c.entries.getD i default := by
        simp [narE, List.getD_eq_getElem?_getD, show ¬ j = i from fun h => hij h.symm]
      rw [e]
      exact ⟨rfl, rfl, rfl, Int.le_refl _, Int.le_refl _⟩
theorem Nar.more {c : Census} {E : List Entry} {O N : Rng} (h : Nar c E O N) (hf : Fine c) (hs : c.same.length ≤ 5) (ha : c.apart.length ≤ 5) {i q : Nat} (hi : i < c.entries.length) (hq : q < c.entries.length) (hne : i ≠ q) {S A : List Pair}
    (hx : (S = c.same ++ [⟨i, q⟩] ∧ A = c.apart) ∨ (S = c.same ∧ A = c.apart ++ [⟨i, q⟩])) : Says c ⟨E, S, A, O, N⟩ ∧ Fine ⟨E, S, A, O, N⟩ := by
  have ho := h.om
  have hn := h.nu
  have fo := hf.om
  have fn := hf.nu
  have hp : ∀ p, c.pair p = true → Census.pair ⟨E, S, A, O, N⟩ p = true := fun p hp => by
    rw [pair_iff] at hp ⊢
    show 0 ≤ p.fst ∧ p.fst < E.length ∧ 0 ≤ p.snd ∧ p.snd < E.length ∧ p.fst ≠ p.snd
    rw [h.len]; exact hp
  have hnew : c.pair ⟨i, q⟩ = true := by
    rw [pair_iff]
    show (0 : Int) ≤ (i : Int) ∧ (i : Int) < c.entries.length ∧ (0 : Int) ≤ (q : Int) ∧ (q : Int) < c.entries.length ∧ (i : Int) ≠ (q : Int)
    omega
  have hSA : (∀ p ∈ c.same, p ∈ S) ∧ (∀ p ∈ c.apart, p ∈ A) ∧ S.length ≤ 6 ∧ A.length ≤ 6 ∧ (∀ p ∈ S, c.pair p = true) ∧ (∀ p ∈ A, c.pair p = true) := by
    rcases hx with ⟨rfl, rfl⟩ | ⟨rfl, rfl⟩
    · refine ⟨fun p hp => List.mem_append_left _ hp, fun p hp => hp, by rw [List.length_append, List.length_singleton]; omega, by omega, fun p hp => ?_, hf.pa⟩
      rcases List.mem_append.1 hp with hp | hp
      · exact hf.ps p hp
      · rw [List.mem_singleton] at hp; subst hp; exact hnew
    · refine ⟨fun p hp => hp, fun p hp => List.mem_append_left _ hp, by omega, by rw [List.length_append, List.length_singleton]; omega, hf.ps, fun p hp => ?_⟩
      rcases List.mem_append.1 hp with hp | hp
      · exact hf.pa p hp
      · rw [List.mem_singleton] at hp; subst hp; exact hnew
  obtain ⟨k1, k2, k3, k4, k5, k6⟩ := hSA
  exact ⟨⟨h.len, h.ent, k1, k2, ⟨ho.1, ho.2.2⟩, ⟨hn.1, hn.2.2⟩⟩, ⟨by show E.length ≤ 10; rw [h.len]; exact hf.n10, k3, k4, h.val, fun p hp' => hp p (k5 p hp'), fun p hp' => hp p (k6 p hp'), by show 0 ≤ O.lo ∧ O.lo ≤ O.hi ∧ O.hi ≤ 100; omega, by show 0 ≤ N.lo ∧ N.lo ≤ N.hi ∧ N.hi ≤ 200; omega⟩⟩
abbrev tysW36_6 := And.intro ty.sz0 <| And.intro ty.agg0 <| And.intro ty.elem0 <| And.intro ty.sz3 <| And.intro ty.agg3 <| And.intro ty.elem3 <| And.intro ty.zero3 <| And.intro ty.und3 <| And.intro ty.sz4 <| And.intro ty.agg4 <| And.intro ty.elem4 <| And.intro ty.zero4 <| And.intro ty.und4 <| And.intro ty.sz5 <| And.intro ty.agg5 <| And.intro ty.elem5 <| And.intro ty.zero5 <| And.intro ty.und5 <| And.intro ty.sz22 <| And.intro ty.agg22 <| And.intro ty.elem22 <| And.intro ty.by22 <| And.intro ty.ez22 <| And.intro ty.zero22 <| And.intro ty.und22 <| And.intro ty.sz23 <| And.intro ty.agg23 <| And.intro ty.elem23 <| And.intro ty.by23 <| And.intro ty.ez23 <| And.intro ty.zero23 <| And.intro ty.und23 <| And.intro ty.sz25 <| And.intro ty.agg25 <| And.intro ty.fld25_0 <| And.intro ty.fld25_1 <| And.intro ty.elem25 <| And.intro ty.zero25 <| And.intro ty.pl25 <| And.intro ty.sz27 <| And.intro ty.agg27 <| And.intro ty.fld27_0 <| And.intro ty.fld27_1 <| And.intro ty.fld27_2 <| And.intro ty.fld27_3 <| And.intro ty.fld27_4 <| And.intro ty.elem27 <| And.intro ty.zero27 <| And.intro ty.pl27 <| And.intro ty.sz30 <| And.intro ty.agg30 <| And.intro ty.fld30_0 <| And.intro ty.fld30_1 <| And.intro ty.elem30 <| And.intro ty.zero30 <| And.intro ty.pl30 <| And.intro ty.sz31 <| And.intro ty.agg31 <| And.intro ty.elem31 <| And.intro ty.zero31 <| And.intro ty.und31 <| And.intro ty.sz32 <| And.intro ty.agg32 <| And.intro ty.elem32 <| And.intro ty.sz37 <| And.intro ty.agg37 <| And.intro ty.fld37_0 <| And.intro ty.fld37_1 <| And.intro ty.fld37_2 <| And.intro ty.fld37_3 <| And.intro ty.fld37_4 <| And.intro ty.elem37 <| And.intro ty.zero37 <| And.intro ty.pl37 <| And.intro ty.sz69 <| And.intro ty.agg69 <| And.intro ty.elem69 <| And.intro ty.zero69 <| And.intro ty.sz71 <| And.intro ty.agg71 <| And.intro ty.fld71_0 <| And.intro ty.fld71_1 <| And.intro ty.fld71_2 <| And.intro ty.fld71_3 <| And.intro ty.elem71 <| And.intro ty.zero71 <| And.intro ty.pl71 <| And.intro ty.sz73 <| And.intro ty.agg73 <| And.intro ty.fld73_0 <| And.intro ty.fld73_1 <| And.intro ty.elem73 <| And.intro ty.zero73 <| ty.pl73
set_option maxHeartbeats 4000000 in
theorem SheetMore_c (c : Census) (a b w y : Nat) (ha : a < 256) (hb : b < 256) (hw : w < 256) (hy : y < 256) : CallP Tryd.prog G0 6 [c.s, .d (.lit (.int .u8 (a : Nat))), .d (.lit (.int .u8 (b : Nat))), .d (.lit (.int .u8 (w : Nat))), .d (.lit (.int .u8 (y : Nat)))] (B true) := by
  refine CallP.body 209 [.tmp 10] Tryd.func6 (by kernel_rfl) rfl rfl rfl (by repeat' (first | exact Pure.d _ | exact Pure.dx _ | exact Pure.dp _ | exact fa_nil | refine fa_cons ?_ ?_ | refine Pure.agg ?_ | refine Pure.tup ?_ | refine Pure.clo ?_ ?_ | refine Pure.fp ?_ | exact Pure.mapd _ | assumption)) (by repeat' (first | exact Pure.d _ | exact Pure.dx _ | exact Pure.dp _ | exact fa_nil | refine fa_cons ?_ ?_ | refine Pure.agg ?_ | refine Pure.tup ?_ | refine Pure.clo ?_ ?_ | refine Pure.fp ?_ | exact Pure.mapd _ | assumption)) ?_
  refine Tr.reg [1, 2, 3, 4, 5] (by
      simp only [↓sxd, sxu, ↓zE, ↓exq, St.keep, ↓zI, Nat.reduceBEq, Nat.reduceAdd, Nat.reduceLT, Nat.reduceEqDiff]
      (repeat' (first | rfl | exact trivial | exact fun h => h | exact fun h => (by rw [h]; rfl) | apply And.intro | omega | exact Nat.le_of_ble_eq_true rfl))) ?_
  refine Tr.reg [1, 2, 3, 4, 5, 11] (by
      simp only [↓sxd, sxu, ↓zE, ↓exq, ↓zB, St.keep, ↓zJ, ↓zD, ↓zA, Nat.reduceBEq, Nat.reduceAdd, Nat.reduceLT, Nat.reduceEqDiff, sxe, tysW36_6]
      (repeat' (first | rfl | exact trivial | exact fun h => h | exact fun h => (by rw [h]; rfl) | apply And.intro | omega | exact Nat.le_of_ble_eq_true rfl))) ?_
  refine Tr.seq ?_
  refine Tr.reg [1, 2, 3, 4, 5, 11, 48] (by
      simp only [↓sxd, sxu, ↓zE, ↓exq, St.keep, ↓zD, Nat.reduceBEq, Nat.reduceAdd, Nat.reduceLT, tysW36_6]
      (repeat ((with_reducible refine And.intro ?_ ?_); (focus (first | with_reducible rfl | trivial | exact fun h => h | exact fun h => (by rw [h]; rfl) | omega | assumption))))
      refine CallO.use (Thin_c _ c) ?_
      try simp only [↓sxd, sxu, ↓zE, ↓exq, ↓zL, Nat.reduceLT]
      (repeat ((with_reducible refine And.intro ?_ ?_); (focus (first | with_reducible rfl | trivial | exact fun h => h | exact fun h => (by rw [h]; rfl) | omega | assumption))))
      refine GdO.mk _ (fun hg => by simp only [sxu, ↓exq, ↓zD, Nat.reduceBEq, Nat.reduceAdd, Nat.reduceLT, tysW36_6]; (repeat' (first | rfl | exact trivial | exact fun h => h | exact fun h => (by rw [h]; rfl) | apply And.intro | omega | exact Nat.le_of_ble_eq_true rfl))) ?_
      simp only [↓sxd, sxu, ↓zE, Nat.reduceBEq, Nat.reduceLT]
      (repeat ((with_reducible refine And.intro ?_ ?_); (focus (first | with_reducible rfl | trivial | exact fun h => h | exact fun h => (by rw [h]; rfl) | omega | assumption))))
      refine GdO.mk (I c.check) (fun hg => by
        obtain ⟨h1, h2, h3⟩ := thin_len (by simpa using hg)
        simp only [sxu, ↓exq, ↓zB, hg]
        (repeat ((with_reducible refine And.intro ?_ ?_); (focus (first | with_reducible rfl | trivial | exact fun h => h | exact fun h => (by rw [h]; rfl) | omega | assumption))))
        exact CallP.use (fault_c c (by omega) (by omega) (by omega)) ⟨rfl, rfl, rfl⟩) ?_
      try simp only [↓sxd, sxu, ↓zE, Nat.reduceBEq, Nat.reduceLT]
      iterate 11
        (repeat ((with_reducible refine And.intro ?_ ?_); (focus (first | with_reducible rfl | trivial | exact fun h => h | exact fun h => (by rw [h]; rfl) | omega | assumption))))
        refine GdO.mk _ (fun hg => by simp only [↓sxd, sxu, ↓exq, ↓zB, ↓zJ, ↓zD, ↓zA, Nat.reduceBEq, Nat.reduceAdd, Nat.reduceLT, Nat.reduceEqDiff, sxe, tysW36_6, hg]; (repeat' (first | rfl | exact trivial | exact fun h => h | exact fun h => (by rw [h]; rfl) | apply And.intro | omega | exact Nat.le_of_ble_eq_true rfl))) ?_
        simp only [↓sxd, sxu, ↓zE, ↓exq, ↓zH, Nat.reduceBEq, Nat.reduceLT]
      (repeat' (first | rfl | exact trivial | exact fun h => h | exact fun h => (by rw [h]; rfl) | apply And.intro | omega | exact Nat.le_of_ble_eq_true rfl))) ?_
  refine Tr.cond rfl (fun h48 => ?_) (fun h48 => ?_)
  · refine Tr.reg [10] (by
        simp only [↓sxd, sxu, ↓zE, St.keep, Nat.reduceLT]
        (repeat ((with_reducible refine And.intro ?_ ?_); (focus (first | with_reducible rfl | trivial | exact fun h => h | exact fun h => (by rw [h]; rfl) | omega | assumption))))
        refine CallO.use (awake_c) ?_
        try simp only [↓sxd, sxu, ↓zE, ↓exq, Nat.reduceLT]
        (repeat' (first | rfl | exact trivial | exact fun h => h | exact fun h => (by rw [h]; rfl) | apply And.intro | omega | exact Nat.le_of_ble_eq_true rfl))) ?_
    refine Tr.ret ?_
    (refine ⟨.inr rfl, ?_⟩; first | rfl | exact ⟨rfl, rfl, trivial⟩ | exact ⟨rfl, rfl, rfl, trivial⟩ | (simp only [Res, ResL, ResOK, ↓sxd, sxu, ↓zE, ↓zC, zK, ↓exP, ↓exq, ↓zB, St.keep, ↓zH, ↓xB, ↓zL, ↓zJ, ↓zD, ↓zN, ↓zV, ↓zM, ↓zI, ↓zO, ↓zG, ↓zQ, ↓zA, Nat.reduceBEq, Nat.reduceAdd, Nat.reduceLT, Nat.reduceMul, Nat.reduceSub, Nat.reduceLeDiff, Nat.reduceEqDiff, Int.reduceLE, Int.reduceLT, Int.reduceToNat, reduceIte, implies_true, sxe, tysW36_6]; (repeat' (first | rfl | exact trivial | exact fun h => h | exact fun h => (by rw [h]; rfl) | apply And.intro | omega | exact Nat.le_of_ble_eq_true rfl))))
  · have hF : c.thin = true ∧ c.check = 0 ∧ 2 ≤ c.entries.length ∧ c.same.length ≤ 5 ∧ c.apart.length ≤ 5 := by
      simp only [Bool.or_eq_false_iff, Bool.not_eq_false', bne_eq_false_iff_eq, decide_eq_false_iff_not] at h48
      obtain ⟨⟨⟨⟨p, q⟩, r⟩, s⟩, t⟩ := h48
      exact ⟨p, q, by omega, by omega, by omega⟩
    obtain ⟨hth, hck, hn2, hs5, ha5⟩ := hF
    have hf := fine_iff.1 hck
    have hsm := small_thin hth
    have h10 := hf.n10
    have hd1 : (c.entries.length ≤ 1073741824) = True := eq_true (by omega)
    have hd2 : (c.same.length ≤ 1073741824) = True := eq_true (by omega)
    have hd3 : (c.apart.length ≤ 1073741824) = True := eq_true (by omega)
    obtain ⟨j, hj⟩ : ∃ j, j = w / 4 % c.entries.length := ⟨_, rfl⟩
    have hjl : j < c.entries.length := by rw [hj]; exact Nat.mod_lt _ (by omega)
    obtain ⟨i, hi⟩ : ∃ i, i = a % c.entries.length := ⟨_, rfl⟩
    have hil : i < c.entries.length := by rw [hi]; exact Nat.mod_lt _ (by omega)
    obtain ⟨t, ht⟩ : ∃ t, t = b % (c.entries.length - 1) := ⟨_, rfl⟩
    have htl : t < c.entries.length - 1 := by rw [ht]; exact Nat.mod_lt _ (by omega)
    obtain ⟨q, hq⟩ : ∃ q, q = (i + 1 + t) % c.entries.length := ⟨_, rfl⟩
    have hqn := rot_ne hil htl
    rw [← hq] at hqn
    obtain ⟨hql, hiq⟩ := hqn
    have hne0 : ((c.entries.length : Int) = 0) = False := eq_false (by omega)
    have wn1 : IntKind.i64.wrap ((c.entries.length : Int) - 1) = ((c.entries.length - 1 : Nat) : Int) := by rw [wr (by omega) (by omega)]; omega
    have hne1 : (((c.entries.length - 1 : Nat) : Int) = 0) = False := eq_false (by omega)
    have wi1 : IntKind.i64.wrap ((i : Int) + 1) = ((i + 1 : Nat) : Int) := by rw [wr (by omega) (by omega)]; rfl
    have wi2 : IntKind.i64.wrap (((i + 1 : Nat) : Int) + (t : Int)) = ((i + 1 + t : Nat) : Int) := by rw [wr (by omega) (by omega)]; rfl
    have fo := hf.om
    have fn := hf.nu
    obtain ⟨z0, z1, z2⟩ := hf.ages hjl
    have z0 : 0 ≤ (c.entries.getD j default).ages.lo := z0
    have z1 : (c.entries.getD j default).ages.lo ≤ (c.entries.getD j default).ages.hi := z1
    have z2 : (c.entries.getD j default).ages.hi ≤ 120 := z2
    have y3 : y % 3 ≤ 1000 := by omega
    have y43 : y / 4 % 3 ≤ 1000 := by omega
    have l1 := wadd (k := y % 3) (show 0 ≤ c.omitted.lo by omega) (by omega) y3
    have l2 := wsub (k := y / 4 % 3) (show 0 ≤ c.omitted.hi by omega) (by omega) y43
    have l3 := wadd (k := y % 3) (show 0 ≤ c.number.lo by omega) (by omega) y3
    have l4 := wsub (k := y / 4 % 3) (show 0 ≤ c.number.hi by omega) (by omega) y43
    have l5 := wadd (k := y % 3) z0 (by omega) y3
    have l6 := wsub (k := y / 4 % 3) (show 0 ≤ (c.entries.getD j default).ages.hi by omega) (by omega) y43
    have hjE : j < (ee c.entries).length := by rw [ee_len]; exact hjl
    refine Tr.skip ?_
    refine Tr.reg [1, 2, 3, 4, 5, 11, 12] (by
        simp only [↓sxd, sxu, ↓zE, ↓exq, St.keep, ↓zD, ↓zM, Nat.reduceBEq, Nat.reduceAdd, Nat.reduceLT, Nat.reduceEqDiff, tysW36_6]
        (repeat' (first | rfl | exact trivial | exact fun h => h | exact fun h => (by rw [h]; rfl) | apply And.intro | omega | exact Nat.le_of_ble_eq_true rfl))) ?_
    refine Tr.reg [1, 2, 3, 4, 5, 11, 12] (by
        simp only [↓sxd, sxu, ↓zE, ↓exq, ↓zB, St.keep, ↓zD, ↓zG, ↓zQ, ↓zA, Nat.reduceBEq, Nat.reduceAdd, Nat.reduceLT, Nat.reduceLeDiff, Nat.reduceEqDiff, tysW36_6, src_ee, ee_all, ee_len, hd1]
        (repeat' (first | rfl | exact trivial | exact fun h => h | exact fun h => (by rw [h]; rfl) | apply And.intro | omega | exact Nat.le_of_ble_eq_true rfl))) ?_
    refine Tr.regD [1, 2, 5, 6, 0, 3, 4, 7, 8, 9, 10, 11] [3, 7, 9, 11] [6] [1, 2, 3, 4, 5, 11, 12] mix (by kernel_rfl) (by
        simp only [↓sxd, sxu, ↓zC, zK, ↓exq, ↓zB, St.keep, ↓zD, ↓zG, ↓zQ, ↓zA, Nat.reduceBEq, Nat.reduceAdd, Nat.reduceLT, Nat.reduceLeDiff, Nat.reduceEqDiff, tysW36_6, src_pp, pp_all, pp_len, hd2, hd3]
        (repeat' (first | rfl | exact trivial | exact fun h => h | exact fun h => (by rw [h]; rfl) | apply And.intro | omega | exact Nat.le_of_ble_eq_true rfl))) ?_
    refine Tr.reg [1, 2, 3, 4, 5, 11, 12, 13] (by
        simp only [↓sxd, sxu, ↓zE, ↓exq, St.keep, ↓zA, Nat.reduceBEq, Nat.reduceLT, Nat.reduceEqDiff, tysW36_6]
        (repeat' (first | rfl | exact trivial | exact fun h => h | exact fun h => (by rw [h]; rfl) | apply And.intro | omega | exact Nat.le_of_ble_eq_true rfl))) ?_
    refine Tr.seq ?_
    refine Tr.reg [1, 2, 3, 4, 5, 11, 12, 13, 68] (by
        simp only [↓sxd, sxu, ↓zE, ↓exq, St.keep, Nat.reduceBEq, Nat.reduceLT, tmod4]
        (repeat' (first | rfl | exact trivial | exact fun h => h | exact fun h => (by rw [h]; rfl) | apply And.intro | omega | exact Nat.le_of_ble_eq_true rfl))) ?_
    refine Tr.block ?_
    refine Tr.reg [1, 2, 3, 4, 5, 11, 12, 13, 68, 69] (by
        simp only [↓sxd, sxu, ↓zE, ↓exq, St.keep, Nat.reduceBEq, Nat.reduceLT]
        (repeat' (first | rfl | exact trivial | exact fun h => h | exact fun h => (by rw [h]; rfl) | apply And.intro | omega | exact Nat.le_of_ble_eq_true rfl))) ?_
    refine Tr.cond rfl (fun h69 => ?_) (fun h69 => ?_)
    · obtain ⟨E, hE⟩ : ∃ E, E = c.entries := ⟨_, rfl⟩
      obtain ⟨O, hO⟩ : ∃ O, O = c.omitted.nar y := ⟨_, rfl⟩
      obtain ⟨N, hN⟩ : ∃ N, N = c.number := ⟨_, rfl⟩
      have hnar : Nar c E O N := by rw [hE, hO, hN]; exact Nar.omit hf y
      refine Tr.reg1 [1, 2, 4, 5, 11, 12, 13] (by
          simp only [↓sxd, sxu, ↓zE, ↓exq, St.keep, ↓zA, Nat.reduceBEq, Nat.reduceLT, Nat.reduceEqDiff, tysW36_6]
          (repeat' (first | rfl | exact trivial | exact fun h => h | exact fun h => (by rw [h]; rfl) | apply And.intro | omega | exact Nat.le_of_ble_eq_true rfl))) ?_
      refine Tr.regD [0, 1, 2, 3, 4, 5, 6, 7, 8, 9, 10, 11, 12, 13, 14, 15, 16] [16] [] [1, 2, 4, 5, 11, 12, 13] mix (by kernel_rfl) (by
          simp only [↓sxd, sxu, ↓zC, zK, ↓exq, ↓zB, St.keep, ↓xB, ↓zD, ↓zV, ↓zA, Nat.reduceBEq, Nat.reduceAdd, Nat.reduceLT, Nat.reduceLeDiff, Nat.reduceEqDiff, tysW36_6, wi (show y < 9223372036854775808 by omega), tmod3, l1]
          (repeat' (first | rfl | exact trivial | exact fun h => h | exact fun h => (by rw [h]; rfl) | apply And.intro | omega | exact Nat.le_of_ble_eq_true rfl))) ?_
      refine Tr.regD [0, 1, 2, 3, 4, 5, 6, 7, 8, 9, 10, 11, 12, 13, 14, 15, 16, 17] [17] [] [1, 2, 4, 5, 11, 12] mix (by kernel_rfl) (by
          simp only [↓sxd, sxu, ↓zC, zK, ↓exq, ↓zB, St.keep, ↓xB, ↓zD, ↓zV, ↓zA, Nat.reduceBEq, Nat.reduceAdd, Nat.reduceLT, Nat.reduceLeDiff, Nat.reduceEqDiff, tysW36_6, wi (show y < 9223372036854775808 by omega), tdiv4, wi (show y / 4 < 9223372036854775808 by omega), tmod3, l2]
          (repeat' (first | rfl | exact trivial | exact fun h => h | exact fun h => (by rw [h]; rfl) | apply And.intro | omega | exact Nat.le_of_ble_eq_true rfl))) ?_
      refine Tr.reg [2, 4, 5, 11, 12, 14] (by
          simp only [↓sxd, sxu, ↓zE, ↓exq, St.keep, ↓xB, Nat.reduceBEq, Nat.reduceLT, tysW36_6, wi (show a < 9223372036854775808 by omega), tmod_n, ← hi, hne0]
          (repeat' (first | rfl | exact trivial | exact fun h => h | exact fun h => (by rw [h]; rfl) | apply And.intro | omega | exact Nat.le_of_ble_eq_true rfl))) ?_
      refine Tr.reg [4, 5, 12, 15] (by
          simp only [↓sxd, sxu, ↓zE, ↓exq, St.keep, ↓xB, ↓zM, ↓zO, Nat.reduceBEq, Nat.reduceAdd, Nat.reduceLT, Nat.reduceLeDiff, Nat.reduceEqDiff, tysW36_6, wi (show b < 9223372036854775808 by omega), wn1, hne1, tmod_n, ← ht, wi1, wi2, ← hq, hne0]
          (repeat' (first | rfl | exact trivial | exact fun h => h | exact fun h => (by rw [h]; rfl) | apply And.intro | omega | exact Nat.le_of_ble_eq_true rfl))) ?_
      refine Tr.seq ?_
      refine Tr.reg [5, 12, 15, 134] (by
          simp only [↓sxd, sxu, ↓zE, ↓exq, St.keep, Nat.reduceBEq, Nat.reduceLT]
          (repeat' (first | rfl | exact trivial | exact fun h => h | exact fun h => (by rw [h]; rfl) | apply And.intro | omega | exact Nat.le_of_ble_eq_true rfl))) ?_
      refine Tr.cond rfl (fun h134 => ?_) (fun h134 => ?_)
      · have hX := hnar.more hf hs5 ha5 hil hql hiq (S := c.same ++ [⟨i, q⟩]) (A := c.apart) (.inl ⟨rfl, rfl⟩)
        obtain ⟨x, hxd⟩ : ∃ x : Census, x = ⟨E, c.same ++ [⟨i, q⟩], c.apart, O, N⟩ := ⟨_, rfl⟩
        rw [← hxd] at hX
        obtain ⟨hsy, hfx⟩ := hX
        have hlaw := more_law hf hfx hsy
        have hP := PersonsF_c c hf
        have hQ := PersonsF_c x hfx
        obtain ⟨r1, o1, e1, he1⟩ : ∃ r o e, c.personsS = (r, o, e) := ⟨_, _, _, rfl⟩
        obtain ⟨r2, o2, e2, he2⟩ : ∃ r o e, x.personsS = (r, o, e) := ⟨_, _, _, rfl⟩
        rw [he1] at hP hlaw
        rw [he2] at hQ hlaw
        have hp1 : (c.same.length + 1 ≤ 1073741824) = True := eq_true (by omega)
        refine Tr.reg1 [5, 12] (by
            simp only [↓sxd, sxu, ↓zE, ↓exq, ↓zB, St.keep, ↓zD, ↓zG, ↓zQ, ↓zA, Nat.reduceBEq, Nat.reduceAdd, Nat.reduceLT, Nat.reduceLeDiff, Nat.reduceEqDiff, tysW36_6, pp_len, hp1]
            (repeat' (first | rfl | exact trivial | exact fun h => h | exact fun h => (by rw [h]; rfl) | apply And.intro | omega | exact Nat.le_of_ble_eq_true rfl))) ?_
        refine Tr.imp (st' := ⟨[(5, .ptr 0 0 0), (12, .ptr 1 0 0)], [(1, .arr 7 [cs x (SP x.same) (SP x.apart)]), (0, .arr 7 [cs c (SP c.same) (SP c.apart)])], 7, 209, [], 0⟩) (by
        subst hxd hE hO hN
        exact Imp.go (fun i => i) [(1, _), (0, _)] rfl rfl (.cons _ (.cons _ (.cons _ (.cons _ (.refl _))))) (fun _ _ => rfl) (fun _ h => h) (by repeat' (first | exact TmT.cons rfl (TnS.d _) ?_ | exact trivial | exact F2.nil | refine F2.append ?_ ?_ | refine F2.map fun _ _ => ?_ | refine F2.cons ?_ ?_ | refine TmT.cons rfl ?_ ?_ | exact TnS.d _ | exact TnS.dx _ | exact TnS.dp _ | exact TnS.slc rfl | exact TnS.ptr rfl | refine TnS.frzf rfl (by simp) (by simp) (by simp) ?_ | refine TnS.frz0 rfl (by simp) (by simp) (by simp) ?_ | refine TnS.frzm rfl (by simp) ?_ | exact TnS.mapr rfl | exact TnS.yld rfl | refine ⟨rfl, ?_⟩ | refine TnO.arr ?_ | refine TnO.map ?_ | exact TnO.raw _ | exact TnO.iter _ _ | refine TnS.agg ?_ | refine TnS.tup ?_ | exact TnS.pure (Pure.clo (by assumption) (by assumption)) | refine TnS.clo ?_ ?_ | exact TnS.unk _ | exact TnS.pure (Pure.clo (by assumption) (by assumption)))) (.cons ⟨rfl, TnO.arr (.cons (.cons (efz (id := 2) rfl (by first | rfl | exact narE_ee.symm) (by simp) (by first | rfl | exact narE_len)) (.cons (pfz (id := 6) rfl (by simp [pp, dP]) (by simp) (by simp)) (.cons (pfz (id := 4) rfl rfl (by simp) rfl) (.cons (TnS.d _) (.cons (TnS.d _) (.cons (TnS.d _) (.cons (TnS.d _) .nil))))))) .nil)⟩ (.cons ⟨rfl, TnO.arr (by repeat' (first | exact TmT.cons rfl (TnS.d _) ?_ | exact trivial | exact F2.nil | refine F2.append ?_ ?_ | refine F2.map fun _ _ => ?_ | refine F2.cons ?_ ?_ | refine TmT.cons rfl ?_ ?_ | exact TnS.d _ | exact TnS.dx _ | exact TnS.dp _ | exact TnS.slc rfl | exact TnS.ptr rfl | refine TnS.frzf rfl (by simp) (by simp) (by simp) ?_ | refine TnS.frz0 rfl (by simp) (by simp) (by simp) ?_ | refine TnS.frzm rfl (by simp) ?_ | exact TnS.mapr rfl | exact TnS.yld rfl | refine ⟨rfl, ?_⟩ | refine TnO.arr ?_ | refine TnO.map ?_ | exact TnO.raw _ | exact TnO.iter _ _ | refine TnS.agg ?_ | refine TnS.tup ?_ | exact TnS.pure (Pure.clo (by assumption) (by assumption)) | refine TnS.clo ?_ ?_ | exact TnS.unk _ | exact TnS.pure (Pure.clo (by assumption) (by assumption))))⟩ .nil)) (fun _ => rfl)) ?_
        refine Tr.reg [12, 16, 17, 18] (by
            simp only [↓sxd, sxu, ↓zE, ↓exq, St.keep, ↓zD, Nat.reduceBEq, Nat.reduceAdd, Nat.reduceLT, tysW36_6]
            (repeat ((with_reducible refine And.intro ?_ ?_); (focus (first | with_reducible rfl | trivial | exact fun h => h | exact fun h => (by rw [h]; rfl) | omega | assumption))))
            refine CallO.use (lCensus_c c hsm) ?_
            try simp only [↓sxd, sxu, ↓zE, Nat.reduceLT]
            (repeat ((with_reducible refine And.intro ?_ ?_); (focus (first | with_reducible rfl | trivial | exact fun h => h | exact fun h => (by rw [h]; rfl) | omega | assumption))))
            refine CallO.use (hP) ?_
            try simp only [↓sxd, sxu, ↓zE, ↓exq, ↓zN, ↓zM, Nat.reduceBEq, Nat.reduceAdd, Nat.reduceLT, Nat.reduceEqDiff, tysW36_6]
            (repeat' (first | rfl | exact trivial | exact fun h => h | exact fun h => (by rw [h]; rfl) | apply And.intro | omega | exact Nat.le_of_ble_eq_true rfl))) ?_
        refine Tr.reg [16, 17, 18, 19, 20, 21] (by
            simp only [↓sxd, sxu, ↓zE, ↓exq, St.keep, ↓zD, Nat.reduceBEq, Nat.reduceAdd, Nat.reduceLT, tysW36_6]
            (repeat ((with_reducible refine And.intro ?_ ?_); (focus (first | with_reducible rfl | trivial | exact fun h => h | exact fun h => (by rw [h]; rfl) | omega | assumption))))
            refine CallO.use (lCensus_c x (fine_small hfx)) ?_
            try simp only [↓sxd, sxu, ↓zE, Nat.reduceLT]
            (repeat ((with_reducible refine And.intro ?_ ?_); (focus (first | with_reducible rfl | trivial | exact fun h => h | exact fun h => (by rw [h]; rfl) | omega | assumption))))
            refine CallO.use (hQ) ?_
            try simp only [↓sxd, sxu, ↓zE, ↓exq, ↓zN, ↓zM, Nat.reduceBEq, Nat.reduceAdd, Nat.reduceLT, Nat.reduceEqDiff, tysW36_6]
            (repeat' (first | rfl | exact trivial | exact fun h => h | exact fun h => (by rw [h]; rfl) | apply And.intro | omega | exact Nat.le_of_ble_eq_true rfl))) ?_
        refine Tr.seq ?_
        refine Tr.reg [16, 17, 18, 19, 20, 21, 162] (by
            simp only [↓sxd, sxu, ↓zE, ↓exq, St.keep, Nat.reduceBEq, Nat.reduceLT]
            (repeat' (first | rfl | exact trivial | exact fun h => h | exact fun h => (by rw [h]; rfl) | apply And.intro | omega | exact Nat.le_of_ble_eq_true rfl))) ?_
        refine Tr.cond rfl (fun h162 => ?_) (fun h162 => ?_)
        · refine Tr.reg [10] (by
              simp only [↓sxd, sxu, ↓zE, ↓exq, St.keep, Nat.reduceBEq, Nat.reduceLT]
              iterate 5
                (repeat ((with_reducible refine And.intro ?_ ?_); (focus (first | with_reducible rfl | trivial | exact fun h => h | exact fun h => (by rw [h]; rfl) | omega | assumption))))
                refine GdO.mk _ (fun hg => by simp only [↓sxd, sxu, ↓exq, Nat.reduceBEq, hg]; (repeat' (first | rfl | exact trivial | exact fun h => h | exact fun h => (by rw [h]; rfl) | apply And.intro | omega | exact Nat.le_of_ble_eq_true rfl))) ?_
                simp only [↓sxd, sxu, ↓zE, Nat.reduceBEq, Nat.reduceLT]
              (repeat ((with_reducible refine And.intro ?_ ?_); (focus (first | with_reducible rfl | trivial | exact fun h => h | exact fun h => (by rw [h]; rfl) | omega | assumption))))
              first | refine GdO.or (fun hg => by simp only [sxu, Nat.reduceBEq, pickArgs, hg]; (repeat' (first | rfl | exact trivial | exact fun h => h | exact fun h => (by rw [h]; rfl) | apply And.intro | omega | exact Nat.le_of_ble_eq_true rfl))) ?_ | refine GdO.mk _ (fun hg => by simp only [↓sxd, sxu, ↓zE, ↓zC, zK, ↓exP, ↓exq, ↓zB, St.keep, ↓zH, ↓xB, ↓zL, ↓zJ, ↓zD, ↓zN, ↓zV, ↓zM, ↓zI, ↓zO, ↓zG, ↓zQ, ↓zA, Nat.reduceBEq, Nat.reduceAdd, Nat.reduceLT, Nat.reduceMul, Nat.reduceSub, Nat.reduceLeDiff, Nat.reduceEqDiff, Int.reduceLE, Int.reduceLT, Int.reduceToNat, reduceIte, implies_true, sxe, tysW36_6, hg, if_true]; (repeat' (first | rfl | exact trivial | exact fun h => h | exact fun h => (by rw [h]; rfl) | apply And.intro | omega | exact Nat.le_of_ble_eq_true rfl))) ?_
              simp only [↓sxd, sxu, ↓zE, ↓exq, ↓zH, Nat.reduceBEq, Nat.reduceLT]
              (repeat ((with_reducible refine And.intro ?_ ?_); (focus (first | with_reducible rfl | trivial | exact fun h => h | exact fun h => (by rw [h]; rfl) | omega | assumption))))
              refine GdO.mk _ (fun hg => by simp only [sxu, ↓exq, ↓zB, hg]; (repeat ((with_reducible refine And.intro ?_ ?_); (focus (first | with_reducible rfl | trivial | exact fun h => h | exact fun h => (by rw [h]; rfl) | omega | assumption)))); exact CallP.use (awake_c) ⟨rfl, rfl, rfl⟩) ?_
              simp only [↓sxd, sxu, ↓zE, ↓exq, ↓zH, Nat.reduceBEq, Nat.reduceLT]
              (repeat' (first | rfl | exact trivial | exact fun h => h | exact fun h => (by rw [h]; rfl) | apply And.intro | omega | exact Nat.le_of_ble_eq_true rfl))) ?_
          refine Tr.ret ?_
          exact ⟨.inr rfl, congrArg (fun n => some (B n)) (by
          have h162' : ¬ e2 = 0 := by simpa using h162
          rcases hlaw with ⟨_, h2, h3⟩ | ⟨h1, _⟩
          · have h2 : e2 = 9 := h2
            have h3 : e1 = 0 ∨ e1 = 9 := h3
            subst h2
            rcases h3 with rfl | rfl <;> rfl
          · exact absurd h1 h162')⟩
        · refine Tr.skip ?_
          refine Tr.reg [10] (by
              simp only [↓sxd, sxu, ↓zE, ↓exq, St.keep, Nat.reduceBEq, Nat.reduceLT]
              iterate 20
                (repeat ((with_reducible refine And.intro ?_ ?_); (focus (first | with_reducible rfl | trivial | exact fun h => h | exact fun h => (by rw [h]; rfl) | omega | assumption))))
                refine GdO.mk _ (fun hg => by simp only [↓sxd, sxu, ↓exq, ↓zD, ↓zA, Nat.reduceBEq, Nat.reduceAdd, Nat.reduceLT, Nat.reduceEqDiff, tysW36_6, hg]; (repeat' (first | rfl | exact trivial | exact fun h => h | exact fun h => (by rw [h]; rfl) | apply And.intro | omega | exact Nat.le_of_ble_eq_true rfl))) ?_
                simp only [↓sxd, sxu, ↓zE, ↓exq, ↓zH, Nat.reduceBEq, Nat.reduceLT]
              (repeat ((with_reducible refine And.intro ?_ ?_); (focus (first | with_reducible rfl | trivial | exact fun h => h | exact fun h => (by rw [h]; rfl) | omega | assumption))))
              refine GdO.mk _ (fun hg => by simp only [sxu, ↓exq, ↓zB, hg]; (repeat ((with_reducible refine And.intro ?_ ?_); (focus (first | with_reducible rfl | trivial | exact fun h => h | exact fun h => (by rw [h]; rfl) | omega | assumption)))); exact CallP.use (awake_c) ⟨rfl, rfl, rfl⟩) ?_
              simp only [↓sxd, sxu, ↓zE, ↓exq, ↓zH, Nat.reduceBEq, Nat.reduceLT]
              (repeat' (first | rfl | exact trivial | exact fun h => h | exact fun h => (by rw [h]; rfl) | apply And.intro | omega | exact Nat.le_of_ble_eq_true rfl))) ?_
          refine Tr.ret ?_
          exact ⟨.inr rfl, congrArg (fun n => some (B n)) (by
          have h162' : e2 = 0 := by simpa using h162
          rcases hlaw with ⟨h1, _⟩ | ⟨_, h2, h3, h4, h5, h6⟩
          · exact absurd h162' h1
          · have h2 : e1 = 0 := h2
            have h3 : r1.lo ≤ r2.lo := h3
            have h4 : r2.hi ≤ r1.hi := h4
            have h5 : o1.lo ≤ o2.lo := h5
            have h6 : o2.hi ≤ o1.hi := h6
            subst h2
            simp [h3, h4, h5, h6])⟩
      · have hX := hnar.more hf hs5 ha5 hil hql hiq (S := c.same) (A := c.apart ++ [⟨i, q⟩]) (.inr ⟨rfl, rfl⟩)
        obtain ⟨x, hxd⟩ : ∃ x : Census, x = ⟨E, c.same, c.apart ++ [⟨i, q⟩], O, N⟩ := ⟨_, rfl⟩
        rw [← hxd] at hX
        obtain ⟨hsy, hfx⟩ := hX
        have hlaw := more_law hf hfx hsy
        have hP := PersonsF_c c hf
        have hQ := PersonsF_c x hfx
        obtain ⟨r1, o1, e1, he1⟩ : ∃ r o e, c.personsS = (r, o, e) := ⟨_, _, _, rfl⟩
        obtain ⟨r2, o2, e2, he2⟩ : ∃ r o e, x.personsS = (r, o, e) := ⟨_, _, _, rfl⟩
        rw [he1] at hP hlaw
        rw [he2] at hQ hlaw
        have hp1 : (c.apart.length + 1 ≤ 1073741824) = True := eq_true (by omega)
        refine Tr.reg1 [5, 12] (by
            simp only [↓sxd, sxu, ↓zE, ↓exq, ↓zB, St.keep, ↓zD, ↓zG, ↓zQ, ↓zA, Nat.reduceBEq, Nat.reduceAdd, Nat.reduceLT, Nat.reduceLeDiff, Nat.reduceEqDiff, tysW36_6, pp_len, hp1]
            (repeat' (first | rfl | exact trivial | exact fun h => h | exact fun h => (by rw [h]; rfl) | apply And.intro | omega | exact Nat.le_of_ble_eq_true rfl))) ?_
        refine Tr.imp (st' := ⟨[(5, .ptr 0 0 0), (12, .ptr 1 0 0)], [(1, .arr 7 [cs x (SP x.same) (SP x.apart)]), (0, .arr 7 [cs c (SP c.same) (SP c.apart)])], 7, 209, [], 0⟩) (by
        subst hxd hE hO hN
        exact Imp.go (fun i => i) [(1, _), (0, _)] rfl rfl (.cons _ (.cons _ (.cons _ (.cons _ (.refl _))))) (fun _ _ => rfl) (fun _ h => h) (by repeat' (first | exact TmT.cons rfl (TnS.d _) ?_ | exact trivial | exact F2.nil | refine F2.append ?_ ?_ | refine F2.map fun _ _ => ?_ | refine F2.cons ?_ ?_ | refine TmT.cons rfl ?_ ?_ | exact TnS.d _ | exact TnS.dx _ | exact TnS.dp _ | exact TnS.slc rfl | exact TnS.ptr rfl | refine TnS.frzf rfl (by simp) (by simp) (by simp) ?_ | refine TnS.frz0 rfl (by simp) (by simp) (by simp) ?_ | refine TnS.frzm rfl (by simp) ?_ | exact TnS.mapr rfl | exact TnS.yld rfl | refine ⟨rfl, ?_⟩ | refine TnO.arr ?_ | refine TnO.map ?_ | exact TnO.raw _ | exact TnO.iter _ _ | refine TnS.agg ?_ | refine TnS.tup ?_ | exact TnS.pure (Pure.clo (by assumption) (by assumption)) | refine TnS.clo ?_ ?_ | exact TnS.unk _ | exact TnS.pure (Pure.clo (by assumption) (by assumption)))) (.cons ⟨rfl, TnO.arr (.cons (.cons (efz (id := 2) rfl (by first | rfl | exact narE_ee.symm) (by simp) (by first | rfl | exact narE_len)) (.cons (pfz (id := 3) rfl rfl (by simp) rfl) (.cons (pfz (id := 6) rfl (by simp [pp, dP]) (by simp) (by simp)) (.cons (TnS.d _) (.cons (TnS.d _) (.cons (TnS.d _) (.cons (TnS.d _) .nil))))))) .nil)⟩ (.cons ⟨rfl, TnO.arr (by repeat' (first | exact TmT.cons rfl (TnS.d _) ?_ | exact trivial | exact F2.nil | refine F2.append ?_ ?_ | refine F2.map fun _ _ => ?_ | refine F2.cons ?_ ?_ | refine TmT.cons rfl ?_ ?_ | exact TnS.d _ | exact TnS.dx _ | exact TnS.dp _ | exact TnS.slc rfl | exact TnS.ptr rfl | refine TnS.frzf rfl (by simp) (by simp) (by simp) ?_ | refine TnS.frz0 rfl (by simp) (by simp) (by simp) ?_ | refine TnS.frzm rfl (by simp) ?_ | exact TnS.mapr rfl | exact TnS.yld rfl | refine ⟨rfl, ?_⟩ | refine TnO.arr ?_ | refine TnO.map ?_ | exact TnO.raw _ | exact TnO.iter _ _ | refine TnS.agg ?_ | refine TnS.tup ?_ | exact TnS.pure (Pure.clo (by assumption) (by assumption)) | refine TnS.clo ?_ ?_ | exact TnS.unk _ | exact TnS.pure (Pure.clo (by assumption) (by assumption))))⟩ .nil)) (fun _ => rfl)) ?_
        refine Tr.reg [12, 16, 17, 18] (by
            simp only [↓sxd, sxu, ↓zE, ↓exq, St.keep, ↓zD, Nat.reduceBEq, Nat.reduceAdd, Nat.reduceLT, tysW36_6]
            (repeat ((with_reducible refine And.intro ?_ ?_); (focus (first | with_reducible rfl | trivial | exact fun h => h | exact fun h => (by rw [h]; rfl) | omega | assumption))))
            refine CallO.use (lCensus_c c hsm) ?_
            try simp only [↓sxd, sxu, ↓zE, Nat.reduceLT]
            (repeat ((with_reducible refine And.intro ?_ ?_); (focus (first | with_reducible rfl | trivial | exact fun h => h | exact fun h => (by rw [h]; rfl) | omega | assumption))))
            refine CallO.use (hP) ?_
            try simp only [↓sxd, sxu, ↓zE, ↓exq, ↓zN, ↓zM, Nat.reduceBEq, Nat.reduceAdd, Nat.reduceLT, Nat.reduceEqDiff, tysW36_6]
            (repeat' (first | rfl | exact trivial | exact fun h => h | exact fun h => (by rw [h]; rfl) | apply And.intro | omega | exact Nat.le_of_ble_eq_true rfl))) ?_
        refine Tr.reg [16, 17, 18, 19, 20, 21] (by
            simp only [↓sxd, sxu, ↓zE, ↓exq, St.keep, ↓zD, Nat.reduceBEq, Nat.reduceAdd, Nat.reduceLT, tysW36_6]
            (repeat ((with_reducible refine And.intro ?_ ?_); (focus (first | with_reducible rfl | trivial | exact fun h => h | exact fun h => (by rw [h]; rfl) | omega | assumption))))
            refine CallO.use (lCensus_c x (fine_small hfx)) ?_
            try simp only [↓sxd, sxu, ↓zE, Nat.reduceLT]
            (repeat ((with_reducible refine And.intro ?_ ?_); (focus (first | with_reducible rfl | trivial | exact fun h => h | exact fun h => (by rw [h]; rfl) | omega | assumption))))
            refine CallO.use (hQ) ?_
            try simp only [↓sxd, sxu, ↓zE, ↓exq, ↓zN, ↓zM, Nat.reduceBEq, Nat.reduceAdd, Nat.reduceLT, Nat.reduceEqDiff, tysW36_6]
            (repeat' (first | rfl | exact trivial | exact fun h => h | exact fun h => (by rw [h]; rfl) | apply And.intro | omega | exact Nat.le_of_ble_eq_true rfl))) ?_
        refine Tr.seq ?_
        refine Tr.reg [16, 17, 18, 19, 20, 21, 162] (by
            simp only [↓sxd, sxu, ↓zE, ↓exq, St.keep, Nat.reduceBEq, Nat.reduceLT]
            (repeat' (first | rfl | exact trivial | exact fun h => h | exact fun h => (by rw [h]; rfl) | apply And.intro | omega | exact Nat.le_of_ble_eq_true rfl))) ?_
        refine Tr.cond rfl (fun h162 => ?_) (fun h162 => ?_)
        · refine Tr.reg [10] (by
              simp only [↓sxd, sxu, ↓zE, ↓exq, St.keep, Nat.reduceBEq, Nat.reduceLT]
              iterate 5
                (repeat ((with_reducible refine And.intro ?_ ?_); (focus (first | with_reducible rfl | trivial | exact fun h => h | exact fun h => (by rw [h]; rfl) | omega | assumption))))
                refine GdO.mk _ (fun hg => by simp only [↓sxd, sxu, ↓exq, Nat.reduceBEq, hg]; (repeat' (first | rfl | exact trivial | exact fun h => h | exact fun h => (by rw [h]; rfl) | apply And.intro | omega | exact Nat.le_of_ble_eq_true rfl))) ?_
                simp only [↓sxd, sxu, ↓zE, Nat.reduceBEq, Nat.reduceLT]
              (repeat ((with_reducible refine And.intro ?_ ?_); (focus (first | with_reducible rfl | trivial | exact fun h => h | exact fun h => (by rw [h]; rfl) | omega | assumption))))
              first | refine GdO.or (fun hg => by simp only [sxu, Nat.reduceBEq, pickArgs, hg]; (repeat' (first | rfl | exact trivial | exact fun h => h | exact fun h => (by rw [h]; rfl) | apply And.intro | omega | exact Nat.le_of_ble_eq_true rfl))) ?_ | refine GdO.mk _ (fun hg => by simp only [↓sxd, sxu, ↓zE, ↓zC, zK, ↓exP, ↓exq, ↓zB, St.keep, ↓zH, ↓xB, ↓zL, ↓zJ, ↓zD, ↓zN, ↓zV, ↓zM, ↓zI, ↓zO, ↓zG, ↓zQ, ↓zA, Nat.reduceBEq, Nat.reduceAdd, Nat.reduceLT, Nat.reduceMul, Nat.reduceSub, Nat.reduceLeDiff, Nat.reduceEqDiff, Int.reduceLE, Int.reduceLT, Int.reduceToNat, reduceIte, implies_true, sxe, tysW36_6, hg, if_true]; (repeat' (first | rfl | exact trivial | exact fun h => h | exact fun h => (by rw [h]; rfl) | apply And.intro | omega | exact Nat.le_of_ble_eq_true rfl))) ?_
              simp only [↓sxd, sxu, ↓zE, ↓exq, ↓zH, Nat.reduceBEq, Nat.reduceLT]
              (repeat ((with_reducible refine And.intro ?_ ?_); (focus (first | with_reducible rfl | trivial | exact fun h => h | exact fun h => (by rw [h]; rfl) | omega | assumption))))
              refine GdO.mk _ (fun hg => by simp only [sxu, ↓exq, ↓zB, hg]; (repeat ((with_reducible refine And.intro ?_ ?_); (focus (first | with_reducible rfl | trivial | exact fun h => h | exact fun h => (by rw [h]; rfl) | omega | assumption)))); exact CallP.use (awake_c) ⟨rfl, rfl, rfl⟩) ?_
              simp only [↓sxd, sxu, ↓zE, ↓exq, ↓zH, Nat.reduceBEq, Nat.reduceLT]
              (repeat' (first | rfl | exact trivial | exact fun h => h | exact fun h => (by rw [h]; rfl) | apply And.intro | omega | exact Nat.le_of_ble_eq_true rfl))) ?_
          refine Tr.ret ?_
          exact ⟨.inr rfl, congrArg (fun n => some (B n)) (by
          have h162' : ¬ e2 = 0 := by simpa using h162
          rcases hlaw with ⟨_, h2, h3⟩ | ⟨h1, _⟩
          · have h2 : e2 = 9 := h2
            have h3 : e1 = 0 ∨ e1 = 9 := h3
            subst h2
            rcases h3 with rfl | rfl <;> rfl
          · exact absurd h1 h162')⟩
        · refine Tr.skip ?_
          refine Tr.reg [10] (by
              simp only [↓sxd, sxu, ↓zE, ↓exq, St.keep, Nat.reduceBEq, Nat.reduceLT]
              iterate 20
                (repeat ((with_reducible refine And.intro ?_ ?_); (focus (first | with_reducible rfl | trivial | exact fun h => h | exact fun h => (by rw [h]; rfl) | omega | assumption))))
                refine GdO.mk _ (fun hg => by simp only [↓sxd, sxu, ↓exq, ↓zD, ↓zA, Nat.reduceBEq, Nat.reduceAdd, Nat.reduceLT, Nat.reduceEqDiff, tysW36_6, hg]; (repeat' (first | rfl | exact trivial | exact fun h => h | exact fun h => (by rw [h]; rfl) | apply And.intro | omega | exact Nat.le_of_ble_eq_true rfl))) ?_
                simp only [↓sxd, sxu, ↓zE, ↓exq, ↓zH, Nat.reduceBEq, Nat.reduceLT]
              (repeat ((with_reducible refine And.intro ?_ ?_); (focus (first | with_reducible rfl | trivial | exact fun h => h | exact fun h => (by rw [h]; rfl) | omega | assumption))))
              refine GdO.mk _ (fun hg => by simp only [sxu, ↓exq, ↓zB, hg]; (repeat ((with_reducible refine And.intro ?_ ?_); (focus (first | with_reducible rfl | trivial | exact fun h => h | exact fun h => (by rw [h]; rfl) | omega | assumption)))); exact CallP.use (awake_c) ⟨rfl, rfl, rfl⟩) ?_
              simp only [↓sxd, sxu, ↓zE, ↓exq, ↓zH, Nat.reduceBEq, Nat.reduceLT]
              (repeat' (first | rfl | exact trivial | exact fun h => h | exact fun h => (by rw [h]; rfl) | apply And.intro | omega | exact Nat.le_of_ble_eq_true rfl))) ?_
          refine Tr.ret ?_
          exact ⟨.inr rfl, congrArg (fun n => some (B n)) (by
          have h162' : e2 = 0 := by simpa using h162
          rcases hlaw with ⟨h1, _⟩ | ⟨_, h2, h3, h4, h5, h6⟩
          · exact absurd h162' h1
          · have h2 : e1 = 0 := h2
            have h3 : r1.lo ≤ r2.lo := h3
            have h4 : r2.hi ≤ r1.hi := h4
            have h5 : o1.lo ≤ o2.lo := h5
            have h6 : o2.hi ≤ o1.hi := h6
            subst h2
            simp [h3, h4, h5, h6])⟩
    · refine Tr.seq ?_
      refine Tr.reg [1, 2, 3, 4, 5, 11, 12, 13, 68, 72] (by
          simp only [↓sxd, sxu, ↓zE, ↓exq, St.keep, Nat.reduceBEq, Nat.reduceLT]
          (repeat' (first | rfl | exact trivial | exact fun h => h | exact fun h => (by rw [h]; rfl) | apply And.intro | omega | exact Nat.le_of_ble_eq_true rfl))) ?_
      refine Tr.join2 (st' := ⟨[(1, .d (.lit (.int .u8 (a : Nat)))), (2, .d (.lit (.int .u8 (b : Nat)))), (3, .d (.lit (.int .u8 (w : Nat)))), (4, .d (.lit (.int .u8 (y : Nat)))), (5, .ptr 0 0 0), (11, I c.entries.length), (12, .ptr 1 0 0), (13, .ptr 1 0 5), (72, B (w % 4 == 1 || w % 4 == 2))], [(4, .arr 2 (pp c.apart)), (3, .arr 2 (pp c.same)), (2, .arr 5 (ee c.entries)), (1, .arr 7 [[.slc 2 5 0 c.entries.length c.entries.length, .slc 3 2 0 c.same.length c.same.length, .slc 4 2 0 c.apart.length c.apart.length, I c.omitted.lo, I c.omitted.hi, I c.number.lo, I c.number.hi]]), (0, .arr 7 [cs c (SP c.same) (SP c.apart)])], 5, 209, [], 0⟩) ?_ ?_
      ·
        refine Tr.cond rfl (fun h72 => ?_) (fun h72 => ?_)
        · have eW : (w % 4 == 1 || w % 4 == 2) = (((w % 4 : Nat) : Int) == 1) := by
            have h : w % 4 = 1 := by have := beq_iff_eq.1 h72; omega
            rw [h]; rfl
          refine Tr.skip ?_
          exact ⟨_, by rw [eW]; exact Imp.keep [1, 2, 3, 4, 5, 11, 12, 13, 72], rfl⟩
        · have eW : (w % 4 == 1 || w % 4 == 2) = (((w % 4 : Nat) : Int) == 2) := by
            have h : ¬ w % 4 = 1 := fun hc => by rw [hc] at h72; cases h72
            rw [show (w % 4 == 1) = false by simpa using h, Bool.false_or]
            exact (ib (w % 4) 2).symm
          refine Tr.reg1 [1, 2, 3, 4, 5, 11, 12, 13, 72] (by
              simp only [↓sxd, sxu, ↓zE, ↓exq, St.keep, Nat.reduceBEq, Nat.reduceLT]
              (repeat' (first | rfl | exact trivial | exact fun h => h | exact fun h => (by rw [h]; rfl) | apply And.intro | omega | exact Nat.le_of_ble_eq_true rfl))) ?_
          exact ⟨_, by rw [eW]; exact Imp.keep [1, 2, 3, 4, 5, 11, 12, 13, 72], rfl⟩
      refine Tr.cond rfl (fun h72 => ?_) (fun h72 => ?_)
      · obtain ⟨E, hE⟩ : ∃ E, E = narE c.entries j y := ⟨_, rfl⟩
        obtain ⟨O, hO⟩ : ∃ O, O = c.omitted := ⟨_, rfl⟩
        obtain ⟨N, hN⟩ : ∃ N, N = c.number := ⟨_, rfl⟩
        have hnar : Nar c E O N := by rw [hE, hO, hN]; exact Nar.age hf y hjl
        refine Tr.regD1 [0, 1, 2, 3, 4, 5, 6, 7, 8, 9] [] [] [1, 2, 4, 5, 11, 12, 13] mix (by kernel_rfl) (by
            simp only [↓sxd, sxu, ↓zC, zK, ↓exq, St.keep, ↓xB, ↓zD, ↓zA, Nat.reduceBEq, Nat.reduceAdd, Nat.reduceLT, Nat.reduceEqDiff, sxe, tysW36_6, wi (show w < 9223372036854775808 by omega), tdiv4, wi (show w / 4 < 9223372036854775808 by omega), tmod_n, ← hj, hne0, hjl]
            (repeat' (first | rfl | exact trivial | exact fun h => h | exact fun h => (by rw [h]; rfl) | apply And.intro | omega | exact Nat.le_of_ble_eq_true rfl))) ?_
        refine Tr.regD [0, 1, 2, 3, 4, 5, 6, 7, 8, 9, 10, 11, 12, 13, 14, 15, 16] [16] [] [1, 2, 4, 5, 11, 12, 13] mix (by kernel_rfl) (by
            simp only [↓sxd, sxu, ↓zC, zK, ↓exq, ↓zB, St.keep, ↓xB, ↓zD, ↓zV, ↓zA, Nat.reduceBEq, Nat.reduceAdd, Nat.reduceLT, Nat.reduceLeDiff, Nat.reduceEqDiff, tysW36_6, wi (show y < 9223372036854775808 by omega), tmod3, l5, hjE, ee_get hjl]
            (repeat' (first | rfl | exact trivial | exact fun h => h | exact fun h => (by rw [h]; rfl) | apply And.intro | omega | exact Nat.le_of_ble_eq_true rfl))) ?_
        refine Tr.regD [0, 1, 2, 3, 4, 5, 6, 7, 8, 9, 10, 11, 12, 13, 14, 15, 16, 17] [17] [] [1, 2, 4, 5, 11, 12] mix (by kernel_rfl) (by
            simp only [↓sxd, sxu, ↓zC, zK, ↓exq, ↓zB, St.keep, ↓xB, ↓zD, ↓zV, ↓zA, Nat.reduceBEq, Nat.reduceAdd, Nat.reduceLT, Nat.reduceEqDiff, tysW36_6, wi (show y < 9223372036854775808 by omega), tdiv4, wi (show y / 4 < 9223372036854775808 by omega), tmod3, l6, set_at hjE, hjE, List.length_set, List.set_set]
            (repeat' (first | rfl | exact trivial | exact fun h => h | exact fun h => (by rw [h]; rfl) | apply And.intro | omega | exact Nat.le_of_ble_eq_true rfl))) ?_
        refine Tr.reg [2, 4, 5, 11, 12, 14] (by
            simp only [↓sxd, sxu, ↓zE, ↓exq, St.keep, ↓xB, Nat.reduceBEq, Nat.reduceLT, tysW36_6, wi (show a < 9223372036854775808 by omega), tmod_n, ← hi, hne0]
            (repeat' (first | rfl | exact trivial | exact fun h => h | exact fun h => (by rw [h]; rfl) | apply And.intro | omega | exact Nat.le_of_ble_eq_true rfl))) ?_
        refine Tr.reg [4, 5, 12, 15] (by
            simp only [↓sxd, sxu, ↓zE, ↓exq, St.keep, ↓xB, ↓zM, ↓zO, Nat.reduceBEq, Nat.reduceAdd, Nat.reduceLT, Nat.reduceLeDiff, Nat.reduceEqDiff, tysW36_6, wi (show b < 9223372036854775808 by omega), wn1, hne1, tmod_n, ← ht, wi1, wi2, ← hq, hne0]
            (repeat' (first | rfl | exact trivial | exact fun h => h | exact fun h => (by rw [h]; rfl) | apply And.intro | omega | exact Nat.le_of_ble_eq_true rfl))) ?_
        refine Tr.seq ?_
        refine Tr.reg [5, 12, 15, 134] (by
            simp only [↓sxd, sxu, ↓zE, ↓exq, St.keep, Nat.reduceBEq, Nat.reduceLT]
            (repeat' (first | rfl | exact trivial | exact fun h => h | exact fun h => (by rw [h]; rfl) | apply And.intro | omega | exact Nat.le_of_ble_eq_true rfl))) ?_
        refine Tr.cond rfl (fun h134 => ?_) (fun h134 => ?_)
        · have hX := hnar.more hf hs5 ha5 hil hql hiq (S := c.same ++ [⟨i, q⟩]) (A := c.apart) (.inl ⟨rfl, rfl⟩)
          obtain ⟨x, hxd⟩ : ∃ x : Census, x = ⟨E, c.same ++ [⟨i, q⟩], c.apart, O, N⟩ := ⟨_, rfl⟩
          rw [← hxd] at hX
          obtain ⟨hsy, hfx⟩ := hX
          have hlaw := more_law hf hfx hsy
          have hP := PersonsF_c c hf
          have hQ := PersonsF_c x hfx
          obtain ⟨r1, o1, e1, he1⟩ : ∃ r o e, c.personsS = (r, o, e) := ⟨_, _, _, rfl⟩
          obtain ⟨r2, o2, e2, he2⟩ : ∃ r o e, x.personsS = (r, o, e) := ⟨_, _, _, rfl⟩
          rw [he1] at hP hlaw
          rw [he2] at hQ hlaw
          have hp1 : (c.same.length + 1 ≤ 1073741824) = True := eq_true (by omega)
          refine Tr.reg1 [5, 12] (by
              simp only [↓sxd, sxu, ↓zE, ↓exq, ↓zB, St.keep, ↓zD, ↓zG, ↓zQ, ↓zA, Nat.reduceBEq, Nat.reduceAdd, Nat.reduceLT, Nat.reduceLeDiff, Nat.reduceEqDiff, tysW36_6, pp_len, hp1]
              (repeat' (first | rfl | exact trivial | exact fun h => h | exact fun h => (by rw [h]; rfl) | apply And.intro | omega | exact Nat.le_of_ble_eq_true rfl))) ?_
          refine Tr.imp (st' := ⟨[(5, .ptr 0 0 0), (12, .ptr 1 0 0)], [(1, .arr 7 [cs x (SP x.same) (SP x.apart)]), (0, .arr 7 [cs c (SP c.same) (SP c.apart)])], 7, 209, [], 0⟩) (by
          subst hxd hE hO hN
          exact Imp.go (fun i => i) [(1, _), (0, _)] rfl rfl (.cons _ (.cons _ (.cons _ (.cons _ (.refl _))))) (fun _ _ => rfl) (fun _ h => h) (by repeat' (first | exact TmT.cons rfl (TnS.d _) ?_ | exact trivial | exact F2.nil | refine F2.append ?_ ?_ | refine F2.map fun _ _ => ?_ | refine F2.cons ?_ ?_ | refine TmT.cons rfl ?_ ?_ | exact TnS.d _ | exact TnS.dx _ | exact TnS.dp _ | exact TnS.slc rfl | exact TnS.ptr rfl | refine TnS.frzf rfl (by simp) (by simp) (by simp) ?_ | refine TnS.frz0 rfl (by simp) (by simp) (by simp) ?_ | refine TnS.frzm rfl (by simp) ?_ | exact TnS.mapr rfl | exact TnS.yld rfl | refine ⟨rfl, ?_⟩ | refine TnO.arr ?_ | refine TnO.map ?_ | exact TnO.raw _ | exact TnO.iter _ _ | refine TnS.agg ?_ | refine TnS.tup ?_ | exact TnS.pure (Pure.clo (by assumption) (by assumption)) | refine TnS.clo ?_ ?_ | exact TnS.unk _ | exact TnS.pure (Pure.clo (by assumption) (by assumption)))) (.cons ⟨rfl, TnO.arr (.cons (.cons (efz (id := 2) rfl (by first | rfl | exact narE_ee.symm) (by simp) (by first | rfl | exact narE_len)) (.cons (pfz (id := 6) rfl (by simp [pp, dP]) (by simp) (by simp)) (.cons (pfz (id := 4) rfl rfl (by simp) rfl) (.cons (TnS.d _) (.cons (TnS.d _) (.cons (TnS.d _) (.cons (TnS.d _) .nil))))))) .nil)⟩ (.cons ⟨rfl, TnO.arr (by repeat' (first | exact TmT.cons rfl (TnS.d _) ?_ | exact trivial | exact F2.nil | refine F2.append ?_ ?_ | refine F2.map fun _ _ => ?_ | refine F2.cons ?_ ?_ | refine TmT.cons rfl ?_ ?_ | exact TnS.d _ | exact TnS.dx _ | exact TnS.dp _ | exact TnS.slc rfl | exact TnS.ptr rfl | refine TnS.frzf rfl (by simp) (by simp) (by simp) ?_ | refine TnS.frz0 rfl (by simp) (by simp) (by simp) ?_ | refine TnS.frzm rfl (by simp) ?_ | exact TnS.mapr rfl | exact TnS.yld rfl | refine ⟨rfl, ?_⟩ | refine TnO.arr ?_ | refine TnO.map ?_ | exact TnO.raw _ | exact TnO.iter _ _ | refine TnS.agg ?_ | refine TnS.tup ?_ | exact TnS.pure (Pure.clo (by assumption) (by assumption)) | refine TnS.clo ?_ ?_ | exact TnS.unk _ | exact TnS.pure (Pure.clo (by assumption) (by assumption))))⟩ .nil)) (fun _ => rfl)) ?_
          refine Tr.reg [12, 16, 17, 18] (by
              simp only [↓sxd, sxu, ↓zE, ↓exq, St.keep, ↓zD, Nat.reduceBEq, Nat.reduceAdd, Nat.reduceLT, tysW36_6]
              (repeat ((with_reducible refine And.intro ?_ ?_); (focus (first | with_reducible rfl | trivial | exact fun h => h | exact fun h => (by rw [h]; rfl) | omega | assumption))))
              refine CallO.use (lCensus_c c hsm) ?_
              try simp only [↓sxd, sxu, ↓zE, Nat.reduceLT]
              (repeat ((with_reducible refine And.intro ?_ ?_); (focus (first | with_reducible rfl | trivial | exact fun h => h | exact fun h => (by rw [h]; rfl) | omega | assumption))))
              refine CallO.use (hP) ?_
              try simp only [↓sxd, sxu, ↓zE, ↓exq, ↓zN, ↓zM, Nat.reduceBEq, Nat.reduceAdd, Nat.reduceLT, Nat.reduceEqDiff, tysW36_6]
              (repeat' (first | rfl | exact trivial | exact fun h => h | exact fun h => (by rw [h]; rfl) | apply And.intro | omega | exact Nat.le_of_ble_eq_true rfl))) ?_
          refine Tr.reg [16, 17, 18, 19, 20, 21] (by
              simp only [↓sxd, sxu, ↓zE, ↓exq, St.keep, ↓zD, Nat.reduceBEq, Nat.reduceAdd, Nat.reduceLT, tysW36_6]
              (repeat ((with_reducible refine And.intro ?_ ?_); (focus (first | with_reducible rfl | trivial | exact fun h => h | exact fun h => (by rw [h]; rfl) | omega | assumption))))
              refine CallO.use (lCensus_c x (fine_small hfx)) ?_
              try simp only [↓sxd, sxu, ↓zE, Nat.reduceLT]
              (repeat ((with_reducible refine And.intro ?_ ?_); (focus (first | with_reducible rfl | trivial | exact fun h => h | exact fun h => (by rw [h]; rfl) | omega | assumption))))
              refine CallO.use (hQ) ?_
              try simp only [↓sxd, sxu, ↓zE, ↓exq, ↓zN, ↓zM, Nat.reduceBEq, Nat.reduceAdd, Nat.reduceLT, Nat.reduceEqDiff, tysW36_6]
              (repeat' (first | rfl | exact trivial | exact fun h => h | exact fun h => (by rw [h]; rfl) | apply And.intro | omega | exact Nat.le_of_ble_eq_true rfl))) ?_
          refine Tr.seq ?_
          refine Tr.reg [16, 17, 18, 19, 20, 21, 162] (by
              simp only [↓sxd, sxu, ↓zE, ↓exq, St.keep, Nat.reduceBEq, Nat.reduceLT]
              (repeat' (first | rfl | exact trivial | exact fun h => h | exact fun h => (by rw [h]; rfl) | apply And.intro | omega | exact Nat.le_of_ble_eq_true rfl))) ?_
          refine Tr.cond rfl (fun h162 => ?_) (fun h162 => ?_)
          · refine Tr.reg [10] (by
                simp only [↓sxd, sxu, ↓zE, ↓exq, St.keep, Nat.reduceBEq, Nat.reduceLT]
                iterate 5
                  (repeat ((with_reducible refine And.intro ?_ ?_); (focus (first | with_reducible rfl | trivial | exact fun h => h | exact fun h => (by rw [h]; rfl) | omega | assumption))))
                  refine GdO.mk _ (fun hg => by simp only [↓sxd, sxu, ↓exq, Nat.reduceBEq, hg]; (repeat' (first | rfl | exact trivial | exact fun h => h | exact fun h => (by rw [h]; rfl) | apply And.intro | omega | exact Nat.le_of_ble_eq_true rfl))) ?_
                  simp only [↓sxd, sxu, ↓zE, Nat.reduceBEq, Nat.reduceLT]
                (repeat ((with_reducible refine And.intro ?_ ?_); (focus (first | with_reducible rfl | trivial | exact fun h => h | exact fun h => (by rw [h]; rfl) | omega | assumption))))
                first | refine GdO.or (fun hg => by simp only [sxu, Nat.reduceBEq, pickArgs, hg]; (repeat' (first | rfl | exact trivial | exact fun h => h | exact fun h => (by rw [h]; rfl) | apply And.intro | omega | exact Nat.le_of_ble_eq_true rfl))) ?_ | refine GdO.mk _ (fun hg => by simp only [↓sxd, sxu, ↓zE, ↓zC, zK, ↓exP, ↓exq, ↓zB, St.keep, ↓zH, ↓xB, ↓zL, ↓zJ, ↓zD, ↓zN, ↓zV, ↓zM, ↓zI, ↓zO, ↓zG, ↓zQ, ↓zA, Nat.reduceBEq, Nat.reduceAdd, Nat.reduceLT, Nat.reduceMul, Nat.reduceSub, Nat.reduceLeDiff, Nat.reduceEqDiff, Int.reduceLE, Int.reduceLT, Int.reduceToNat, reduceIte, implies_true, sxe, tysW36_6, hg, if_true]; (repeat' (first | rfl | exact trivial | exact fun h => h | exact fun h => (by rw [h]; rfl) | apply And.intro | omega | exact Nat.le_of_ble_eq_true rfl))) ?_
                simp only [↓sxd, sxu, ↓zE, ↓exq, ↓zH, Nat.reduceBEq, Nat.reduceLT]
                (repeat ((with_reducible refine And.intro ?_ ?_); (focus (first | with_reducible rfl | trivial | exact fun h => h | exact fun h => (by rw [h]; rfl) | omega | assumption))))
                refine GdO.mk _ (fun hg => by simp only [sxu, ↓exq, ↓zB, hg]; (repeat ((with_reducible refine And.intro ?_ ?_); (focus (first | with_reducible rfl | trivial | exact fun h => h | exact fun h => (by rw [h]; rfl) | omega | assumption)))); exact CallP.use (awake_c) ⟨rfl, rfl, rfl⟩) ?_
                simp only [↓sxd, sxu, ↓zE, ↓exq, ↓zH, Nat.reduceBEq, Nat.reduceLT]
                (repeat' (first | rfl | exact trivial | exact fun h => h | exact fun h => (by rw [h]; rfl) | apply And.intro | omega | exact Nat.le_of_ble_eq_true rfl))) ?_
            refine Tr.ret ?_
            exact ⟨.inr rfl, congrArg (fun n => some (B n)) (by
            have h162' : ¬ e2 = 0 := by simpa using h162
            rcases hlaw with ⟨_, h2, h3⟩ | ⟨h1, _⟩
            · have h2 : e2 = 9 := h2
              have h3 : e1 = 0 ∨ e1 = 9 := h3
              subst h2
              rcases h3 with rfl | rfl <;> rfl
            · exact absurd h1 h162')⟩
          · refine Tr.skip ?_
            refine Tr.reg [10] (by
                simp only [↓sxd, sxu, ↓zE, ↓exq, St.keep, Nat.reduceBEq, Nat.reduceLT]
                iterate 20
                  (repeat ((with_reducible refine And.intro ?_ ?_); (focus (first | with_reducible rfl | trivial | exact fun h => h | exact fun h => (by rw [h]; rfl) | omega | assumption))))
                  refine GdO.mk _ (fun hg => by simp only [↓sxd, sxu, ↓exq, ↓zD, ↓zA, Nat.reduceBEq, Nat.reduceAdd, Nat.reduceLT, Nat.reduceEqDiff, tysW36_6, hg]; (repeat' (first | rfl | exact trivial | exact fun h => h | exact fun h => (by rw [h]; rfl) | apply And.intro | omega | exact Nat.le_of_ble_eq_true rfl))) ?_
                  simp only [↓sxd, sxu, ↓zE, ↓exq, ↓zH, Nat.reduceBEq, Nat.reduceLT]
                (repeat ((with_reducible refine And.intro ?_ ?_); (focus (first | with_reducible rfl | trivial | exact fun h => h | exact fun h => (by rw [h]; rfl) | omega | assumption))))
                refine GdO.mk _ (fun hg => by simp only [sxu, ↓exq, ↓zB, hg]; (repeat ((with_reducible refine And.intro ?_ ?_); (focus (first | with_reducible rfl | trivial | exact fun h => h | exact fun h => (by rw [h]; rfl) | omega | assumption)))); exact CallP.use (awake_c) ⟨rfl, rfl, rfl⟩) ?_
                simp only [↓sxd, sxu, ↓zE, ↓exq, ↓zH, Nat.reduceBEq, Nat.reduceLT]
                (repeat' (first | rfl | exact trivial | exact fun h => h | exact fun h => (by rw [h]; rfl) | apply And.intro | omega | exact Nat.le_of_ble_eq_true rfl))) ?_
            refine Tr.ret ?_
            exact ⟨.inr rfl, congrArg (fun n => some (B n)) (by
            have h162' : e2 = 0 := by simpa using h162
            rcases hlaw with ⟨h1, _⟩ | ⟨_, h2, h3, h4, h5, h6⟩
            · exact absurd h162' h1
            · have h2 : e1 = 0 := h2
              have h3 : r1.lo ≤ r2.lo := h3
              have h4 : r2.hi ≤ r1.hi := h4
              have h5 : o1.lo ≤ o2.lo := h5
              have h6 : o2.hi ≤ o1.hi := h6
              subst h2
              simp [h3, h4, h5, h6])⟩
        · have hX := hnar.more hf hs5 ha5 hil hql hiq (S := c.same) (A := c.apart ++ [⟨i, q⟩]) (.inr ⟨rfl, rfl⟩)
          obtain ⟨x, hxd⟩ : ∃ x : Census, x = ⟨E, c.same, c.apart ++ [⟨i, q⟩], O, N⟩ := ⟨_, rfl⟩
          rw [← hxd] at hX
          obtain ⟨hsy, hfx⟩ := hX
          have hlaw := more_law hf hfx hsy
          have hP := PersonsF_c c hf
          have hQ := PersonsF_c x hfx
          obtain ⟨r1, o1, e1, he1⟩ : ∃ r o e, c.personsS = (r, o, e) := ⟨_, _, _, rfl⟩
          obtain ⟨r2, o2, e2, he2⟩ : ∃ r o e, x.personsS = (r, o, e) := ⟨_, _, _, rfl⟩
          rw [he1] at hP hlaw
          rw [he2] at hQ hlaw
          have hp1 : (c.apart.length + 1 ≤ 1073741824) = True := eq_true (by omega)
          refine Tr.reg1 [5, 12] (by
              simp only [↓sxd, sxu, ↓zE, ↓exq, ↓zB, St.keep, ↓zD, ↓zG, ↓zQ, ↓zA, Nat.reduceBEq, Nat.reduceAdd, Nat.reduceLT, Nat.reduceLeDiff, Nat.reduceEqDiff, tysW36_6, pp_len, hp1]
              (repeat' (first | rfl | exact trivial | exact fun h => h | exact fun h => (by rw [h]; rfl) | apply And.intro | omega | exact Nat.le_of_ble_eq_true rfl))) ?_
          refine Tr.imp (st' := ⟨[(5, .ptr 0 0 0), (12, .ptr 1 0 0)], [(1, .arr 7 [cs x (SP x.same) (SP x.apart)]), (0, .arr 7 [cs c (SP c.same) (SP c.apart)])], 7, 209, [], 0⟩) (by
          subst hxd hE hO hN
          exact Imp.go (fun i => i) [(1, _), (0, _)] rfl rfl (.cons _ (.cons _ (.cons _ (.cons _ (.refl _))))) (fun _ _ => rfl) (fun _ h => h) (by repeat' (first | exact TmT.cons rfl (TnS.d _) ?_ | exact trivial | exact F2.nil | refine F2.append ?_ ?_ | refine F2.map fun _ _ => ?_ | refine F2.cons ?_ ?_ | refine TmT.cons rfl ?_ ?_ | exact TnS.d _ | exact TnS.dx _ | exact TnS.dp _ | exact TnS.slc rfl | exact TnS.ptr rfl | refine TnS.frzf rfl (by simp) (by simp) (by simp) ?_ | refine TnS.frz0 rfl (by simp) (by simp) (by simp) ?_ | refine TnS.frzm rfl (by simp) ?_ | exact TnS.mapr rfl | exact TnS.yld rfl | refine ⟨rfl, ?_⟩ | refine TnO.arr ?_ | refine TnO.map ?_ | exact TnO.raw _ | exact TnO.iter _ _ | refine TnS.agg ?_ | refine TnS.tup ?_ | exact TnS.pure (Pure.clo (by assumption) (by assumption)) | refine TnS.clo ?_ ?_ | exact TnS.unk _ | exact TnS.pure (Pure.clo (by assumption) (by assumption)))) (.cons ⟨rfl, TnO.arr (.cons (.cons (efz (id := 2) rfl (by first | rfl | exact narE_ee.symm) (by simp) (by first | rfl | exact narE_len)) (.cons (pfz (id := 3) rfl rfl (by simp) rfl) (.cons (pfz (id := 6) rfl (by simp [pp, dP]) (by simp) (by simp)) (.cons (TnS.d _) (.cons (TnS.d _) (.cons (TnS.d _) (.cons (TnS.d _) .nil))))))) .nil)⟩ (.cons ⟨rfl, TnO.arr (by repeat' (first | exact TmT.cons rfl (TnS.d _) ?_ | exact trivial | exact F2.nil | refine F2.append ?_ ?_ | refine F2.map fun _ _ => ?_ | refine F2.cons ?_ ?_ | refine TmT.cons rfl ?_ ?_ | exact TnS.d _ | exact TnS.dx _ | exact TnS.dp _ | exact TnS.slc rfl | exact TnS.ptr rfl | refine TnS.frzf rfl (by simp) (by simp) (by simp) ?_ | refine TnS.frz0 rfl (by simp) (by simp) (by simp) ?_ | refine TnS.frzm rfl (by simp) ?_ | exact TnS.mapr rfl | exact TnS.yld rfl | refine ⟨rfl, ?_⟩ | refine TnO.arr ?_ | refine TnO.map ?_ | exact TnO.raw _ | exact TnO.iter _ _ | refine TnS.agg ?_ | refine TnS.tup ?_ | exact TnS.pure (Pure.clo (by assumption) (by assumption)) | refine TnS.clo ?_ ?_ | exact TnS.unk _ | exact TnS.pure (Pure.clo (by assumption) (by assumption))))⟩ .nil)) (fun _ => rfl)) ?_
          refine Tr.reg [12, 16, 17, 18] (by
              simp only [↓sxd, sxu, ↓zE, ↓exq, St.keep, ↓zD, Nat.reduceBEq, Nat.reduceAdd, Nat.reduceLT, tysW36_6]
              (repeat ((with_reducible refine And.intro ?_ ?_); (focus (first | with_reducible rfl | trivial | exact fun h => h | exact fun h => (by rw [h]; rfl) | omega | assumption))))
              refine CallO.use (lCensus_c c hsm) ?_
              try simp only [↓sxd, sxu, ↓zE, Nat.reduceLT]
              (repeat ((with_reducible refine And.intro ?_ ?_); (focus (first | with_reducible rfl | trivial | exact fun h => h | exact fun h => (by rw [h]; rfl) | omega | assumption))))
              refine CallO.use (hP) ?_
              try simp only [↓sxd, sxu, ↓zE, ↓exq, ↓zN, ↓zM, Nat.reduceBEq, Nat.reduceAdd, Nat.reduceLT, Nat.reduceEqDiff, tysW36_6]
              (repeat' (first | rfl | exact trivial | exact fun h => h | exact fun h => (by rw [h]; rfl) | apply And.intro | omega | exact Nat.le_of_ble_eq_true rfl))) ?_
          refine Tr.reg [16, 17, 18, 19, 20, 21] (by
              simp only [↓sxd, sxu, ↓zE, ↓exq, St.keep, ↓zD, Nat.reduceBEq, Nat.reduceAdd, Nat.reduceLT, tysW36_6]
              (repeat ((with_reducible refine And.intro ?_ ?_); (focus (first | with_reducible rfl | trivial | exact fun h => h | exact fun h => (by rw [h]; rfl) | omega | assumption))))
              refine CallO.use (lCensus_c x (fine_small hfx)) ?_
              try simp only [↓sxd, sxu, ↓zE, Nat.reduceLT]
              (repeat ((with_reducible refine And.intro ?_ ?_); (focus (first | with_reducible rfl | trivial | exact fun h => h | exact fun h => (by rw [h]; rfl) | omega | assumption))))
              refine CallO.use (hQ) ?_
              try simp only [↓sxd, sxu, ↓zE, ↓exq, ↓zN, ↓zM, Nat.reduceBEq, Nat.reduceAdd, Nat.reduceLT, Nat.reduceEqDiff, tysW36_6]
              (repeat' (first | rfl | exact trivial | exact fun h => h | exact fun h => (by rw [h]; rfl) | apply And.intro | omega | exact Nat.le_of_ble_eq_true rfl))) ?_
          refine Tr.seq ?_
          refine Tr.reg [16, 17, 18, 19, 20, 21, 162] (by
              simp only [↓sxd, sxu, ↓zE, ↓exq, St.keep, Nat.reduceBEq, Nat.reduceLT]
              (repeat' (first | rfl | exact trivial | exact fun h => h | exact fun h => (by rw [h]; rfl) | apply And.intro | omega | exact Nat.le_of_ble_eq_true rfl))) ?_
          refine Tr.cond rfl (fun h162 => ?_) (fun h162 => ?_)
          · refine Tr.reg [10] (by
                simp only [↓sxd, sxu, ↓zE, ↓exq, St.keep, Nat.reduceBEq, Nat.reduceLT]
                iterate 5
                  (repeat ((with_reducible refine And.intro ?_ ?_); (focus (first | with_reducible rfl | trivial | exact fun h => h | exact fun h => (by rw [h]; rfl) | omega | assumption))))
                  refine GdO.mk _ (fun hg => by simp only [↓sxd, sxu, ↓exq, Nat.reduceBEq, hg]; (repeat' (first | rfl | exact trivial | exact fun h => h | exact fun h => (by rw [h]; rfl) | apply And.intro | omega | exact Nat.le_of_ble_eq_true rfl))) ?_
                  simp only [↓sxd, sxu, ↓zE, Nat.reduceBEq, Nat.reduceLT]
                (repeat ((with_reducible refine And.intro ?_ ?_); (focus (first | with_reducible rfl | trivial | exact fun h => h | exact fun h => (by rw [h]; rfl) | omega | assumption))))
                first | refine GdO.or (fun hg => by simp only [sxu, Nat.reduceBEq, pickArgs, hg]; (repeat' (first | rfl | exact trivial | exact fun h => h | exact fun h => (by rw [h]; rfl) | apply And.intro | omega | exact Nat.le_of_ble_eq_true rfl))) ?_ | refine GdO.mk _ (fun hg => by simp only [↓sxd, sxu, ↓zE, ↓zC, zK, ↓exP, ↓exq, ↓zB, St.keep, ↓zH, ↓xB, ↓zL, ↓zJ, ↓zD, ↓zN, ↓zV, ↓zM, ↓zI, ↓zO, ↓zG, ↓zQ, ↓zA, Nat.reduceBEq, Nat.reduceAdd, Nat.reduceLT, Nat.reduceMul, Nat.reduceSub, Nat.reduceLeDiff, Nat.reduceEqDiff, Int.reduceLE, Int.reduceLT, Int.reduceToNat, reduceIte, implies_true, sxe, tysW36_6, hg, if_true]; (repeat' (first | rfl | exact trivial | exact fun h => h | exact fun h => (by rw [h]; rfl) | apply And.intro | omega | exact Nat.le_of_ble_eq_true rfl))) ?_
                simp only [↓sxd, sxu, ↓zE, ↓exq, ↓zH, Nat.reduceBEq, Nat.reduceLT]
                (repeat ((with_reducible refine And.intro ?_ ?_); (focus (first | with_reducible rfl | trivial | exact fun h => h | exact fun h => (by rw [h]; rfl) | omega | assumption))))
                refine GdO.mk _ (fun hg => by simp only [sxu, ↓exq, ↓zB, hg]; (repeat ((with_reducible refine And.intro ?_ ?_); (focus (first | with_reducible rfl | trivial | exact fun h => h | exact fun h => (by rw [h]; rfl) | omega | assumption)))); exact CallP.use (awake_c) ⟨rfl, rfl, rfl⟩) ?_
                simp only [↓sxd, sxu, ↓zE, ↓exq, ↓zH, Nat.reduceBEq, Nat.reduceLT]
                (repeat' (first | rfl | exact trivial | exact fun h => h | exact fun h => (by rw [h]; rfl) | apply And.intro | omega | exact Nat.le_of_ble_eq_true rfl))) ?_
            refine Tr.ret ?_
            exact ⟨.inr rfl, congrArg (fun n => some (B n)) (by
            have h162' : ¬ e2 = 0 := by simpa using h162
            rcases hlaw with ⟨_, h2, h3⟩ | ⟨h1, _⟩
            · have h2 : e2 = 9 := h2
              have h3 : e1 = 0 ∨ e1 = 9 := h3
              subst h2
              rcases h3 with rfl | rfl <;> rfl
            · exact absurd h1 h162')⟩
          · refine Tr.skip ?_
            refine Tr.reg [10] (by
                simp only [↓sxd, sxu, ↓zE, ↓exq, St.keep, Nat.reduceBEq, Nat.reduceLT]
                iterate 20
                  (repeat ((with_reducible refine And.intro ?_ ?_); (focus (first | with_reducible rfl | trivial | exact fun h => h | exact fun h => (by rw [h]; rfl) | omega | assumption))))
                  refine GdO.mk _ (fun hg => by simp only [↓sxd, sxu, ↓exq, ↓zD, ↓zA, Nat.reduceBEq, Nat.reduceAdd, Nat.reduceLT, Nat.reduceEqDiff, tysW36_6, hg]; (repeat' (first | rfl | exact trivial | exact fun h => h | exact fun h => (by rw [h]; rfl) | apply And.intro | omega | exact Nat.le_of_ble_eq_true rfl))) ?_
                  simp only [↓sxd, sxu, ↓zE, ↓exq, ↓zH, Nat.reduceBEq, Nat.reduceLT]
                (repeat ((with_reducible refine And.intro ?_ ?_); (focus (first | with_reducible rfl | trivial | exact fun h => h | exact fun h => (by rw [h]; rfl) | omega | assumption))))
                refine GdO.mk _ (fun hg => by simp only [sxu, ↓exq, ↓zB, hg]; (repeat ((with_reducible refine And.intro ?_ ?_); (focus (first | with_reducible rfl | trivial | exact fun h => h | exact fun h => (by rw [h]; rfl) | omega | assumption)))); exact CallP.use (awake_c) ⟨rfl, rfl, rfl⟩) ?_
                simp only [↓sxd, sxu, ↓zE, ↓exq, ↓zH, Nat.reduceBEq, Nat.reduceLT]
                (repeat' (first | rfl | exact trivial | exact fun h => h | exact fun h => (by rw [h]; rfl) | apply And.intro | omega | exact Nat.le_of_ble_eq_true rfl))) ?_
            refine Tr.ret ?_
            exact ⟨.inr rfl, congrArg (fun n => some (B n)) (by
            have h162' : e2 = 0 := by simpa using h162
            rcases hlaw with ⟨h1, _⟩ | ⟨_, h2, h3, h4, h5, h6⟩
            · exact absurd h162' h1
            · have h2 : e1 = 0 := h2
              have h3 : r1.lo ≤ r2.lo := h3
              have h4 : r2.hi ≤ r1.hi := h4
              have h5 : o1.lo ≤ o2.lo := h5
              have h6 : o2.hi ≤ o1.hi := h6
              subst h2
              simp [h3, h4, h5, h6])⟩
      · obtain ⟨E, hE⟩ : ∃ E, E = c.entries := ⟨_, rfl⟩
        obtain ⟨O, hO⟩ : ∃ O, O = c.omitted := ⟨_, rfl⟩
        obtain ⟨N, hN⟩ : ∃ N, N = c.number.nar y := ⟨_, rfl⟩
        have hnar : Nar c E O N := by rw [hE, hO, hN]; exact Nar.num hf y
        refine Tr.skip ?_
        refine Tr.regD [0, 1, 2, 3, 4, 5, 6, 7, 8, 9, 10, 11, 12, 13, 14, 15, 16] [16] [] [1, 2, 4, 5, 11, 12, 13] mix (by kernel_rfl) (by
            simp only [↓sxd, sxu, ↓zC, zK, ↓exq, ↓zB, St.keep, ↓xB, ↓zD, ↓zV, ↓zA, Nat.reduceBEq, Nat.reduceAdd, Nat.reduceLT, Nat.reduceLeDiff, Nat.reduceEqDiff, tysW36_6, wi (show y < 9223372036854775808 by omega), tmod3, l3]
            (repeat' (first | rfl | exact trivial | exact fun h => h | exact fun h => (by rw [h]; rfl) | apply And.intro | omega | exact Nat.le_of_ble_eq_true rfl))) ?_
        refine Tr.regD [0, 1, 2, 3, 4, 5, 6, 7, 8, 9, 10, 11, 12, 13, 14, 15, 16, 17] [17] [] [1, 2, 4, 5, 11, 12] mix (by kernel_rfl) (by
            simp only [↓sxd, sxu, ↓zC, zK, ↓exq, ↓zB, St.keep, ↓xB, ↓zD, ↓zV, ↓zA, Nat.reduceBEq, Nat.reduceAdd, Nat.reduceLT, Nat.reduceEqDiff, tysW36_6, wi (show y < 9223372036854775808 by omega), tdiv4, wi (show y / 4 < 9223372036854775808 by omega), tmod3, l4]
            (repeat' (first | rfl | exact trivial | exact fun h => h | exact fun h => (by rw [h]; rfl) | apply And.intro | omega | exact Nat.le_of_ble_eq_true rfl))) ?_
        refine Tr.reg [2, 4, 5, 11, 12, 14] (by
            simp only [↓sxd, sxu, ↓zE, ↓exq, St.keep, ↓xB, Nat.reduceBEq, Nat.reduceLT, tysW36_6, wi (show a < 9223372036854775808 by omega), tmod_n, ← hi, hne0]
            (repeat' (first | rfl | exact trivial | exact fun h => h | exact fun h => (by rw [h]; rfl) | apply And.intro | omega | exact Nat.le_of_ble_eq_true rfl))) ?_
        refine Tr.reg [4, 5, 12, 15] (by
            simp only [↓sxd, sxu, ↓zE, ↓exq, St.keep, ↓xB, ↓zM, ↓zO, Nat.reduceBEq, Nat.reduceAdd, Nat.reduceLT, Nat.reduceLeDiff, Nat.reduceEqDiff, tysW36_6, wi (show b < 9223372036854775808 by omega), wn1, hne1, tmod_n, ← ht, wi1, wi2, ← hq, hne0]
            (repeat' (first | rfl | exact trivial | exact fun h => h | exact fun h => (by rw [h]; rfl) | apply And.intro | omega | exact Nat.le_of_ble_eq_true rfl))) ?_
        refine Tr.seq ?_
        refine Tr.reg [5, 12, 15, 134] (by
            simp only [↓sxd, sxu, ↓zE, ↓exq, St.keep, Nat.reduceBEq, Nat.reduceLT]
            (repeat' (first | rfl | exact trivial | exact fun h => h | exact fun h => (by rw [h]; rfl) | apply And.intro | omega | exact Nat.le_of_ble_eq_true rfl))) ?_
        refine Tr.cond rfl (fun h134 => ?_) (fun h134 => ?_)
        · have hX := hnar.more hf hs5 ha5 hil hql hiq (S := c.same ++ [⟨i, q⟩]) (A := c.apart) (.inl ⟨rfl, rfl⟩)
          obtain ⟨x, hxd⟩ : ∃ x : Census, x = ⟨E, c.same ++ [⟨i, q⟩], c.apart, O, N⟩ := ⟨_, rfl⟩
          rw [← hxd] at hX
          obtain ⟨hsy, hfx⟩ := hX
          have hlaw := more_law hf hfx hsy
          have hP := PersonsF_c c hf
          have hQ := PersonsF_c x hfx
          obtain ⟨r1, o1, e1, he1⟩ : ∃ r o e, c.personsS = (r, o, e) := ⟨_, _, _, rfl⟩
          obtain ⟨r2, o2, e2, he2⟩ : ∃ r o e, x.personsS = (r, o, e) := ⟨_, _, _, rfl⟩
          rw [he1] at hP hlaw
          rw [he2] at hQ hlaw
          have hp1 : (c.same.length + 1 ≤ 1073741824) = True := eq_true (by omega)
          refine Tr.reg1 [5, 12] (by
              simp only [↓sxd, sxu, ↓zE, ↓exq, ↓zB, St.keep, ↓zD, ↓zG, ↓zQ, ↓zA, Nat.reduceBEq, Nat.reduceAdd, Nat.reduceLT, Nat.reduceLeDiff, Nat.reduceEqDiff, tysW36_6, pp_len, hp1]
              (repeat' (first | rfl | exact trivial | exact fun h => h | exact fun h => (by rw [h]; rfl) | apply And.intro | omega | exact Nat.le_of_ble_eq_true rfl))) ?_
          refine Tr.imp (st' := ⟨[(5, .ptr 0 0 0), (12, .ptr 1 0 0)], [(1, .arr 7 [cs x (SP x.same) (SP x.apart)]), (0, .arr 7 [cs c (SP c.same) (SP c.apart)])], 7, 209, [], 0⟩) (by
          subst hxd hE hO hN
          exact Imp.go (fun i => i) [(1, _), (0, _)] rfl rfl (.cons _ (.cons _ (.cons _ (.cons _ (.refl _))))) (fun _ _ => rfl) (fun _ h => h) (by repeat' (first | exact TmT.cons rfl (TnS.d _) ?_ | exact trivial | exact F2.nil | refine F2.append ?_ ?_ | refine F2.map fun _ _ => ?_ | refine F2.cons ?_ ?_ | refine TmT.cons rfl ?_ ?_ | exact TnS.d _ | exact TnS.dx _ | exact TnS.dp _ | exact TnS.slc rfl | exact TnS.ptr rfl | refine TnS.frzf rfl (by simp) (by simp) (by simp) ?_ | refine TnS.frz0 rfl (by simp) (by simp) (by simp) ?_ | refine TnS.frzm rfl (by simp) ?_ | exact TnS.mapr rfl | exact TnS.yld rfl | refine ⟨rfl, ?_⟩ | refine TnO.arr ?_ | refine TnO.map ?_ | exact TnO.raw _ | exact TnO.iter _ _ | refine TnS.agg ?_ | refine TnS.tup ?_ | exact TnS.pure (Pure.clo (by assumption) (by assumption)) | refine TnS.clo ?_ ?_ | exact TnS.unk _ | exact TnS.pure (Pure.clo (by assumption) (by assumption)))) (.cons ⟨rfl, TnO.arr (.cons (.cons (efz (id := 2) rfl (by first | rfl | exact narE_ee.symm) (by simp) (by first | rfl | exact narE_len)) (.cons (pfz (id := 6) rfl (by simp [pp, dP]) (by simp) (by simp)) (.cons (pfz (id := 4) rfl rfl (by simp) rfl) (.cons (TnS.d _) (.cons (TnS.d _) (.cons (TnS.d _) (.cons (TnS.d _) .nil))))))) .nil)⟩ (.cons ⟨rfl, TnO.arr (by repeat' (first | exact TmT.cons rfl (TnS.d _) ?_ | exact trivial | exact F2.nil | refine F2.append ?_ ?_ | refine F2.map fun _ _ => ?_ | refine F2.cons ?_ ?_ | refine TmT.cons rfl ?_ ?_ | exact TnS.d _ | exact TnS.dx _ | exact TnS.dp _ | exact TnS.slc rfl | exact TnS.ptr rfl | refine TnS.frzf rfl (by simp) (by simp) (by simp) ?_ | refine TnS.frz0 rfl (by simp) (by simp) (by simp) ?_ | refine TnS.frzm rfl (by simp) ?_ | exact TnS.mapr rfl | exact TnS.yld rfl | refine ⟨rfl, ?_⟩ | refine TnO.arr ?_ | refine TnO.map ?_ | exact TnO.raw _ | exact TnO.iter _ _ | refine TnS.agg ?_ | refine TnS.tup ?_ | exact TnS.pure (Pure.clo (by assumption) (by assumption)) | refine TnS.clo ?_ ?_ | exact TnS.unk _ | exact TnS.pure (Pure.clo (by assumption) (by assumption))))⟩ .nil)) (fun _ => rfl)) ?_
          refine Tr.reg [12, 16, 17, 18] (by
              simp only [↓sxd, sxu, ↓zE, ↓exq, St.keep, ↓zD, Nat.reduceBEq, Nat.reduceAdd, Nat.reduceLT, tysW36_6]
              (repeat ((with_reducible refine And.intro ?_ ?_); (focus (first | with_reducible rfl | trivial | exact fun h => h | exact fun h => (by rw [h]; rfl) | omega | assumption))))
              refine CallO.use (lCensus_c c hsm) ?_
              try simp only [↓sxd, sxu, ↓zE, Nat.reduceLT]
              (repeat ((with_reducible refine And.intro ?_ ?_); (focus (first | with_reducible rfl | trivial | exact fun h => h | exact fun h => (by rw [h]; rfl) | omega | assumption))))
              refine CallO.use (hP) ?_
              try simp only [↓sxd, sxu, ↓zE, ↓exq, ↓zN, ↓zM, Nat.reduceBEq, Nat.reduceAdd, Nat.reduceLT, Nat.reduceEqDiff, tysW36_6]
              (repeat' (first | rfl | exact trivial | exact fun h => h | exact fun h => (by rw [h]; rfl) | apply And.intro | omega | exact Nat.le_of_ble_eq_true rfl))) ?_
          refine Tr.reg [16, 17, 18, 19, 20, 21] (by
              simp only [↓sxd, sxu, ↓zE, ↓exq, St.keep, ↓zD, Nat.reduceBEq, Nat.reduceAdd, Nat.reduceLT, tysW36_6]
              (repeat ((with_reducible refine And.intro ?_ ?_); (focus (first | with_reducible rfl | trivial | exact fun h => h | exact fun h => (by rw [h]; rfl) | omega | assumption))))
              refine CallO.use (lCensus_c x (fine_small hfx)) ?_
              try simp only [↓sxd, sxu, ↓zE, Nat.reduceLT]
              (repeat ((with_reducible refine And.intro ?_ ?_); (focus (first | with_reducible rfl | trivial | exact fun h => h | exact fun h => (by rw [h]; rfl) | omega | assumption))))
              refine CallO.use (hQ) ?_
              try simp only [↓sxd, sxu, ↓zE, ↓exq, ↓zN, ↓zM, Nat.reduceBEq, Nat.reduceAdd, Nat.reduceLT, Nat.reduceEqDiff, tysW36_6]
              (repeat' (first | rfl | exact trivial | exact fun h => h | exact fun h => (by rw [h]; rfl) | apply And.intro | omega | exact Nat.le_of_ble_eq_true rfl))) ?_
          refine Tr.seq ?_
          refine Tr.reg [16, 17, 18, 19, 20, 21, 162] (by
              simp only [↓sxd, sxu, ↓zE, ↓exq, St.keep, Nat.reduceBEq, Nat.reduceLT]
              (repeat' (first | rfl | exact trivial | exact fun h => h | exact fun h => (by rw [h]; rfl) | apply And.intro | omega | exact Nat.le_of_ble_eq_true rfl))) ?_
          refine Tr.cond rfl (fun h162 => ?_) (fun h162 => ?_)
          · refine Tr.reg [10] (by
                simp only [↓sxd, sxu, ↓zE, ↓exq, St.keep, Nat.reduceBEq, Nat.reduceLT]
                iterate 5
                  (repeat ((with_reducible refine And.intro ?_ ?_); (focus (first | with_reducible rfl | trivial | exact fun h => h | exact fun h => (by rw [h]; rfl) | omega | assumption))))
                  refine GdO.mk _ (fun hg => by simp only [↓sxd, sxu, ↓exq, Nat.reduceBEq, hg]; (repeat' (first | rfl | exact trivial | exact fun h => h | exact fun h => (by rw [h]; rfl) | apply And.intro | omega | exact Nat.le_of_ble_eq_true rfl))) ?_
                  simp only [↓sxd, sxu, ↓zE, Nat.reduceBEq, Nat.reduceLT]
                (repeat ((with_reducible refine And.intro ?_ ?_); (focus (first | with_reducible rfl | trivial | exact fun h => h | exact fun h => (by rw [h]; rfl) | omega | assumption))))
                first | refine GdO.or (fun hg => by simp only [sxu, Nat.reduceBEq, pickArgs, hg]; (repeat' (first | rfl | exact trivial | exact fun h => h | exact fun h => (by rw [h]; rfl) | apply And.intro | omega | exact Nat.le_of_ble_eq_true rfl))) ?_ | refine GdO.mk _ (fun hg => by simp only [↓sxd, sxu, ↓zE, ↓zC, zK, ↓exP, ↓exq, ↓zB, St.keep, ↓zH, ↓xB, ↓zL, ↓zJ, ↓zD, ↓zN, ↓zV, ↓zM, ↓zI, ↓zO, ↓zG, ↓zQ, ↓zA, Nat.reduceBEq, Nat.reduceAdd, Nat.reduceLT, Nat.reduceMul, Nat.reduceSub, Nat.reduceLeDiff, Nat.reduceEqDiff, Int.reduceLE, Int.reduceLT, Int.reduceToNat, reduceIte, implies_true, sxe, tysW36_6, hg, if_true]; (repeat' (first | rfl | exact trivial | exact fun h => h | exact fun h => (by rw [h]; rfl) | apply And.intro | omega | exact Nat.le_of_ble_eq_true rfl))) ?_
                simp only [↓sxd, sxu, ↓zE, ↓exq, ↓zH, Nat.reduceBEq, Nat.reduceLT]
                (repeat ((with_reducible refine And.intro ?_ ?_); (focus (first | with_reducible rfl | trivial | exact fun h => h | exact fun h => (by rw [h]; rfl) | omega | assumption))))
                refine GdO.mk _ (fun hg => by simp only [sxu, ↓exq, ↓zB, hg]; (repeat ((with_reducible refine And.intro ?_ ?_); (focus (first | with_reducible rfl | trivial | exact fun h => h | exact fun h => (by rw [h]; rfl) | omega | assumption)))); exact CallP.use (awake_c) ⟨rfl, rfl, rfl⟩) ?_
                simp only [↓sxd, sxu, ↓zE, ↓exq, ↓zH, Nat.reduceBEq, Nat.reduceLT]
                (repeat' (first | rfl | exact trivial | exact fun h => h | exact fun h => (by rw [h]; rfl) | apply And.intro | omega | exact Nat.le_of_ble_eq_true rfl))) ?_
            refine Tr.ret ?_
            exact ⟨.inr rfl, congrArg (fun n => some (B n)) (by
            have h162' : ¬ e2 = 0 := by simpa using h162
            rcases hlaw with ⟨_, h2, h3⟩ | ⟨h1, _⟩
            · have h2 : e2 = 9 := h2
              have h3 : e1 = 0 ∨ e1 = 9 := h3
              subst h2
              rcases h3 with rfl | rfl <;> rfl
            · exact absurd h1 h162')⟩
          · refine Tr.skip ?_
            refine Tr.reg [10] (by
                simp only [↓sxd, sxu, ↓zE, ↓exq, St.keep, Nat.reduceBEq, Nat.reduceLT]
                iterate 20
                  (repeat ((with_reducible refine And.intro ?_ ?_); (focus (first | with_reducible rfl | trivial | exact fun h => h | exact fun h => (by rw [h]; rfl) | omega | assumption))))
                  refine GdO.mk _ (fun hg => by simp only [↓sxd, sxu, ↓exq, ↓zD, ↓zA, Nat.reduceBEq, Nat.reduceAdd, Nat.reduceLT, Nat.reduceEqDiff, tysW36_6, hg]; (repeat' (first | rfl | exact trivial | exact fun h => h | exact fun h => (by rw [h]; rfl) | apply And.intro | omega | exact Nat.le_of_ble_eq_true rfl))) ?_
                  simp only [↓sxd, sxu, ↓zE, ↓exq, ↓zH, Nat.reduceBEq, Nat.reduceLT]
                (repeat ((with_reducible refine And.intro ?_ ?_); (focus (first | with_reducible rfl | trivial | exact fun h => h | exact fun h => (by rw [h]; rfl) | omega | assumption))))
                refine GdO.mk _ (fun hg => by simp only [sxu, ↓exq, ↓zB, hg]; (repeat ((with_reducible refine And.intro ?_ ?_); (focus (first | with_reducible rfl | trivial | exact fun h => h | exact fun h => (by rw [h]; rfl) | omega | assumption)))); exact CallP.use (awake_c) ⟨rfl, rfl, rfl⟩) ?_
                simp only [↓sxd, sxu, ↓zE, ↓exq, ↓zH, Nat.reduceBEq, Nat.reduceLT]
                (repeat' (first | rfl | exact trivial | exact fun h => h | exact fun h => (by rw [h]; rfl) | apply And.intro | omega | exact Nat.le_of_ble_eq_true rfl))) ?_
            refine Tr.ret ?_
            exact ⟨.inr rfl, congrArg (fun n => some (B n)) (by
            have h162' : e2 = 0 := by simpa using h162
            rcases hlaw with ⟨h1, _⟩ | ⟨_, h2, h3, h4, h5, h6⟩
            · exact absurd h162' h1
            · have h2 : e1 = 0 := h2
              have h3 : r1.lo ≤ r2.lo := h3
              have h4 : r2.hi ≤ r1.hi := h4
              have h5 : o1.lo ≤ o2.lo := h5
              have h6 : o2.hi ≤ o1.hi := h6
              subst h2
              simp [h3, h4, h5, h6])⟩
        · have hX := hnar.more hf hs5 ha5 hil hql hiq (S := c.same) (A := c.apart ++ [⟨i, q⟩]) (.inr ⟨rfl, rfl⟩)
          obtain ⟨x, hxd⟩ : ∃ x : Census, x = ⟨E, c.same, c.apart ++ [⟨i, q⟩], O, N⟩ := ⟨_, rfl⟩
          rw [← hxd] at hX
          obtain ⟨hsy, hfx⟩ := hX
          have hlaw := more_law hf hfx hsy
          have hP := PersonsF_c c hf
          have hQ := PersonsF_c x hfx
          obtain ⟨r1, o1, e1, he1⟩ : ∃ r o e, c.personsS = (r, o, e) := ⟨_, _, _, rfl⟩
          obtain ⟨r2, o2, e2, he2⟩ : ∃ r o e, x.personsS = (r, o, e) := ⟨_, _, _, rfl⟩
          rw [he1] at hP hlaw
          rw [he2] at hQ hlaw
          have hp1 : (c.apart.length + 1 ≤ 1073741824) = True := eq_true (by omega)
          refine Tr.reg1 [5, 12] (by
              simp only [↓sxd, sxu, ↓zE, ↓exq, ↓zB, St.keep, ↓zD, ↓zG, ↓zQ, ↓zA, Nat.reduceBEq, Nat.reduceAdd, Nat.reduceLT, Nat.reduceLeDiff, Nat.reduceEqDiff, tysW36_6, pp_len, hp1]
              (repeat' (first | rfl | exact trivial | exact fun h => h | exact fun h => (by rw [h]; rfl) | apply And.intro | omega | exact Nat.le_of_ble_eq_true rfl))) ?_
          refine Tr.imp (st' := ⟨[(5, .ptr 0 0 0), (12, .ptr 1 0 0)], [(1, .arr 7 [cs x (SP x.same) (SP x.apart)]), (0, .arr 7 [cs c (SP c.same) (SP c.apart)])], 7, 209, [], 0⟩) (by
          subst hxd hE hO hN
          exact Imp.go (fun i => i) [(1, _), (0, _)] rfl rfl (.cons _ (.cons _ (.cons _ (.cons _ (.refl _))))) (fun _ _ => rfl) (fun _ h => h) (by repeat' (first | exact TmT.cons rfl (TnS.d _) ?_ | exact trivial | exact F2.nil | refine F2.append ?_ ?_ | refine F2.map fun _ _ => ?_ | refine F2.cons ?_ ?_ | refine TmT.cons rfl ?_ ?_ | exact TnS.d _ | exact TnS.dx _ | exact TnS.dp _ | exact TnS.slc rfl | exact TnS.ptr rfl | refine TnS.frzf rfl (by simp) (by simp) (by simp) ?_ | refine TnS.frz0 rfl (by simp) (by simp) (by simp) ?_ | refine TnS.frzm rfl (by simp) ?_ | exact TnS.mapr rfl | exact TnS.yld rfl | refine ⟨rfl, ?_⟩ | refine TnO.arr ?_ | refine TnO.map ?_ | exact TnO.raw _ | exact TnO.iter _ _ | refine TnS.agg ?_ | refine TnS.tup ?_ | exact TnS.pure (Pure.clo (by assumption) (by assumption)) | refine TnS.clo ?_ ?_ | exact TnS.unk _ | exact TnS.pure (Pure.clo (by assumption) (by assumption)))) (.cons ⟨rfl, TnO.arr (.cons (.cons (efz (id := 2) rfl (by first | rfl | exact narE_ee.symm) (by simp) (by first | rfl | exact narE_len)) (.cons (pfz (id := 3) rfl rfl (by simp) rfl) (.cons (pfz (id := 6) rfl (by simp [pp, dP]) (by simp) (by simp)) (.cons (TnS.d _) (.cons (TnS.d _) (.cons (TnS.d _) (.cons (TnS.d _) .nil))))))) .nil)⟩ (.cons ⟨rfl, TnO.arr (by repeat' (first | exact TmT.cons rfl (TnS.d _) ?_ | exact trivial | exact F2.nil | refine F2.append ?_ ?_ | refine F2.map fun _ _ => ?_ | refine F2.cons ?_ ?_ | refine TmT.cons rfl ?_ ?_ | exact TnS.d _ | exact TnS.dx _ | exact TnS.dp _ | exact TnS.slc rfl | exact TnS.ptr rfl | refine TnS.frzf rfl (by simp) (by simp) (by simp) ?_ | refine TnS.frz0 rfl (by simp) (by simp) (by simp) ?_ | refine TnS.frzm rfl (by simp) ?_ | exact TnS.mapr rfl | exact TnS.yld rfl | refine ⟨rfl, ?_⟩ | refine TnO.arr ?_ | refine TnO.map ?_ | exact TnO.raw _ | exact TnO.iter _ _ | refine TnS.agg ?_ | refine TnS.tup ?_ | exact TnS.pure (Pure.clo (by assumption) (by assumption)) | refine TnS.clo ?_ ?_ | exact TnS.unk _ | exact TnS.pure (Pure.clo (by assumption) (by assumption))))⟩ .nil)) (fun _ => rfl)) ?_
          refine Tr.reg [12, 16, 17, 18] (by
              simp only [↓sxd, sxu, ↓zE, ↓exq, St.keep, ↓zD, Nat.reduceBEq, Nat.reduceAdd, Nat.reduceLT, tysW36_6]
              (repeat ((with_reducible refine And.intro ?_ ?_); (focus (first | with_reducible rfl | trivial | exact fun h => h | exact fun h => (by rw [h]; rfl) | omega | assumption))))
              refine CallO.use (lCensus_c c hsm) ?_
              try simp only [↓sxd, sxu, ↓zE, Nat.reduceLT]
              (repeat ((with_reducible refine And.intro ?_ ?_); (focus (first | with_reducible rfl | trivial | exact fun h => h | exact fun h => (by rw [h]; rfl) | omega | assumption))))
              refine CallO.use (hP) ?_
              try simp only [↓sxd, sxu, ↓zE, ↓exq, ↓zN, ↓zM, Nat.reduceBEq, Nat.reduceAdd, Nat.reduceLT, Nat.reduceEqDiff, tysW36_6]
              (repeat' (first | rfl | exact trivial | exact fun h => h | exact fun h => (by rw [h]; rfl) | apply And.intro | omega | exact Nat.le_of_ble_eq_true rfl))) ?_
          refine Tr.reg [16, 17, 18, 19, 20, 21] (by
              simp only [↓sxd, sxu, ↓zE, ↓exq, St.keep, ↓zD, Nat.reduceBEq, Nat.reduceAdd, Nat.reduceLT, tysW36_6]
              (repeat ((with_reducible refine And.intro ?_ ?_); (focus (first | with_reducible rfl | trivial | exact fun h => h | exact fun h => (by rw [h]; rfl) | omega | assumption))))
              refine CallO.use (lCensus_c x (fine_small hfx)) ?_
              try simp only [↓sxd, sxu, ↓zE, Nat.reduceLT]
              (repeat ((with_reducible refine And.intro ?_ ?_); (focus (first | with_reducible rfl | trivial | exact fun h => h | exact fun h => (by rw [h]; rfl) | omega | assumption))))
              refine CallO.use (hQ) ?_
              try simp only [↓sxd, sxu, ↓zE, ↓exq, ↓zN, ↓zM, Nat.reduceBEq, Nat.reduceAdd, Nat.reduceLT, Nat.reduceEqDiff, tysW36_6]
              (repeat' (first | rfl | exact trivial | exact fun h => h | exact fun h => (by rw [h]; rfl) | apply And.intro | omega | exact Nat.le_of_ble_eq_true rfl))) ?_
          refine Tr.seq ?_
          refine Tr.reg [16, 17, 18, 19, 20, 21, 162] (by
              simp only [↓sxd, sxu, ↓zE, ↓exq, St.keep, Nat.reduceBEq, Nat.reduceLT]
              (repeat' (first | rfl | exact trivial | exact fun h => h | exact fun h => (by rw [h]; rfl) | apply And.intro | omega | exact Nat.le_of_ble_eq_true rfl))) ?_
          refine Tr.cond rfl (fun h162 => ?_) (fun h162 => ?_)
          · refine Tr.reg [10] (by
                simp only [↓sxd, sxu, ↓zE, ↓exq, St.keep, Nat.reduceBEq, Nat.reduceLT]
                iterate 5
                  (repeat ((with_reducible refine And.intro ?_ ?_); (focus (first | with_reducible rfl | trivial | exact fun h => h | exact fun h => (by rw [h]; rfl) | omega | assumption))))
                  refine GdO.mk _ (fun hg => by simp only [↓sxd, sxu, ↓exq, Nat.reduceBEq, hg]; (repeat' (first | rfl | exact trivial | exact fun h => h | exact fun h => (by rw [h]; rfl) | apply And.intro | omega | exact Nat.le_of_ble_eq_true rfl))) ?_
                  simp only [↓sxd, sxu, ↓zE, Nat.reduceBEq, Nat.reduceLT]
                (repeat ((with_reducible refine And.intro ?_ ?_); (focus (first | with_reducible rfl | trivial | exact fun h => h | exact fun h => (by rw [h]; rfl) | omega | assumption))))
                first | refine GdO.or (fun hg => by simp only [sxu, Nat.reduceBEq, pickArgs, hg]; (repeat' (first | rfl | exact trivial | exact fun h => h | exact fun h => (by rw [h]; rfl) | apply And.intro | omega | exact Nat.le_of_ble_eq_true rfl))) ?_ | refine GdO.mk _ (fun hg => by simp only [↓sxd, sxu, ↓zE, ↓zC, zK, ↓exP, ↓exq, ↓zB, St.keep, ↓zH, ↓xB, ↓zL, ↓zJ, ↓zD, ↓zN, ↓zV, ↓zM, ↓zI, ↓zO, ↓zG, ↓zQ, ↓zA, Nat.reduceBEq, Nat.reduceAdd, Nat.reduceLT, Nat.reduceMul, Nat.reduceSub, Nat.reduceLeDiff, Nat.reduceEqDiff, Int.reduceLE, Int.reduceLT, Int.reduceToNat, reduceIte, implies_true, sxe, tysW36_6, hg, if_true]; (repeat' (first | rfl | exact trivial | exact fun h => h | exact fun h => (by rw [h]; rfl) | apply And.intro | omega | exact Nat.le_of_ble_eq_true rfl))) ?_
                simp only [↓sxd, sxu, ↓zE, ↓exq, ↓zH, Nat.reduceBEq, Nat.reduceLT]
                (repeat ((with_reducible refine And.intro ?_ ?_); (focus (first | with_reducible rfl | trivial | exact fun h => h | exact fun h => (by rw [h]; rfl) | omega | assumption))))
                refine GdO.mk _ (fun hg => by simp only [sxu, ↓exq, ↓zB, hg]; (repeat ((with_reducible refine And.intro ?_ ?_); (focus (first | with_reducible rfl | trivial | exact fun h => h | exact fun h => (by rw [h]; rfl) | omega | assumption)))); exact CallP.use (awake_c) ⟨rfl, rfl, rfl⟩) ?_
                simp only [↓sxd, sxu, ↓zE, ↓exq, ↓zH, Nat.reduceBEq, Nat.reduceLT]
                (repeat' (first | rfl | exact trivial | exact fun h => h | exact fun h => (by rw [h]; rfl) | apply And.intro | omega | exact Nat.le_of_ble_eq_true rfl))) ?_
            refine Tr.ret ?_
            exact ⟨.inr rfl, congrArg (fun n => some (B n)) (by
            have h162' : ¬ e2 = 0 := by simpa using h162
            rcases hlaw with ⟨_, h2, h3⟩ | ⟨h1, _⟩
            · have h2 : e2 = 9 := h2
              have h3 : e1 = 0 ∨ e1 = 9 := h3
              subst h2
              rcases h3 with rfl | rfl <;> rfl
            · exact absurd h1 h162')⟩
          · refine Tr.skip ?_
            refine Tr.reg [10] (by
                simp only [↓sxd, sxu, ↓zE, ↓exq, St.keep, Nat.reduceBEq, Nat.reduceLT]
                iterate 20
                  (repeat ((with_reducible refine And.intro ?_ ?_); (focus (first | with_reducible rfl | trivial | exact fun h => h | exact fun h => (by rw [h]; rfl) | omega | assumption))))
                  refine GdO.mk _ (fun hg => by simp only [↓sxd, sxu, ↓exq, ↓zD, ↓zA, Nat.reduceBEq, Nat.reduceAdd, Nat.reduceLT, Nat.reduceEqDiff, tysW36_6, hg]; (repeat' (first | rfl | exact trivial | exact fun h => h | exact fun h => (by rw [h]; rfl) | apply And.intro | omega | exact Nat.le_of_ble_eq_true rfl))) ?_
                  simp only [↓sxd, sxu, ↓zE, ↓exq, ↓zH, Nat.reduceBEq, Nat.reduceLT]
                (repeat ((with_reducible refine And.intro ?_ ?_); (focus (first | with_reducible rfl | trivial | exact fun h => h | exact fun h => (by rw [h]; rfl) | omega | assumption))))
                refine GdO.mk _ (fun hg => by simp only [sxu, ↓exq, ↓zB, hg]; (repeat ((with_reducible refine And.intro ?_ ?_); (focus (first | with_reducible rfl | trivial | exact fun h => h | exact fun h => (by rw [h]; rfl) | omega | assumption)))); exact CallP.use (awake_c) ⟨rfl, rfl, rfl⟩) ?_
                simp only [↓sxd, sxu, ↓zE, ↓exq, ↓zH, Nat.reduceBEq, Nat.reduceLT]
                (repeat' (first | rfl | exact trivial | exact fun h => h | exact fun h => (by rw [h]; rfl) | apply And.intro | omega | exact Nat.le_of_ble_eq_true rfl))) ?_
            refine Tr.ret ?_
            exact ⟨.inr rfl, congrArg (fun n => some (B n)) (by
            have h162' : e2 = 0 := by simpa using h162
            rcases hlaw with ⟨h1, _⟩ | ⟨_, h2, h3, h4, h5, h6⟩
            · exact absurd h162' h1
            · have h2 : e1 = 0 := h2
              have h3 : r1.lo ≤ r2.lo := h3
              have h4 : r2.hi ≤ r1.hi := h4
              have h5 : o1.lo ≤ o2.lo := h5
              have h6 : o2.hi ≤ o1.hi := h6
              subst h2
              simp [h3, h4, h5, h6])⟩
end Go.Proofs.YtcnkbdfkjhlbiaaDoor
