/- Lemmas, part XUA. Conditions: none. -/
import Derived.Test.YtcnkbdfkjhlbiaaDoorXPBC
import Derived.Carry
set_option linter.unusedVariables false
namespace Go.Proofs.YtcnkbdfkjhlbiaaDoor
open Go.Sy
set_option maxRecDepth 8000
theorem ib (p q : Nat) : ((p : Int) == (q : Int)) = (p == q) := by
  rw [Bool.eq_iff_iff, beq_iff_eq, beq_iff_eq]; omega
end Go.Proofs.YtcnkbdfkjhlbiaaDoor
namespace Go.Proofs.YtcnkbdfkjhlbiaaDoor
set_option maxRecDepth 8000
structure Says (c x : Census) : Prop where
  len : x.entries.length = c.entries.length
  ent : ∀ i, i < c.entries.length → (x.entry i).sched = (c.entry i).sched ∧ (x.entry i).sex = (c.entry i).sex ∧ (x.entry i).key = (c.entry i).key ∧ (c.entry i).ages.lo ≤ (x.entry i).ages.lo ∧ (x.entry i).ages.hi ≤ (c.entry i).ages.hi
  same : ∀ p ∈ c.same, p ∈ x.same
  apart : ∀ p ∈ c.apart, p ∈ x.apart
  om : c.omitted.lo ≤ x.omitted.lo ∧ x.omitted.hi ≤ c.omitted.hi
  nu : c.number.lo ≤ x.number.lo ∧ x.number.hi ≤ c.number.hi
theorem fine_tried {c : Census} (h : Fine c) : c.tried true = if c.cons then 0 else 9 := by
  have hk := fine_iff.2 h
  unfold Census.tried Census.cons
  rw [if_neg (fun hc => hc hk)]
  simp only [Bool.not_true, Bool.false_eq_true, if_false, decide_eq_true_eq]
  by_cases hg : (readW c).persons.lo > (readW c).persons.hi
  · rw [if_pos hg, if_neg (by omega)]
  · rw [if_neg hg, if_pos (by omega)]
theorem personsS_yes {c : Census} (h : Fine c) (hc : c.cons = true) : c.personsS = (pers c, c.omitted.cut (c.number.lo - (pers c).hi) (c.number.hi - (pers c).lo), 0) := by
  have h0 : 0 ≤ (readW c).persons.lo ∧ (readW c).persons.hi ≤ c.entries.length := pers_lo h.pairs h.n10
  have h1 : (readW c).persons.lo ≤ (readW c).persons.hi := cons_lo hc
  have h10 := h.n10
  have ho := h.om
  have hn := h.nu
  unfold Census.personsS
  rw [if_pos (by rw [fine_tried h, hc]; rfl), wr_id (by omega) (by omega), wr_id (by omega) (by omega)]
theorem personsS_no {c : Census} (h : Fine c) (hc : c.cons = false) : c.personsS = (⟨0, 0⟩, ⟨0, 0⟩, 9) := by
  unfold Census.personsS
  rw [fine_tried h, hc, if_neg (by decide)]
  rfl
structure Moves (c x : Census) (s : Nat → Nat) : Prop where
  len : x.entries.length = c.entries.length
  to : ∀ i, i < c.entries.length → s i < c.entries.length
  inj : ∀ i k, i < c.entries.length → k < c.entries.length → s i = s k → i = k
  sur : ∀ j, j < c.entries.length → ∃ i, i < c.entries.length ∧ s i = j
  ent : ∀ i, i < c.entries.length → x.entry i = c.entry (s i)
  same : ∀ p ∈ x.same, ∃ q ∈ c.same, s p.fst.toNat = q.fst.toNat ∧ s p.snd.toNat = q.snd.toNat
  apart : ∀ p ∈ x.apart, ∃ q ∈ c.apart, s p.fst.toNat = q.fst.toNat ∧ s p.snd.toNat = q.snd.toNat
theorem Moves.sem {c x : Census} {s : Nat → Nat} (h : Moves c x s) {m : Nat} (hs : Sem c m) : Sem x m := by
  obtain ⟨f, ha, d, h1, h2, h3⟩ := hs
  refine ⟨fun i => f (s i), ⟨fun i k hi hk hik hf => ?_, fun p hp => ?_, fun p hp => ?_⟩, d, h1, h2, fun y => ?_⟩
  · rw [h.len] at hi hk
    rw [h.ent i hi, h.ent k hk]
    exact ha.fits _ _ (h.to i hi) (h.to k hk) (fun he => hik (h.inj i k hi hk he)) hf
  · obtain ⟨q, h4, h5, h6⟩ := h.same p hp
    show f (s _) = f (s _)
    rw [h5, h6]; exact ha.same q h4
  · obtain ⟨q, h4, h5, h6⟩ := h.apart p hp
    show f (s _) ≠ f (s _)
    rw [h5, h6]; exact ha.apart q h4
  · rw [h3 y, h.len]
    constructor
    · rintro ⟨j, hj, rfl⟩
      obtain ⟨i, hi, rfl⟩ := h.sur j hj
      exact ⟨i, hi, rfl⟩
    · rintro ⟨i, hi, rfl⟩
      exact ⟨s i, h.to i hi, rfl⟩
theorem order_law {c x : Census} {s t : Nat → Nat} (hc : Fine c) (hx : Fine x) (h : Moves c x s) (h' : Moves x c t) (ho : x.omitted = c.omitted) (hn : x.number = c.number) :
    x.personsS = c.personsS ∧ (c.personsS.2.2 = 0 ∨ c.personsS.2.2 = 9) := by
  have hsm : ∀ m, Sums x m ↔ Sums c m := fun m => by unfold Sums; rw [ho, hn]
  have hse : ∀ m, Sem x m ↔ Sem c m := fun m => ⟨h'.sem, h.sem⟩
  have hcn : x.cons = c.cons := by
    rw [Bool.eq_iff_iff, cons_iff hx.pairs hx.n10 hx.lims, cons_iff hc.pairs hc.n10 hc.lims]
    exact ⟨fun ⟨m, a, b⟩ => ⟨m, (hse m).1 a, (hsm m).1 b⟩, fun ⟨m, a, b⟩ => ⟨m, (hse m).2 a, (hsm m).2 b⟩⟩
  cases hq : c.cons with
  | false => rw [personsS_no hc hq, personsS_no hx (by rw [hcn]; exact hq)]; exact ⟨rfl, .inr rfl⟩
  | true =>
    have hqx : x.cons = true := by rw [hcn]; exact hq
    have key : ∀ m : Nat, ((pers x).lo ≤ m ∧ (m : Int) ≤ (pers x).hi) ↔ ((pers c).lo ≤ m ∧ (m : Int) ≤ (pers c).hi) := fun m => by
      rw [← pers_iff hx.pairs hx.n10 hx.lims, ← pers_iff hc.pairs hc.n10 hc.lims, hse m, hsm m]
    have h1 := cons_lo hq
    have h2 := cons_lo hqx
    have h3 := pers_lo hx.pairs hx.n10
    have h4 := pers_lo hc.pairs hc.n10
    have k1 := (key (pers x).lo.toNat).1 (by omega)
    have k2 := (key (pers x).hi.toNat).1 (by omega)
    have k3 := (key (pers c).lo.toNat).2 (by omega)
    have k4 := (key (pers c).hi.toNat).2 (by omega)
    have e : pers x = pers c := by
      have e1 : (pers x).lo = (pers c).lo := by omega
      have e2 : (pers x).hi = (pers c).hi := by omega
      generalize pers x = a at e1 e2
      generalize pers c = b at e1 e2
      obtain ⟨a1, a2⟩ := a
      obtain ⟨b1, b2⟩ := b
      simp only at e1 e2
      rw [e1, e2]
    rw [personsS_yes hc hq, personsS_yes hx hqx, e, ho, hn]
    exact ⟨rfl, .inl rfl⟩
end Go.Proofs.YtcnkbdfkjhlbiaaDoor
namespace Go.Proofs.YtcnkbdfkjhlbiaaDoor
set_option maxRecDepth 8000
def rotI (n k i : Nat) : Nat := if i + k < n then i + k else i + k - n
theorem rotI_lt {n k i : Nat} (hk : k ≤ n) (hi : i < n) : rotI n k i < n := by unfold rotI; split <;> omega
theorem rotI_inv {n k i : Nat} (hk : k ≤ n) (hi : i < n) : rotI n (n - k) (rotI n k i) = i := by unfold rotI; split <;> split <;> omega
theorem rotI_inv2 {n k i : Nat} (hk : k ≤ n) (hi : i < n) : rotI n k (rotI n (n - k) i) = i := by unfold rotI; split <;> split <;> omega
theorem rotI_inj {n k i j : Nat} (hk : k ≤ n) (hi : i < n) (hj : j < n) (h : rotI n k i = rotI n k j) : i = j := by
  rw [← rotI_inv hk hi, h, rotI_inv hk hj]
def Pair.mov (b n : Int) (p : Pair) : Pair := ⟨(wr64 (p.fst + b)).tmod n, (wr64 (p.snd + b)).tmod n⟩
def Census.rot (c : Census) (k : Nat) : Census :=
  { c with entries := c.entries.drop k ++ c.entries.take k, same := c.same.map (Pair.mov ((c.entries.length - k : Nat) : Int) (c.entries.length : Int)), apart := c.apart.map (Pair.mov ((c.entries.length - k : Nat) : Int) (c.entries.length : Int)) }
theorem mov_at {n b a : Nat} (hb : b ≤ n) (ha : a < n) (hn : n ≤ 1000) : (wr64 ((a : Int) + (b : Int))).tmod (n : Int) = (rotI n b a : Nat) := by
  rw [wr_id (by omega) (by omega), show (a : Int) + (b : Int) = ((a + b : Nat) : Int) by omega, Int.tmod_eq_emod_of_nonneg (Int.natCast_nonneg _), ← Int.natCast_emod]
  congr 1
  unfold rotI
  split
  · exact Nat.mod_eq_of_lt (by assumption)
  · rw [Nat.mod_eq_sub_mod (by omega), Nat.mod_eq_of_lt (by omega)]
theorem mov_pair {c : Census} {b : Nat} {p : Pair} (hb : b ≤ c.entries.length) (hn : c.entries.length ≤ 1000) (hp : c.pair p = true) :
    Pair.mov (b : Nat) (c.entries.length : Int) p = ⟨(rotI c.entries.length b p.fst.toNat : Nat), (rotI c.entries.length b p.snd.toNat : Nat)⟩ := by
  rw [pair_iff] at hp
  unfold Pair.mov
  have e1 : p.fst = ((p.fst.toNat : Nat) : Int) := by omega
  have e2 : p.snd = ((p.snd.toNat : Nat) : Int) := by omega
  have h1 := mov_at (n := c.entries.length) hb (a := p.fst.toNat) (by omega) hn
  have h2 := mov_at (n := c.entries.length) hb (a := p.snd.toNat) (by omega) hn
  rw [← e1] at h1
  rw [← e2] at h2
  rw [h1, h2]
theorem rot_len (c : Census) (k : Nat) : (c.rot k).entries.length = c.entries.length := by
  show (c.entries.drop k ++ c.entries.take k).length = _
  rw [List.length_append, List.length_drop, List.length_take]; omega
theorem rot_entry {c : Census} {k i : Nat} (hk : k ≤ c.entries.length) (hi : i < c.entries.length) : (c.rot k).entry i = c.entry (rotI c.entries.length k i) := by
  show (c.entries.drop k ++ c.entries.take k).getD i default = c.entries.getD (rotI c.entries.length k i) default
  unfold rotI
  split
  · rw [getD_app_l (by rw [List.length_drop]; omega)]
    simp only [List.getD_eq_getElem?_getD, List.getElem?_drop]
    rw [Nat.add_comm]
  · rw [getD_app_r (by rw [List.length_drop]; omega), List.length_drop]
    simp only [List.getD_eq_getElem?_getD]
    rw [List.getElem?_take_of_lt (by omega), show i - (c.entries.length - k) = i + k - c.entries.length by omega]
theorem rot_fine {c : Census} {k : Nat} (hc : Fine c) (hk : k ≤ c.entries.length) : Fine (c.rot k) := by
  have h10 := hc.n10
  have hl := rot_len c k
  have key : ∀ l : List Pair, (∀ p ∈ l, c.pair p = true) → ∀ p ∈ l.map (Pair.mov ((c.entries.length - k : Nat) : Int) (c.entries.length : Int)), (c.rot k).pair p = true := fun l hl2 p hp => by
    obtain ⟨q, hq, rfl⟩ := List.mem_map.1 hp
    have hv := hl2 q hq
    rw [mov_pair (by omega) (by omega) hv, pair_iff, hl]
    rw [pair_iff] at hv
    have g1 := rotI_lt (n := c.entries.length) (k := c.entries.length - k) (i := q.fst.toNat) (by omega) (by omega)
    have g2 := rotI_lt (n := c.entries.length) (k := c.entries.length - k) (i := q.snd.toNat) (by omega) (by omega)
    have g3 : rotI c.entries.length (c.entries.length - k) q.fst.toNat ≠ rotI c.entries.length (c.entries.length - k) q.snd.toNat := fun he => by
      have := rotI_inj (by omega) (by omega) (by omega) he
      omega
    show (0 : Int) ≤ (rotI c.entries.length (c.entries.length - k) q.fst.toNat : Nat) ∧ ((rotI c.entries.length (c.entries.length - k) q.fst.toNat : Nat) : Int) < c.entries.length ∧ (0 : Int) ≤ (rotI c.entries.length (c.entries.length - k) q.snd.toNat : Nat) ∧ ((rotI c.entries.length (c.entries.length - k) q.snd.toNat : Nat) : Int) < c.entries.length ∧ ((rotI c.entries.length (c.entries.length - k) q.fst.toNat : Nat) : Int) ≠ (rotI c.entries.length (c.entries.length - k) q.snd.toNat : Nat)
    omega
  refine ⟨by rw [hl]; exact hc.n10, by show (c.same.map _).length ≤ 6; rw [List.length_map]; exact hc.s6, by show (c.apart.map _).length ≤ 6; rw [List.length_map]; exact hc.a6, fun e he => ?_, key c.same hc.ps, key c.apart hc.pa, hc.om, hc.nu⟩
  rcases List.mem_append.1 he with he | he
  · exact hc.ents e (List.mem_of_mem_drop he)
  · exact hc.ents e (List.mem_of_mem_take he)
theorem rot_moves {c : Census} {k : Nat} (hc : Fine c) (hk : k ≤ c.entries.length) : Moves c (c.rot k) (rotI c.entries.length k) := by
  have h10 := hc.n10
  have key : ∀ l : List Pair, (∀ p ∈ l, c.pair p = true) → ∀ p ∈ l.map (Pair.mov ((c.entries.length - k : Nat) : Int) (c.entries.length : Int)), ∃ q ∈ l, rotI c.entries.length k p.fst.toNat = q.fst.toNat ∧ rotI c.entries.length k p.snd.toNat = q.snd.toNat := fun l hl2 p hp => by
    obtain ⟨q, hq, rfl⟩ := List.mem_map.1 hp
    have hv := hl2 q hq
    refine ⟨q, hq, ?_⟩
    rw [mov_pair (by omega) (by omega) hv]
    rw [pair_iff] at hv
    exact ⟨rotI_inv2 hk (by omega), rotI_inv2 hk (by omega)⟩
  exact ⟨rot_len c k, fun i hi => rotI_lt hk hi, fun i j hi hj h => rotI_inj hk hi hj h, fun j hj => ⟨rotI c.entries.length (c.entries.length - k) j, rotI_lt (by omega) hj, rotI_inv2 hk hj⟩, fun i hi => rot_entry hk hi, key c.same hc.ps, key c.apart hc.pa⟩
theorem rot_back {c : Census} {k : Nat} (hc : Fine c) (hk : k ≤ c.entries.length) : Moves (c.rot k) c (rotI c.entries.length (c.entries.length - k)) := by
  have h10 := hc.n10
  have hl := rot_len c k
  have key : ∀ l : List Pair, (∀ p ∈ l, c.pair p = true) → ∀ p ∈ l, ∃ q ∈ l.map (Pair.mov ((c.entries.length - k : Nat) : Int) (c.entries.length : Int)), rotI c.entries.length (c.entries.length - k) p.fst.toNat = q.fst.toNat ∧ rotI c.entries.length (c.entries.length - k) p.snd.toNat = q.snd.toNat := fun l hl2 p hp => by
    refine ⟨_, List.mem_map.2 ⟨p, hp, rfl⟩, ?_⟩
    rw [mov_pair (by omega) (by omega) (hl2 p hp)]
    exact ⟨rfl, rfl⟩
  refine ⟨hl.symm, fun i hi => ?_, fun i j hi hj h => ?_, fun j hj => ?_, fun i hi => ?_, key c.same hc.ps, key c.apart hc.pa⟩
  · rw [hl] at hi ⊢; exact rotI_lt (by omega) hi
  · rw [hl] at hi hj; exact rotI_inj (by omega) hi hj h
  · rw [hl] at hj ⊢; exact ⟨rotI c.entries.length k j, rotI_lt hk hj, rotI_inv hk hj⟩
  · rw [hl] at hi
    rw [rot_entry hk (rotI_lt (by omega) hi), rotI_inv2 hk hi]
theorem rot_law {c : Census} {k : Nat} (hc : Fine c) (hk : k ≤ c.entries.length) : (c.rot k).personsS = c.personsS ∧ (c.personsS.2.2 = 0 ∨ c.personsS.2.2 = 9) :=
  order_law hc (rot_fine hc hk) (rot_moves hc hk) (rot_back hc hk) rfl rfl
end Go.Proofs.YtcnkbdfkjhlbiaaDoor
namespace Go.Proofs.YtcnkbdfkjhlbiaaDoor
open Go.Sy
set_option maxRecDepth 8000
theorem wi {n : Nat} (h : n < 9223372036854775808) : IntKind.i64.wrap (n : Int) = n := wr (by omega) (by omega)
theorem fine_small {c : Census} (h : Fine c) : c.small := ⟨by have := h.n10; omega, by have := h.s6; omega, by have := h.a6; omega⟩
theorem PersonsF_c (c : Census) (h : Fine c) : CallP Tryd.prog G0 21 [c.s] (.tup [c.personsS.1.s, c.personsS.2.1.s, I c.personsS.2.2]) := Persons_c c (fine_small h) (fun hk => Census.readable hk)
end Go.Proofs.YtcnkbdfkjhlbiaaDoor
namespace Go.Proofs.YtcnkbdfkjhlbiaaDoor
open Go.Sy
set_option maxRecDepth 8000
theorem mov_take {l : List Pair} {b n : Int} {k : Nat} (h : k < l.length) : pp ((l.take (k + 1)).map (Pair.mov b n)) = pp ((l.take k).map (Pair.mov b n)) ++ [[I ((wr64 ((l.getD k default).fst + b)).tmod n), I ((wr64 ((l.getD k default).snd + b)).tmod n)]] := by
  have e : ∀ a b : List Pair, pp (a ++ b) = pp a ++ pp b := fun a b => by simp [pp, dP]
  rw [List.take_succ_eq_append_getElem h, List.map_append, e]
  congr 1
  simp [pp, dP, List.getD_eq_getElem?_getD, h, Pair.mov]
abbrev tysW35_43 := And.intro ty.sz0 <| And.intro ty.agg0 <| And.intro ty.elem0 <| And.intro ty.sz3 <| And.intro ty.agg3 <| And.intro ty.elem3 <| And.intro ty.zero3 <| And.intro ty.und3 <| And.intro ty.sz4 <| And.intro ty.agg4 <| And.intro ty.elem4 <| And.intro ty.zero4 <| And.intro ty.und4 <| And.intro ty.sz23 <| And.intro ty.agg23 <| And.intro ty.elem23 <| And.intro ty.by23 <| And.intro ty.ez23 <| And.intro ty.zero23 <| And.intro ty.und23 <| And.intro ty.sz73 <| And.intro ty.agg73 <| And.intro ty.fld73_0 <| And.intro ty.fld73_1 <| And.intro ty.elem73 <| And.intro ty.zero73 <| ty.pl73
theorem moved_c (l : List Pair) (b n : Int) (hn : n ≠ 0) (hl : l.length ≤ 1000) : CallP Tryd.prog G0 43 [SP l, I b, I n] (SP (l.map (Pair.mov b n))) := by
  refine CallP.body 38 [.tmp 6] Tryd.func43 (by kernel_rfl) rfl rfl rfl (by repeat' (first | exact Pure.d _ | exact Pure.dx _ | exact Pure.dp _ | exact fa_nil | refine fa_cons ?_ ?_ | refine Pure.agg ?_ | refine Pure.tup ?_ | refine Pure.clo ?_ ?_ | refine Pure.fp ?_ | exact Pure.mapd _ | assumption)) (by repeat' (first | exact Pure.d _ | exact Pure.dx _ | exact Pure.dp _ | exact fa_nil | refine fa_cons ?_ ?_ | refine Pure.agg ?_ | refine Pure.tup ?_ | refine Pure.clo ?_ ?_ | refine Pure.fp ?_ | exact Pure.mapd _ | assumption)) ?_
  refine Tr.reg [0, 1, 2] (by
      simp only [↓sxd, sxu, ↓zE, ↓exq, St.keep, Nat.reduceBEq, Nat.reduceAdd, Nat.reduceLT]
      (repeat' (first | rfl | exact trivial | exact fun h => h | exact fun h => (by rw [h]; rfl) | apply And.intro | omega | exact Nat.le_of_ble_eq_true rfl))) ?_
  refine Tr.reg [0, 1, 2, 7] (by
      simp only [↓sxd, sxu, ↓zE, ↓exq, St.keep, Nat.reduceBEq, Nat.reduceLT]
      (repeat' (first | rfl | exact trivial | exact fun h => h | exact fun h => (by rw [h]; rfl) | apply And.intro | omega | exact Nat.le_of_ble_eq_true rfl))) ?_
  refine Tr.seq ?_
  refine Tr.reg [0, 1, 2, 7, 8] (by
      simp only [↓sxd, sxu, ↓zE, ↓exq, St.keep, Nat.reduceBEq, Nat.reduceLT]
      (repeat' (first | rfl | exact trivial | exact fun h => h | exact fun h => (by rw [h]; rfl) | apply And.intro | omega | exact Nat.le_of_ble_eq_true rfl))) ?_
  refine Tr.imp (st' := ⟨[(0, SP l), (1, I b), (2, I n), (7, .slc 0 2 0 0 0), (8, I 0)], [(0, .arr 2 (pp ((l.take 0).map (Pair.mov b n))))], 1, 38, [], 0⟩) (Imp.goV 2 rfl rfl rfl rfl (by repeat' (first | exact trivial | exact F2.nil | refine F2.cons ?_ ?_ | refine TmV.cons rfl VnS.nil ?_ | refine TmV.cons rfl VnS.same ?_ | refine ⟨rfl, ?_⟩ | exact VnO.same _ | refine VnO.arr ?_ | exact VnS.nil | exact VnS.same | exact F2.refl fun _ _ => VnS.same)) (by repeat' (first | exact trivial | exact F2.nil | refine F2.cons ?_ ?_ | refine TmV.cons rfl VnS.nil ?_ | refine TmV.cons rfl VnS.same ?_ | refine ⟨rfl, ?_⟩ | exact VnO.same _ | refine VnO.arr ?_ | exact VnS.nil | exact VnS.same | exact F2.refl fun _ _ => VnS.same))) (Tr.block (Tr.loopI (fun mm ss => ∃ (k : Nat), (k ≤ l.length) ∧ l.length - k = mm ∧ ss = ⟨[(0, SP l), (1, I b), (2, I n), (7, .slc 0 2 0 k k), (8, I k)], [(0, .arr 2 (pp ((l.take k).map (Pair.mov b n))))], 1, 38, [], 0⟩) _ ⟨0, ?_, rfl, rfl⟩ ?_))
  · (repeat' (first | rfl | exact trivial | exact fun h => h | exact fun h => (by rw [h]; rfl) | apply And.intro | omega | exact Nat.le_of_ble_eq_true rfl))
  rintro mm ss ⟨k, hI, rfl, rfl⟩
  refine Tr.seq ?_
  refine Tr.reg [0, 1, 2, 7, 8, 12] (by
      simp only [↓sxd, sxu, ↓zE, ↓exq, ↓zB, St.keep, ↓zJ, Nat.reduceBEq, Nat.reduceLT, sxe, tysW35_43]
      (repeat' (first | rfl | exact trivial | exact fun h => h | exact fun h => (by rw [h]; rfl) | apply And.intro | omega | exact Nat.le_of_ble_eq_true rfl))) ?_
  refine Tr.cond rfl (fun h12 => ?_) (fun h12 => ?_)
  · have hlt : k < l.length := by simpa using h12
    have htl : (l.take k).length = k := by rw [List.length_take]; omega
    refine Tr.skip ?_
    refine Tr.seq ?_
    refine Tr.block ?_
    have hk2 : (k + 1 ≤ 1073741824) = True := by simp; omega
    refine Tr.regD1 [0, 1, 2, 3, 4, 5, 6, 7, 8, 9, 10, 11, 12, 13, 14, 15, 16, 17, 18, 19, 20, 21, 22] [21] [] [0, 1, 2, 7, 8] mix (by kernel_rfl) (by
        simp only [↓sxd, sxu, ↓zC, zK, ↓exq, ↓zB, St.keep, ↓zD, ↓zO, ↓zG, ↓zQ, ↓zA, Nat.reduceBEq, Nat.reduceAdd, Nat.reduceLT, Nat.reduceLeDiff, Nat.reduceEqDiff, sxe, tysW35_43, hlt, pp_len, htl, hn, hk2]
        (repeat' (first | rfl | exact trivial | exact fun h => h | exact fun h => (by rw [h]; rfl) | apply And.intro | omega | exact Nat.le_of_ble_eq_true rfl))) ?_
    have w1 : IntKind.i64.wrap ((k : Int) + 1) = ((k + 1 : Nat) : Int) := by rw [wr (by omega) (by omega)]; rfl
    refine Tr.reg1 [0, 1, 2, 7, 8] (by
        simp only [↓sxd, sxu, ↓zE, ↓exq, St.keep, Nat.reduceBEq, Nat.reduceLT, w1]
        (repeat' (first | rfl | exact trivial | exact fun h => h | exact fun h => (by rw [h]; rfl) | apply And.intro | omega | exact Nat.le_of_ble_eq_true rfl))) ?_
    refine ⟨_, _, ?_, ?_, ⟨k + 1, hlt, rfl, rfl⟩⟩
    · omega
    · rw [mov_take hlt]
      exact Imp.go (fun i => i + 1) _ rfl rfl (List.Sublist.refl _) (fun _ h => absurd h (Nat.not_lt_zero _)) (fun id h => Nat.succ_le_succ h) (by repeat' (first | exact TmT.cons rfl (TnS.d _) ?_ | exact trivial | exact F2.nil | refine F2.append ?_ ?_ | refine F2.map fun _ _ => ?_ | refine F2.cons ?_ ?_ | refine TmT.cons rfl ?_ ?_ | exact TnS.d _ | exact TnS.dx _ | exact TnS.dp _ | exact TnS.slc rfl | exact TnS.ptr rfl | refine TnS.frzf rfl (by simp) (by simp) (by simp) ?_ | refine TnS.frz0 rfl (by simp) (by simp) (by simp) ?_ | refine TnS.frzm rfl (by simp) ?_ | exact TnS.mapr rfl | exact TnS.yld rfl | refine ⟨rfl, ?_⟩ | refine TnO.arr ?_ | refine TnO.map ?_ | exact TnO.raw _ | exact TnO.iter _ _ | refine TnS.agg ?_ | refine TnS.tup ?_ | exact TnS.pure (Pure.clo (by assumption) (by assumption)) | refine TnS.clo ?_ ?_ | exact TnS.unk _ | exact TnS.pure (Pure.clo (by assumption) (by assumption)))) (.cons ⟨rfl, TnO.arr (F2.append (pp_tn _) (.cons (.cons (TnS.d _) (.cons (TnS.d _) .nil)) .nil))⟩ .nil) (fun h => h)
  · have hge : k = l.length := by simp at h12; omega
    subst hge
    rw [List.take_length]
    refine Tr.exit ?_
    refine Tr.reg [6] (by
        simp only [↓sxd, sxu, ↓zE, ↓exq, St.keep, Nat.reduceBEq, Nat.reduceLT]
        (repeat' (first | rfl | exact trivial | exact fun h => h | exact fun h => (by rw [h]; rfl) | apply And.intro | omega | exact Nat.le_of_ble_eq_true rfl))) ?_
    refine Tr.imp (Imp.fin (tm' := [(6, SP (l.map (Pair.mov b n)))]) ?_) ?_
    · exact .cons rfl (pfz (l := l.map (Pair.mov b n)) rfl rfl (by simp) (by simp)) trivial
    refine Tr.ret ?_
    (refine ⟨.inr rfl, ?_⟩; first | rfl | exact ⟨rfl, rfl, trivial⟩ | exact ⟨rfl, rfl, rfl, trivial⟩ | (simp only [Res, ResL, ResOK, ↓sxd, sxu, ↓zE, ↓zC, zK, ↓exP, ↓exq, ↓zB, St.keep, ↓zL, ↓zJ, ↓zD, ↓zO, ↓zG, ↓zQ, ↓zA, Nat.reduceBEq, Nat.reduceAdd, Nat.reduceLT, Nat.reduceMul, Nat.reduceSub, Nat.reduceLeDiff, Nat.reduceEqDiff, Int.reduceLE, Int.reduceLT, Int.reduceToNat, reduceIte, implies_true, sxe, tysW35_43]; (repeat' (first | rfl | exact trivial | exact fun h => h | exact fun h => (by rw [h]; rfl) | apply And.intro | omega | exact Nat.le_of_ble_eq_true rfl))))
theorem tmod_n (a n : Nat) : ((a : Nat) : Int).tmod (n : Int) = ((a % n : Nat) : Int) := by
  rw [Int.natCast_emod, Int.tmod_eq_emod_of_nonneg (Int.natCast_nonneg _)]
theorem src_ee (l : List Entry) : ((dE l).map fun e => e.map SV.d) = ee l := rfl
theorem ee_all (l : List Entry) : (∀ e ∈ ee l, e.length = 5 ∧ e.all SV.one = true) = True := by simp [ee, dE, SV.one]
abbrev tysW35_7 := And.intro ty.sz0 <| And.intro ty.agg0 <| And.intro ty.elem0 <| And.intro ty.sz3 <| And.intro ty.agg3 <| And.intro ty.elem3 <| And.intro ty.zero3 <| And.intro ty.und3 <| And.intro ty.sz4 <| And.intro ty.agg4 <| And.intro ty.elem4 <| And.intro ty.zero4 <| And.intro ty.und4 <| And.intro ty.sz5 <| And.intro ty.agg5 <| And.intro ty.elem5 <| And.intro ty.zero5 <| And.intro ty.und5 <| And.intro ty.sz22 <| And.intro ty.agg22 <| And.intro ty.elem22 <| And.intro ty.by22 <| And.intro ty.ez22 <| And.intro ty.zero22 <| And.intro ty.und22 <| And.intro ty.sz23 <| And.intro ty.agg23 <| And.intro ty.elem23 <| And.intro ty.by23 <| And.intro ty.ez23 <| And.intro ty.zero23 <| And.intro ty.und23 <| And.intro ty.sz27 <| And.intro ty.agg27 <| And.intro ty.fld27_0 <| And.intro ty.fld27_1 <| And.intro ty.fld27_2 <| And.intro ty.fld27_3 <| And.intro ty.fld27_4 <| And.intro ty.elem27 <| And.intro ty.zero27 <| And.intro ty.pl27 <| And.intro ty.sz30 <| And.intro ty.agg30 <| And.intro ty.fld30_0 <| And.intro ty.fld30_1 <| And.intro ty.elem30 <| And.intro ty.zero30 <| And.intro ty.pl30 <| And.intro ty.sz31 <| And.intro ty.agg31 <| And.intro ty.elem31 <| And.intro ty.zero31 <| And.intro ty.und31 <| And.intro ty.sz32 <| And.intro ty.agg32 <| And.intro ty.elem32 <| And.intro ty.sz37 <| And.intro ty.agg37 <| And.intro ty.fld37_0 <| And.intro ty.fld37_1 <| And.intro ty.fld37_2 <| And.intro ty.fld37_3 <| And.intro ty.fld37_4 <| And.intro ty.elem37 <| And.intro ty.zero37 <| ty.pl37
set_option maxHeartbeats 4000000 in
theorem SheetOrder_c (c : Census) (b : Nat) (hb : b < 256) : CallP Tryd.prog G0 7 [c.s, .d (.lit (.int .u8 (b : Nat)))] (B true) := by
  refine CallP.body 101 [.tmp 4] Tryd.func7 (by kernel_rfl) rfl rfl rfl (by repeat' (first | exact Pure.d _ | exact Pure.dx _ | exact Pure.dp _ | exact fa_nil | refine fa_cons ?_ ?_ | refine Pure.agg ?_ | refine Pure.tup ?_ | refine Pure.clo ?_ ?_ | refine Pure.fp ?_ | exact Pure.mapd _ | assumption)) (by repeat' (first | exact Pure.d _ | exact Pure.dx _ | exact Pure.dp _ | exact fa_nil | refine fa_cons ?_ ?_ | refine Pure.agg ?_ | refine Pure.tup ?_ | refine Pure.clo ?_ ?_ | refine Pure.fp ?_ | exact Pure.mapd _ | assumption)) ?_
  refine Tr.reg [1, 2] (by
      simp only [↓sxd, sxu, ↓zE, ↓exq, St.keep, ↓zI, Nat.reduceBEq, Nat.reduceAdd, Nat.reduceLT, Nat.reduceEqDiff]
      (repeat' (first | rfl | exact trivial | exact fun h => h | exact fun h => (by rw [h]; rfl) | apply And.intro | omega | exact Nat.le_of_ble_eq_true rfl))) ?_
  refine Tr.reg [1, 2, 5] (by
      simp only [↓sxd, sxu, ↓zE, ↓exq, ↓zB, St.keep, ↓zJ, ↓zD, ↓zA, Nat.reduceBEq, Nat.reduceAdd, Nat.reduceLT, Nat.reduceEqDiff, sxe, tysW35_7]
      (repeat' (first | rfl | exact trivial | exact fun h => h | exact fun h => (by rw [h]; rfl) | apply And.intro | omega | exact Nat.le_of_ble_eq_true rfl))) ?_
  refine Tr.seq ?_
  refine Tr.reg [1, 2, 5, 28] (by
      simp only [↓sxd, sxu, ↓zE, ↓exq, St.keep, ↓zD, Nat.reduceBEq, Nat.reduceAdd, Nat.reduceLT, tysW35_7]
      (repeat ((with_reducible refine And.intro ?_ ?_); (focus (first | with_reducible rfl | trivial | exact fun h => h | exact fun h => (by rw [h]; rfl) | omega | assumption))))
      refine CallO.use (Thin_c _ c) ?_
      try simp only [↓sxd, sxu, ↓zE, ↓exq, ↓zL, Nat.reduceLT]
      (repeat ((with_reducible refine And.intro ?_ ?_); (focus (first | with_reducible rfl | trivial | exact fun h => h | exact fun h => (by rw [h]; rfl) | omega | assumption))))
      refine GdO.mk _ (fun hg => by simp only [sxu, ↓exq, ↓zD, Nat.reduceBEq, Nat.reduceAdd, Nat.reduceLT, tysW35_7]; (repeat' (first | rfl | exact trivial | exact fun h => h | exact fun h => (by rw [h]; rfl) | apply And.intro | omega | exact Nat.le_of_ble_eq_true rfl))) ?_
      simp only [↓sxd, sxu, ↓zE, Nat.reduceBEq, Nat.reduceLT]
      (repeat ((with_reducible refine And.intro ?_ ?_); (focus (first | with_reducible rfl | trivial | exact fun h => h | exact fun h => (by rw [h]; rfl) | omega | assumption))))
      refine GdO.mk (I c.check) (fun hg => by
        obtain ⟨h1, h2, h3⟩ := thin_len (by simpa using hg)
        simp only [sxu, ↓exq, ↓zB, hg]
        (repeat ((with_reducible refine And.intro ?_ ?_); (focus (first | with_reducible rfl | trivial | exact fun h => h | exact fun h => (by rw [h]; rfl) | omega | assumption))))
        exact CallP.use (fault_c c (by omega) (by omega) (by omega)) ⟨rfl, rfl, rfl⟩) ?_
      try simp only [↓sxd, sxu, ↓zE, Nat.reduceBEq, Nat.reduceLT]
      iterate 3
        (repeat ((with_reducible refine And.intro ?_ ?_); (focus (first | with_reducible rfl | trivial | exact fun h => h | exact fun h => (by rw [h]; rfl) | omega | assumption))))
        refine GdO.mk _ (fun hg => by simp only [↓sxd, sxu, ↓exq, Nat.reduceBEq, hg]; (repeat' (first | rfl | exact trivial | exact fun h => h | exact fun h => (by rw [h]; rfl) | apply And.intro | omega | exact Nat.le_of_ble_eq_true rfl))) ?_
        simp only [↓sxd, sxu, ↓zE, ↓exq, ↓zH, Nat.reduceBEq, Nat.reduceLT]
      (repeat' (first | rfl | exact trivial | exact fun h => h | exact fun h => (by rw [h]; rfl) | apply And.intro | omega | exact Nat.le_of_ble_eq_true rfl))) ?_
  refine Tr.cond rfl (fun h28 => ?_) (fun h28 => ?_)
  · refine Tr.reg [4] (by
        simp only [↓sxd, sxu, ↓zE, St.keep, Nat.reduceLT]
        (repeat ((with_reducible refine And.intro ?_ ?_); (focus (first | with_reducible rfl | trivial | exact fun h => h | exact fun h => (by rw [h]; rfl) | omega | assumption))))
        refine CallO.use (awake_c) ?_
        try simp only [↓sxd, sxu, ↓zE, ↓exq, Nat.reduceLT]
        (repeat' (first | rfl | exact trivial | exact fun h => h | exact fun h => (by rw [h]; rfl) | apply And.intro | omega | exact Nat.le_of_ble_eq_true rfl))) ?_
    refine Tr.ret ?_
    (refine ⟨.inr rfl, ?_⟩; first | rfl | exact ⟨rfl, rfl, trivial⟩ | exact ⟨rfl, rfl, rfl, trivial⟩ | (simp only [Res, ResL, ResOK, ↓sxd, sxu, ↓zE, ↓zC, zK, ↓exP, ↓exq, ↓zB, St.keep, ↓zH, ↓xB, ↓zL, ↓zJ, ↓zD, ↓zN, ↓zM, ↓zI, ↓zG, ↓zQ, ↓yC, ↓zA, sbnd, Nat.reduceBEq, Nat.reduceAdd, Nat.reduceLT, Nat.reduceMul, Nat.reduceSub, Nat.reduceLeDiff, Nat.reduceEqDiff, Int.reduceLE, Int.reduceLT, Int.reduceToNat, reduceIte, implies_true, sxe, tysW35_7]; (repeat' (first | rfl | exact trivial | exact fun h => h | exact fun h => (by rw [h]; rfl) | apply And.intro | omega | exact Nat.le_of_ble_eq_true rfl))))
  · have hF : c.thin = true ∧ c.check = 0 ∧ c.entries.length ≠ 0 := by
      cases hx : c.thin with
      | true =>
        rw [hx] at h28
        simp only [Bool.not_true, Bool.false_or, Bool.or_eq_false_iff, bne_eq_false_iff_eq, beq_eq_false_iff_ne, ne_eq] at h28
        exact ⟨rfl, h28.1, by omega⟩
      | false => rw [hx] at h28; cases h28
    obtain ⟨hth, hck, hn0⟩ := hF
    have hf := fine_iff.1 hck
    have hsm := small_thin hth
    have h10 := hf.n10
    have h6 := hf.s6
    have ha6 := hf.a6
    obtain ⟨k, hk⟩ : ∃ k, k = b % c.entries.length := ⟨_, rfl⟩
    have hkl : k < c.entries.length := by rw [hk]; exact Nat.mod_lt _ (by omega)
    have hni : ((c.entries.length : Int) = 0) = False := eq_false (by omega)
    have hlaw := rot_law hf (show k ≤ c.entries.length by omega)
    have hfr := rot_fine hf (show k ≤ c.entries.length by omega)
    have hP := PersonsF_c c hf
    have hQ := PersonsF_c _ hfr
    rw [hlaw.1] at hQ
    obtain ⟨r, o, e, hre⟩ : ∃ r o e, c.personsS = (r, o, e) := ⟨_, _, _, rfl⟩
    rw [hre] at hP hQ hlaw
    have ws : IntKind.i64.wrap ((c.entries.length : Int) - (k : Int)) = ((c.entries.length - k : Nat) : Int) := by rw [wr (by omega) (by omega)]; omega
    refine Tr.skip ?_
    refine Tr.reg [2, 5, 6] (by
        simp only [↓sxd, sxu, ↓zE, ↓exq, St.keep, ↓xB, Nat.reduceBEq, Nat.reduceLT, tysW35_7, wi (show b < 9223372036854775808 by omega), tmod_n, ← hk, hni]
        (repeat' (first | rfl | exact trivial | exact fun h => h | exact fun h => (by rw [h]; rfl) | apply And.intro | omega | exact Nat.le_of_ble_eq_true rfl))) ?_
    refine Tr.reg [2, 5, 6, 7] (by
        simp only [↓sxd, sxu, ↓zE, ↓exq, St.keep, ↓zD, ↓zM, Nat.reduceBEq, Nat.reduceAdd, Nat.reduceLT, Nat.reduceEqDiff, tysW35_7]
        (repeat' (first | rfl | exact trivial | exact fun h => h | exact fun h => (by rw [h]; rfl) | apply And.intro | omega | exact Nat.le_of_ble_eq_true rfl))) ?_
    have hd1 : ((c.entries.drop k).length ≤ 1073741824) = True := eq_true (by rw [List.length_drop]; omega)
    have hd2 : ((c.entries.drop k).length + (c.entries.take k).length ≤ 1073741824) = True := eq_true (by rw [List.length_drop, List.length_take]; omega)
    refine Tr.regD [6, 7, 0, 1, 2, 3, 4, 5, 8, 9, 10, 11, 12] [5, 10, 12] [7] [2, 5, 6, 7] mix (by kernel_rfl) (by
        simp only [↓sxd, sxu, ↓zC, zK, ↓exq, ↓zB, St.keep, ↓zD, ↓zG, ↓zQ, ↓yC, ↓zA, sbnd, Nat.reduceBEq, Nat.reduceAdd, Nat.reduceLT, Nat.reduceLeDiff, Nat.reduceEqDiff, Int.reduceLE, sxe, tysW35_7, List.take_length, src_ee, ee_all, ee_len, hd1, hd2]
        (repeat' (first | rfl | exact trivial | exact fun h => h | exact fun h => (by rw [h]; rfl) | apply And.intro | omega | exact Nat.le_of_ble_eq_true rfl))) ?_
    refine Tr.regD [0, 1, 2, 3, 4, 5, 6, 7, 8, 9, 10, 11, 12, 13, 14, 15, 16, 17] [15, 17] [] [2, 7] mix (by kernel_rfl) (by
        simp only [↓sxd, sxu, ↓zC, zK, ↓exq, St.keep, ↓zD, ↓zA, Nat.reduceBEq, Nat.reduceAdd, Nat.reduceLT, Nat.reduceEqDiff, tysW35_7, ws]
        (repeat ((with_reducible refine And.intro ?_ ?_); (focus (first | with_reducible rfl | trivial | exact fun h => h | exact fun h => (by rw [h]; rfl) | omega | assumption))))
        refine CallD.use (moved_c c.same ((c.entries.length - k : Nat) : Int) c.entries.length (by omega) (by omega)) ?_
        try simp only [↓sxd, sxu, ↓zC, zK, ↓exq, ↓zD, ↓zA, Nat.reduceBEq, Nat.reduceAdd, Nat.reduceLT, Nat.reduceEqDiff, tysW35_7, ws]
        (repeat ((with_reducible refine And.intro ?_ ?_); (focus (first | with_reducible rfl | trivial | exact fun h => h | exact fun h => (by rw [h]; rfl) | omega | assumption))))
        refine CallD.use (moved_c c.apart ((c.entries.length - k : Nat) : Int) c.entries.length (by omega) (by omega)) ?_
        try simp only [↓sxd, sxu, ↓zC, zK, ↓exq, ↓zA, Nat.reduceBEq, Nat.reduceAdd, Nat.reduceLT, Nat.reduceLeDiff, Nat.reduceEqDiff, tysW35_7]
        (repeat' (first | rfl | exact trivial | exact fun h => h | exact fun h => (by rw [h]; rfl) | apply And.intro | omega | exact Nat.le_of_ble_eq_true rfl))) ?_
    refine Tr.imp (st' := ⟨[(2, .ptr 0 0 0), (7, .ptr 1 0 0)], [(1, .arr 7 [cs (c.rot k) (SP (c.rot k).same) (SP (c.rot k).apart)]), (0, .arr 7 [cs c (SP c.same) (SP c.apart)])], _, _, [], _⟩) (Imp.go (fun i => i) [(1, .arr 7 [[.slc 3 5 0 ((c.entries.drop k).length + (c.entries.take k).length) ((c.entries.drop k).length + (c.entries.take k).length), SP (c.rot k).same, SP (c.rot k).apart, I c.omitted.lo, I c.omitted.hi, I c.number.lo, I c.number.hi]]), (0, .arr 7 [cs c (SP c.same) (SP c.apart)])] rfl rfl (.cons _ (.refl _)) (fun _ _ => rfl) (fun _ h => h) (by repeat' (first | exact TmT.cons rfl (TnS.d _) ?_ | exact trivial | exact F2.nil | refine F2.append ?_ ?_ | refine F2.map fun _ _ => ?_ | refine F2.cons ?_ ?_ | refine TmT.cons rfl ?_ ?_ | exact TnS.d _ | exact TnS.dx _ | exact TnS.dp _ | exact TnS.slc rfl | exact TnS.ptr rfl | refine TnS.frzf rfl (by simp) (by simp) (by simp) ?_ | refine TnS.frz0 rfl (by simp) (by simp) (by simp) ?_ | refine TnS.frzm rfl (by simp) ?_ | exact TnS.mapr rfl | exact TnS.yld rfl | refine ⟨rfl, ?_⟩ | refine TnO.arr ?_ | refine TnO.map ?_ | exact TnO.raw _ | exact TnO.iter _ _ | refine TnS.agg ?_ | refine TnS.tup ?_ | exact TnS.pure (Pure.clo (by assumption) (by assumption)) | refine TnS.clo ?_ ?_ | exact TnS.unk _ | exact TnS.pure (Pure.clo (by assumption) (by assumption)))) (.cons ⟨rfl, TnO.arr (.cons (.cons (efz (id := 3) (es := ee (c.entries.drop k) ++ ee (c.entries.take k)) (l := c.entries.drop k ++ c.entries.take k) rfl (by simp [ee, dE]) (by simp) (by rw [List.length_append])) (by repeat' (first | exact TmT.cons rfl (TnS.d _) ?_ | exact trivial | exact F2.nil | refine F2.append ?_ ?_ | refine F2.map fun _ _ => ?_ | refine F2.cons ?_ ?_ | refine TmT.cons rfl ?_ ?_ | exact TnS.d _ | exact TnS.dx _ | exact TnS.dp _ | exact TnS.slc rfl | exact TnS.ptr rfl | refine TnS.frzf rfl (by simp) (by simp) (by simp) ?_ | refine TnS.frz0 rfl (by simp) (by simp) (by simp) ?_ | refine TnS.frzm rfl (by simp) ?_ | exact TnS.mapr rfl | exact TnS.yld rfl | refine ⟨rfl, ?_⟩ | refine TnO.arr ?_ | refine TnO.map ?_ | exact TnO.raw _ | exact TnO.iter _ _ | refine TnS.agg ?_ | refine TnS.tup ?_ | exact TnS.pure (Pure.clo (by assumption) (by assumption)) | refine TnS.clo ?_ ?_ | exact TnS.unk _ | exact TnS.pure (Pure.clo (by assumption) (by assumption))))) .nil)⟩ (.cons ⟨rfl, TnO.arr (by repeat' (first | exact TmT.cons rfl (TnS.d _) ?_ | exact trivial | exact F2.nil | refine F2.append ?_ ?_ | refine F2.map fun _ _ => ?_ | refine F2.cons ?_ ?_ | refine TmT.cons rfl ?_ ?_ | exact TnS.d _ | exact TnS.dx _ | exact TnS.dp _ | exact TnS.slc rfl | exact TnS.ptr rfl | refine TnS.frzf rfl (by simp) (by simp) (by simp) ?_ | refine TnS.frz0 rfl (by simp) (by simp) (by simp) ?_ | refine TnS.frzm rfl (by simp) ?_ | exact TnS.mapr rfl | exact TnS.yld rfl | refine ⟨rfl, ?_⟩ | refine TnO.arr ?_ | refine TnO.map ?_ | exact TnO.raw _ | exact TnO.iter _ _ | refine TnS.agg ?_ | refine TnS.tup ?_ | exact TnS.pure (Pure.clo (by assumption) (by assumption)) | refine TnS.clo ?_ ?_ | exact TnS.unk _ | exact TnS.pure (Pure.clo (by assumption) (by assumption))))⟩ .nil)) (fun _ => rfl)) ?_
    refine Tr.reg [7, 8, 9, 10] (by
        simp only [↓sxd, sxu, ↓zE, ↓exq, St.keep, ↓zD, Nat.reduceBEq, Nat.reduceAdd, Nat.reduceLT, tysW35_7]
        (repeat ((with_reducible refine And.intro ?_ ?_); (focus (first | with_reducible rfl | trivial | exact fun h => h | exact fun h => (by rw [h]; rfl) | omega | assumption))))
        refine CallO.use (lCensus_c c hsm) ?_
        try simp only [↓sxd, sxu, ↓zE, Nat.reduceLT]
        (repeat ((with_reducible refine And.intro ?_ ?_); (focus (first | with_reducible rfl | trivial | exact fun h => h | exact fun h => (by rw [h]; rfl) | omega | assumption))))
        refine CallO.use (hP) ?_
        try simp only [↓sxd, sxu, ↓zE, ↓exq, ↓zN, ↓zM, Nat.reduceBEq, Nat.reduceAdd, Nat.reduceLT, Nat.reduceEqDiff, tysW35_7]
        (repeat' (first | rfl | exact trivial | exact fun h => h | exact fun h => (by rw [h]; rfl) | apply And.intro | omega | exact Nat.le_of_ble_eq_true rfl))) ?_
    refine Tr.reg [8, 9, 10, 11, 12, 13] (by
        simp only [↓sxd, sxu, ↓zE, ↓exq, St.keep, ↓zD, Nat.reduceBEq, Nat.reduceAdd, Nat.reduceLT, tysW35_7]
        (repeat ((with_reducible refine And.intro ?_ ?_); (focus (first | with_reducible rfl | trivial | exact fun h => h | exact fun h => (by rw [h]; rfl) | omega | assumption))))
        refine CallO.use (lCensus_c _ (fine_small hfr)) ?_
        try simp only [↓sxd, sxu, ↓zE, Nat.reduceLT]
        (repeat ((with_reducible refine And.intro ?_ ?_); (focus (first | with_reducible rfl | trivial | exact fun h => h | exact fun h => (by rw [h]; rfl) | omega | assumption))))
        refine CallO.use (hQ) ?_
        try simp only [↓sxd, sxu, ↓zE, ↓exq, ↓zN, ↓zM, Nat.reduceBEq, Nat.reduceAdd, Nat.reduceLT, Nat.reduceEqDiff, tysW35_7]
        (repeat' (first | rfl | exact trivial | exact fun h => h | exact fun h => (by rw [h]; rfl) | apply And.intro | omega | exact Nat.le_of_ble_eq_true rfl))) ?_
    refine Tr.reg [4] (by
        simp only [↓sxd, sxu, ↓zE, ↓exq, St.keep, Nat.reduceBEq, Nat.reduceLT]
        iterate 11
          (repeat ((with_reducible refine And.intro ?_ ?_); (focus (first | with_reducible rfl | trivial | exact fun h => h | exact fun h => (by rw [h]; rfl) | omega | assumption))))
          refine GdO.mk _ (fun hg => by simp only [↓sxd, sxu, ↓exq, ↓zD, Nat.reduceBEq, Nat.reduceAdd, Nat.reduceLT, tysW35_7, eqAgg30, svInts, exists_and_left, hg]; (repeat' (first | rfl | exact trivial | exact fun h => h | exact fun h => (by rw [h]; rfl) | apply And.intro | omega | exact Nat.le_of_ble_eq_true rfl))) ?_
          simp only [↓sxd, sxu, ↓zE, ↓exq, ↓zH, Nat.reduceBEq, Nat.reduceLT]
        (repeat ((with_reducible refine And.intro ?_ ?_); (focus (first | with_reducible rfl | trivial | exact fun h => h | exact fun h => (by rw [h]; rfl) | omega | assumption))))
        first | refine GdO.or (fun hg => by simp only [sxu, Nat.reduceBEq, pickArgs]; (repeat' (first | rfl | exact trivial | exact fun h => h | exact fun h => (by rw [h]; rfl) | apply And.intro | omega | exact Nat.le_of_ble_eq_true rfl))) ?_ | refine GdO.mk _ (fun hg => by simp only [↓sxd, sxu, ↓zE, ↓zC, zK, ↓exP, ↓exq, ↓zB, St.keep, ↓zH, ↓xB, ↓zL, ↓zJ, ↓zD, ↓zN, ↓zM, ↓zI, ↓zG, ↓zQ, ↓yC, ↓zA, sbnd, Nat.reduceBEq, Nat.reduceAdd, Nat.reduceLT, Nat.reduceMul, Nat.reduceSub, Nat.reduceLeDiff, Nat.reduceEqDiff, Int.reduceLE, Int.reduceLT, Int.reduceToNat, reduceIte, implies_true, sxe, tysW35_7, eqAgg30, svInts, exists_and_left, hg, if_true]; (repeat' (first | rfl | exact trivial | exact fun h => h | exact fun h => (by rw [h]; rfl) | apply And.intro | omega | exact Nat.le_of_ble_eq_true rfl))) ?_
        simp only [↓sxd, sxu, ↓zE, ↓exq, ↓zH, Nat.reduceBEq, Nat.reduceLT]
        (repeat ((with_reducible refine And.intro ?_ ?_); (focus (first | with_reducible rfl | trivial | exact fun h => h | exact fun h => (by rw [h]; rfl) | omega | assumption))))
        refine GdO.mk _ (fun hg => by simp only [sxu, ↓exq, ↓zB, hg]; (repeat ((with_reducible refine And.intro ?_ ?_); (focus (first | with_reducible rfl | trivial | exact fun h => h | exact fun h => (by rw [h]; rfl) | omega | assumption)))); exact CallP.use (awake_c) ⟨rfl, rfl, rfl⟩) ?_
        simp only [↓sxd, sxu, ↓zE, ↓exq, ↓zH, Nat.reduceBEq, Nat.reduceLT]
        (repeat' (first | rfl | exact trivial | exact fun h => h | exact fun h => (by rw [h]; rfl) | apply And.intro | omega | exact Nat.le_of_ble_eq_true rfl))) ?_
    refine Tr.ret ?_
    exact ⟨.inr rfl, congrArg (fun n => some (B n)) (by
    rcases hlaw.2 with h | h
    · have h : e = 0 := h
      subst h; simp
    · have h : e = 9 := h
      subst h; simp)⟩
end Go.Proofs.YtcnkbdfkjhlbiaaDoor
