/- Lemmas, part YEA. Conditions: none. -/
import Derived.Test.YtcnkbdfkjhlbiaaDoorXPBB
import Derived.Carry
set_option linter.unusedVariables false
namespace Go.Proofs.YtcnkbdfkjhlbiaaDoor
open Go.Sy
theorem ty.sz77 : tsz Tryd.prog 77 = some 1 := by kernel_rfl
theorem ty.agg77 : tagg Tryd.prog 77 = some false := by kernel_rfl
theorem ty.zero77 : tzero Tryd.prog 77 = some (SV.d (.lit (.int .u16 0)) :: []) := by kernel_rfl
theorem ty.elem77 : telem Tryd.prog 77 = none := by kernel_rfl
theorem ty.und77 : Tryd.prog.underlying 77 = some (.int .u16) := by kernel_rfl
theorem ty.sz79 : tsz Tryd.prog 79 = some 1 := by kernel_rfl
theorem ty.agg79 : tagg Tryd.prog 79 = some false := by kernel_rfl
theorem ty.zero79 : tzero Tryd.prog 79 = some (SV.dx [] :: []) := by kernel_rfl
theorem ty.elem79 : telem Tryd.prog 79 = some 1 := by kernel_rfl
theorem ty.by79 : tby Tryd.prog 79 = some 2 := by kernel_rfl
theorem ty.ez79 : tez Tryd.prog 79 = some (SV.d (.lit (.int .u16 0)) :: []) := by kernel_rfl
theorem ty.und79 : Tryd.prog.underlying 79 = some (.slice 77) := by kernel_rfl
theorem ty.sz94 : tsz Tryd.prog 94 = some 1 := by kernel_rfl
theorem ty.agg94 : tagg Tryd.prog 94 = some false := by kernel_rfl
theorem ty.elem94 : telem Tryd.prog 94 = none := by kernel_rfl
theorem ty.sz148 : tsz Tryd.prog 148 = some 1 := by kernel_rfl
theorem ty.agg148 : tagg Tryd.prog 148 = some false := by kernel_rfl
theorem ty.elem148 : telem Tryd.prog 148 = none := by kernel_rfl
end Go.Proofs.YtcnkbdfkjhlbiaaDoor
namespace Go.Sy
section
variable {P : Program} {G : Nat → Option (List D)} {O : Nat → Prop} {pb pl pl' : Nat → Option Pl} {w w' : World} {hp hp' : HpT} {nx nx' : Nat} {ok ok' : Nat → Prop} {r : Nat → Nat}
theorem Imp.trans {a b c : St} (h : Imp a b) (h' : Imp b c) : Imp a c := by
  intro G O M pb pl x w hR
  obtain ⟨pl1, h1, g1⟩ := h G O M pb pl x w hR
  obtain ⟨pl2, h2, g2⟩ := h' G O M pb pl1 x w h1
  exact ⟨pl2, h2, fun B hB => g1 B (g2 B hB)⟩
end
end Go.Sy
namespace Go.Proofs.YtcnkbdfkjhlbiaaDoor
open Go.Sy
abbrev SW (l : List Nat) : SV := .d (.sl (dW l))
end Go.Proofs.YtcnkbdfkjhlbiaaDoor
namespace Go.Proofs.YtcnkbdfkjhlbiaaDoor
open Go.Sy Go.Deep
section
variable {H : Type} {enc : TypeId × Value → H} {P : Program} {W : World} {spare : Nat → Bool}
theorem one_of {x : D} {v : Value} {pl : Nat → Option Pl} (hc : v.cells.toList = [v]) (h : DRs W [x] v.cells.toList) : SR pl (fun B => ¬ False) W (.d x) v := by
  obtain ⟨_, hd⟩ := h
  have := hd 0 (by simp)
  rw [hc] at this
  exact SR.d _ _ (this.ext (Ext.weak fun _ _ _ h => h))
theorem reads_u16 {t : TypeId} (hu : P.underlying t = some (.int .u16)) : Reads enc P W spare t 1 (fun n : Fin 65536 => [.lit (.int .u16 (n.val : Nat))]) := fun fuel cs x h => by
  obtain ⟨n, rfl, _, hw⟩ := DataW.trod_int hu h
  have hb := Go.bounds_u16 hw
  refine ⟨⟨n.toNat, by omega⟩, rfl, rfl, fun j hj => ?_⟩
  obtain rfl : j = 0 := by simp at hj; omega
  show DR _ W (.lit (.int .u16 ((n.toNat : Nat) : Int))) (.int .u16 n)
  rw [show ((n.toNat : Nat) : Int) = n by omega]
  exact DR.lit _ rfl
theorem rd79 : Reads enc Tryd.prog W spare 79 1 (fun l : List (Fin 65536) => [.sl (l.map fun n => [.lit (.int .u16 (n.val : Nat))])]) := reads_slice (e := 77) (n := 1) (by kernel_rfl) (by kernel_rfl) (by decide) (reads_u16 (by kernel_rfl))
theorem words_of {fuel : Nat} {v : Value} {x : DataW H × List MemPlace} {pl : Nat → Option Pl} (hc : v.cells.toList = [v]) (h : DataW.trod enc Tryd.prog W 0 spare true fuel 79 v.cells.toList = some x) : ∃ l : List Nat, (∀ n ∈ l, n < 65536) ∧ SR pl (fun B => ¬ False) W (SW l) v := by
  obtain ⟨l, _, h1⟩ := rd79 _ _ _ h
  refine ⟨l.map (·.val), fun n hn => ?_, ?_⟩
  · obtain ⟨m, _, rfl⟩ := List.mem_map.1 hn; exact m.isLt
  · rw [show SW (l.map (·.val)) = .d (.sl (l.map fun n => [.lit (.int .u16 (n.val : Nat))])) by simp [dW]]
    exact one_of hc h1
end
end Go.Proofs.YtcnkbdfkjhlbiaaDoor
namespace Go.Proofs.YtcnkbdfkjhlbiaaDoor
open Go.Sy
set_option maxRecDepth 8000
theorem dU_1 (l : List Nat) : (dU l).length = l.length := dU_len l
theorem tl_one {a : List Bool} {b : List Int} (h1 : a.length = 1024) {k : Nat} (h : k < 1024) : (List.drop k (a.map cB ++ b.map cI)).getD 0 default = cB (a.getD k false) := by
  rw [List.getD_eq_getElem?_getD, List.getElem?_drop, List.getElem?_append_left (by simp; omega)]
  simp [List.getD_eq_getElem?_getD, h1, h]
theorem tl_one0 {a : List Bool} {b : List Int} (h1 : a.length = 1024) {k : Nat} (h : k < 1024) : 0 < (List.drop k (a.map cB ++ b.map cI)).length := by simp; omega
end Go.Proofs.YtcnkbdfkjhlbiaaDoor
namespace Go.Proofs.YtcnkbdfkjhlbiaaDoor
open Go.Sy
set_option maxRecDepth 8000
def Census.both (c : Census) (a b : Int) : Bool := within a 0 (c.entries.length - 1) && within b 0 (c.entries.length - 1)
def Census.together (c : Census) (a b : Int) : Bool × Bool × Int :=
  if c.tried (c.both a b) = 0 then (if a = b then (true, true, 0) else ((c.with a b true).cons, !(c.with a b false).cons, 0)) else (false, false, c.tried (c.both a b))
end Go.Proofs.YtcnkbdfkjhlbiaaDoor
namespace Go.Sy
theorem exPick_and (a b : Bool) (K : SV → Prop) (h : K (.d (.lit (.bool (a && b))))) : zH (.d (.lit (.bool a))) (if a = true then .d (.lit (.bool b)) else .unk) (.d (.lit (.bool false))) K := by
  cases a <;> cases b <;> exact h
section
variable {P : Program} {G : Nat → Option (List D)}
theorem GdO.and {all : List Oper} {o : Oper} {os : List Oper} {st : St} {g : Bool} {K : St → Prop} {a b : Bool} (h : g = true → pickArgs o (fun x => gstrip (ev G st.tm x)) = some (.d (.lit (.bool a)), if a = true then .d (.lit (.bool b)) else .unk, .d (.lit (.bool false))))
    (k : xA P G all os ⟨putT o.dst (.whn g (.d (.lit (.bool (a && b))))) st.tm, st.hp, st.nx, st.nt, st.df, st.nb⟩ K) : GdO P G all o os st g K :=
  GdO.mk _ (fun hg => exq_pick (h hg) (exPick_and a b _ ⟨rfl, rfl, rfl⟩)) k
end
end Go.Sy
namespace Go.Proofs.YtcnkbdfkjhlbiaaDoor
set_option maxRecDepth 8000
theorem with_pairs {c : Census} (h : PairsOk c) {a b : Int} {s : Bool} (ha : a.toNat < c.entries.length) (hb : b.toNat < c.entries.length) : PairsOk (c.with a b s) := by
  cases s
  · exact ⟨h.ns, fun p hp => by
      rcases List.mem_append.1 hp with hp | hp
      · exact h.na p hp
      · rw [List.mem_singleton] at hp; subst hp; exact ⟨ha, hb⟩⟩
  · exact ⟨fun p hp => by
      rcases List.mem_append.1 hp with hp | hp
      · exact h.ns p hp
      · rw [List.mem_singleton] at hp; subst hp; exact ⟨ha, hb⟩, h.na⟩
theorem with_n (c : Census) (a b : Int) (s : Bool) : (c.with a b s).entries = c.entries ∧ (c.with a b s).omitted = c.omitted ∧ (c.with a b s).number = c.number := by cases s <;> exact ⟨rfl, rfl, rfl⟩
theorem with_lims {c : Census} (h : Lims c) (a b : Int) (s : Bool) : Lims (c.with a b s) := by
  obtain ⟨_, h2, h3⟩ := with_n c a b s
  exact ⟨by rw [h2]; exact h.om, by rw [h3]; exact h.nu⟩
theorem with_sums (c : Census) (a b : Int) (s : Bool) (m : Nat) : Sums (c.with a b s) m ↔ Sums c m := by
  obtain ⟨_, h2, h3⟩ := with_n c a b s
  unfold Sums; rw [h2, h3]
theorem with_allow (c : Census) (a b : Int) (s : Bool) (f : Nat → Nat) : Allow (c.with a b s) f ↔ Allow c f ∧ (if s then f a.toNat = f b.toNat else f a.toNat ≠ f b.toNat) := by
  cases s
  · constructor
    · intro h
      exact ⟨⟨h.fits, h.same, fun p hp => h.apart p (List.mem_append.2 (.inl hp))⟩, h.apart ⟨a, b⟩ (List.mem_append.2 (.inr (List.mem_singleton.2 rfl)))⟩
    · rintro ⟨h, h2⟩
      refine ⟨h.fits, h.same, fun p hp => ?_⟩
      rcases List.mem_append.1 hp with hp | hp
      · exact h.apart p hp
      · rw [List.mem_singleton] at hp; subst hp; exact h2
  · constructor
    · intro h
      exact ⟨⟨h.fits, fun p hp => h.same p (List.mem_append.2 (.inl hp)), h.apart⟩, h.same ⟨a, b⟩ (List.mem_append.2 (.inr (List.mem_singleton.2 rfl)))⟩
    · rintro ⟨h, h2⟩
      refine ⟨h.fits, fun p hp => ?_, h.apart⟩
      rcases List.mem_append.1 hp with hp | hp
      · exact h.same p hp
      · rw [List.mem_singleton] at hp; subst hp; exact h2
theorem with_cons {c : Census} (h : Fine c) {a b : Int} {s : Bool} (ha : a.toNat < c.entries.length) (hb : b.toNat < c.entries.length) : (c.with a b s).cons = true ↔ ∃ v ∈ c.all, if s then fn v a.toNat = fn v b.toNat else fn v a.toNat ≠ fn v b.toNat := by
  have hn := with_n c a b s
  have hp := with_pairs h.pairs (s := s) ha hb
  rw [cons_iff hp (by rw [hn.1]; exact h.n10) (with_lims h.lims a b s)]
  constructor
  · rintro ⟨m, h1, h2⟩
    obtain ⟨v, e1, e2, e3, e4⟩ := (Sem.rgs hp).1 h1
    obtain ⟨e5, e6⟩ := (with_allow c a b s _).1 e3
    exact ⟨v, (mem_all h.lims).2 ⟨by rw [e1, hn.1], e2, e5, by rw [e4]; exact (with_sums c a b s m).1 h2⟩, e6⟩
  · rintro ⟨v, hv, h2⟩
    obtain ⟨e1, e2, e3, e4⟩ := (mem_all h.lims).1 hv
    exact ⟨many v, (Sem.rgs hp).2 ⟨v, by rw [e1, hn.1], e2, (with_allow c a b s _).2 ⟨e3, h2⟩, rfl⟩, (with_sums c a b s _).2 e4⟩
theorem both_iff {c : Census} {a b : Int} : c.both a b = true ↔ 0 ≤ a ∧ a < c.entries.length ∧ 0 ≤ b ∧ b < c.entries.length := by
  simp only [Census.both, within, Bool.and_eq_true, decide_eq_true_eq]; omega
def someOf (l : List (List Nat)) (a b : Nat) : Bool := l.any fun v => fn v a == fn v b
def everyOf (l : List (List Nat)) (a b : Nat) : Bool := l.all fun v => fn v a == fn v b
theorem together_law {c : Census} {a b : Int} (h : c.tried (c.both a b) = 0) : c.together a b = (someOf c.all a.toNat b.toNat, everyOf c.all a.toNat b.toNat, 0) := by
  unfold Census.together
  rw [if_pos h]
  obtain ⟨hf, hb, hc⟩ := tried_iff.1 h
  rw [both_iff] at hb
  by_cases hab : a = b
  · subst hab
    rw [if_pos rfl]
    have h1 : someOf c.all a.toNat a.toNat = true := by
      cases hl : c.all with
      | nil => rw [(all_nil hf).1 hl] at hc; cases hc
      | cons v l => simp [someOf]
    have h2 : everyOf c.all a.toNat a.toNat = true := by simp [everyOf]
    rw [h1, h2]
  · rw [if_neg hab]
    have e1 := with_cons hf (a := a) (b := b) (s := true) (by omega) (by omega)
    have e2 := with_cons hf (a := a) (b := b) (s := false) (by omega) (by omega)
    have h1 : (c.with a b true).cons = someOf c.all a.toNat b.toNat := by
      rw [Bool.eq_iff_iff, e1]; simp [someOf]
    have h2 : (!(c.with a b false).cons) = everyOf c.all a.toNat b.toNat := by
      rw [Bool.eq_iff_iff, Bool.not_eq_true', ← Bool.not_eq_true, e2]; simp [everyOf]
    rw [h1, h2]
end Go.Proofs.YtcnkbdfkjhlbiaaDoor
namespace Go.Sy
section
variable {P : Program} {G : Nat → Option (List D)} {ro : Option Nat} {ops : Array Oper} {ul louds : List Nat}
theorem Tr.regV1 {id : Nat} {st : St} {Q : Exit → St → Prop} (louds ul ks : List Nat) {st' : St} (hmix : P.follows .mixedOrders = true) (hc : dChk (Region.before ops).toList ops ul (mkV louds ops.toList 0) = true)
    (h : exV P G ul louds ops.toList 0 [] st [] fun s => s.keep ks = st') (hq : Q .normal st') : Tr P G ro (.region id ops true) st Q := by
  refine Tr.post ((Tr.drawV (Q := fun x s => match x with | .normal => s.keep ks = st' | _ => False) hmix hc h).mono ?_)
  intro x s hx
  cases x with
  | normal => exact ⟨st', hx ▸ Imp.keep ks, hq⟩
  | _ => exact hx.elim
end
end Go.Sy
namespace Go.Proofs.YtcnkbdfkjhlbiaaDoor
open Go.Sy
set_option maxRecDepth 8000
theorem nats_at (v : List Nat) (k : Nat) : (nats v).getD k 0 = (v.getD k 0 : Nat) := by
  unfold nats
  simp only [List.getD_eq_getElem?_getD, List.getElem?_map]
  cases v[k]? <;> rfl
theorem ib (p q : Nat) : ((p : Int) == (q : Int)) = (p == q) := by
  rw [Bool.eq_iff_iff, beq_iff_eq, beq_iff_eq]; omega
theorem ibn (p q : Nat) : ((p : Int) != (q : Int)) = (p != q) := by
  unfold bne; rw [ib]
end Go.Proofs.YtcnkbdfkjhlbiaaDoor
namespace Go.Proofs.YtcnkbdfkjhlbiaaDoor
set_option maxRecDepth 8000
structure Says (c x : Census) : Prop where
  len : x.entries.length = c.entries.length
  ent : ∀ i, i < c.entries.length → (x.entry i).sched = (c.entry i).sched ∧ (x.entry i).sex = (c.entry i).sex ∧ (x.entry i).key = (c.entry i).key ∧ (c.entry i).ages.lo ≤ (x.entry i).ages.lo ∧ (x.entry i).ages.hi ≤ (c.entry i).ages.hi
  same : ∀ p ∈ c.same, p ∈ x.same
  apart : ∀ p ∈ c.apart, p ∈ x.apart
  om : c.omitted.lo ≤ x.omitted.lo ∧ x.omitted.hi ≤ c.omitted.hi
  nu : c.number.lo ≤ x.number.lo ∧ x.number.hi ≤ c.number.hi
theorem fine_tried {c : Census} (h : Fine c) : c.tried true = if c.cons then 0 else 9 := by
  have hk := fine_iff.2 h
  unfold Census.tried Census.cons
  rw [if_neg (fun hc => hc hk)]
  simp only [Bool.not_true, Bool.false_eq_true, if_false, decide_eq_true_eq]
  by_cases hg : (readW c).persons.lo > (readW c).persons.hi
  · rw [if_pos hg, if_neg (by omega)]
  · rw [if_neg hg, if_pos (by omega)]
theorem personsS_yes {c : Census} (h : Fine c) (hc : c.cons = true) : c.personsS = (pers c, c.omitted.cut (c.number.lo - (pers c).hi) (c.number.hi - (pers c).lo), 0) := by
  have h0 : 0 ≤ (readW c).persons.lo ∧ (readW c).persons.hi ≤ c.entries.length := pers_lo h.pairs h.n10
  have h1 : (readW c).persons.lo ≤ (readW c).persons.hi := cons_lo hc
  have h10 := h.n10
  have ho := h.om
  have hn := h.nu
  unfold Census.personsS
  rw [if_pos (by rw [fine_tried h, hc]; rfl), wr_id (by omega) (by omega), wr_id (by omega) (by omega)]
structure Moves (c x : Census) (s : Nat → Nat) : Prop where
  len : x.entries.length = c.entries.length
  to : ∀ i, i < c.entries.length → s i < c.entries.length
  inj : ∀ i k, i < c.entries.length → k < c.entries.length → s i = s k → i = k
  sur : ∀ j, j < c.entries.length → ∃ i, i < c.entries.length ∧ s i = j
  ent : ∀ i, i < c.entries.length → x.entry i = c.entry (s i)
  same : ∀ p ∈ x.same, ∃ q ∈ c.same, s p.fst.toNat = q.fst.toNat ∧ s p.snd.toNat = q.snd.toNat
  apart : ∀ p ∈ x.apart, ∃ q ∈ c.apart, s p.fst.toNat = q.fst.toNat ∧ s p.snd.toNat = q.snd.toNat
end Go.Proofs.YtcnkbdfkjhlbiaaDoor
namespace Go.Proofs.YtcnkbdfkjhlbiaaDoor
open Go.Sy
set_option maxRecDepth 8000
theorem wi {n : Nat} (h : n < 9223372036854775808) : IntKind.i64.wrap (n : Int) = n := wr (by omega) (by omega)
end Go.Proofs.YtcnkbdfkjhlbiaaDoor
namespace Go.Proofs.YtcnkbdfkjhlbiaaDoor
open Go.Sy
set_option maxRecDepth 8000
theorem tmod_n (a n : Nat) : ((a : Nat) : Int).tmod (n : Int) = ((a % n : Nat) : Int) := by
  rw [Int.natCast_emod, Int.tmod_eq_emod_of_nonneg (Int.natCast_nonneg _)]
end Go.Proofs.YtcnkbdfkjhlbiaaDoor
namespace Go.Proofs.YtcnkbdfkjhlbiaaDoor
open Go.Sy
set_option maxRecDepth 8000
theorem tmod4 (n : Nat) : (n : Int).tmod 4 = ((n % 4 : Nat) : Int) := tmod_n n 4
theorem tmod3 (n : Nat) : (n : Int).tmod 3 = ((n % 3 : Nat) : Int) := tmod_n n 3
theorem ee_get {l : List Entry} {j : Nat} (h : j < l.length) : (ee l).getD j [] = [I (l.getD j default).sched, I (l.getD j default).sex, I (l.getD j default).key, I (l.getD j default).ages.lo, I (l.getD j default).ages.hi] := by
  simp [ee, dE, List.getD_eq_getElem?_getD, h]
theorem wadd {n : Int} {k : Nat} (h : 0 ≤ n) (h2 : n ≤ 1000) (h3 : k ≤ 1000) : IntKind.i64.wrap (n + (k : Int)) = n + (k : Int) := wr (by omega) (by omega)
structure Nar (c : Census) (E : List Entry) (O N : Rng) : Prop where
  len : E.length = c.entries.length
  val : ∀ e ∈ E, Entry.valid e = true
  ent : ∀ i, i < c.entries.length → (E.getD i default).sched = (c.entry i).sched ∧ (E.getD i default).sex = (c.entry i).sex ∧ (E.getD i default).key = (c.entry i).key ∧ (c.entry i).ages.lo ≤ (E.getD i default).ages.lo ∧ (E.getD i default).ages.hi ≤ (c.entry i).ages.hi
  om : c.omitted.lo ≤ O.lo ∧ O.lo ≤ O.hi ∧ O.hi ≤ c.omitted.hi
  nu : c.number.lo ≤ N.lo ∧ N.lo ≤ N.hi ∧ N.hi ≤ c.number.hi
end Go.Proofs.YtcnkbdfkjhlbiaaDoor
namespace Go.Proofs.YtcnkbdfkjhlbiaaDoor
open Go.Sy (aput)
set_option maxRecDepth 8000
def off (c : Coding) (k p : Nat) (x : Int) : Nat := if (c.codes.getD k []).getD p 0 ≠ x then 1 else 0
def errsAt (c : Coding) (k : Nat) : Nat → List Int → Nat
  | _, [] => 0
  | p, x :: w => off c k p x + errsAt c k (p + 1) w
def sumTo (f : Nat → Nat) : Nat → Nat
  | 0 => 0
  | n + 1 => sumTo f n + f n
def totAt (c : Coding) (p : Nat) (w : List Int) : Nat := sumTo (fun k => errsAt c k p w) c.codes.length
structure Comp (c : Coding) (p : Nat) (es : List Int) (w : List Int) : Prop where
  len : p + w.length = c.cols
  cod : ∀ x ∈ w, 0 ≤ x ∧ x ≤ 9
  few : ∀ k, k < c.codes.length → es.getD k 0 + errsAt c k p w ≤ c.wrong.getD k 0
structure Es (c : Coding) (p : Nat) (es : List Int) : Prop where
  len : es.length = 3
  bd : ∀ k, 0 ≤ es.getD k 0 ∧ es.getD k 0 ≤ p
def esNext (c : Coding) (p : Nat) (es : List Int) (x : Int) : List Int := (c.nextTo p es x c.codes.length).1
def OkNext (c : Coding) (p : Nat) (es : List Int) (x : Int) : Prop := ∀ k, k < c.codes.length → es.getD k 0 + off c k p x ≤ c.wrong.getD k 0
instance (c : Coding) (p : Nat) (es : List Int) (x : Int) : Decidable (OkNext c p es x) := by unfold OkNext; infer_instance
def IsBest (c : Coding) (p : Nat) (es : List Int) (n : Int) : Prop :=
  (n = -1 ∧ ∀ w, ¬ Comp c p es w) ∨ (∃ w, Comp c p es w ∧ n = totAt c p w ∧ ∀ w', Comp c p es w' → n ≤ totAt c p w')
structure MemOk (c : Coding) (m : Mem) : Prop where
  ok : ∀ p es n, p < c.cols → Es c p es → m.lookup (keyOf p es) = some n → IsBest c p es n
  shut : ∀ p es, p < c.cols → Es c p es → (m.lookup (keyOf p es)).isSome = true → ∀ x : Int, 0 ≤ x → x ≤ 9 → OkNext c p es x → p + 1 = c.cols ∨ (m.lookup (keyOf (p + 1) (esNext c p es x))).isSome = true
end Go.Proofs.YtcnkbdfkjhlbiaaDoor
namespace Go.Proofs.YtcnkbdfkjhlbiaaDoor
open Go.Sy (aput)
set_option maxRecDepth 8000
inductive Pre (c : Coding) : Nat → List Int → List Int → Prop
  | nil : Pre c 0 [] e000
  | snoc {p : Nat} {v es : List Int} {x : Int} (h : Pre c p v es) (h1 : 0 ≤ x ∧ x ≤ 9) (h2 : OkNext c p es x) : Pre c (p + 1) (v ++ [x]) (esNext c p es x)
structure CodingFine (c : Coding) : Prop where
  ok : CodingOk c
  n0 : 0 < c.codes.length
  c0 : 0 < c.cols
  wr : ∀ k, k < c.codes.length → 0 ≤ c.wrong.getD k 0 ∧ c.wrong.getD k 0 ≤ 10
  cd : ∀ k, k < c.codes.length → (c.codes.getD k []).all isCode = true
end Go.Proofs.YtcnkbdfkjhlbiaaDoor
namespace Go.Proofs.YtcnkbdfkjhlbiaaDoor
open Go.Sy
set_option maxRecDepth 8000
theorem getD_memI {l : List (List Int)} {i : Nat} (h : i < l.length) : l.getD i [] ∈ l := getD_mem h
theorem allI_getD {p : Int → Bool} {l : List Int} (h : ∀ j, j < l.length → p (l.getD j 0) = true) : l.all p = true := by
  rw [List.all_eq_true]
  intro x hx
  obtain ⟨j, hj, rfl⟩ := List.getElem_of_mem hx
  have := h j hj
  rwa [show l.getD j 0 = l[j] by simp [List.getD_eq_getElem?_getD, hj]] at this
abbrev uL (l : List (List Int)) : List (List SV) := l.map fun u => [SI u]
abbrev vI (v : List Int) : List (List SV) := v.map fun n => [I n]
theorem vI_fz {r : Nat → Nat} {hp hp' : HpT} (v : List Int) : F2 (F2 fun s x => TnS r hp hp' s (.d x)) (vI v) (dI v) := by
  rw [dI]; exact F2.map fun n _ => .cons (TnS.d _) .nil
theorem uL_fz {r : Nat → Nat} {hp hp' : HpT} (l : List (List Int)) : F2 (F2 fun s x => TnS r hp hp' s (.d x)) (uL l) (dL l) := by
  rw [dL]; exact F2.map fun n _ => .cons (TnS.d _) .nil
end Go.Proofs.YtcnkbdfkjhlbiaaDoor
namespace Go.Proofs.YtcnkbdfkjhlbiaaDoor
open Go.Sy
set_option maxRecDepth 8000
def asgOne (n : Nat) (l : List Int) (seen : Nat) : Nat → Option (Nat × Nat)
  | 0 => some (0, seen)
  | i + 1 => match asgOne n l seen i with
    | none => none
    | some x => if !(within (l.getD i 0) 0 (n - 1)) || x.2.testBit (l.getD i 0).toNat || (decide (0 < i) && decide (l.getD i 0 ≤ l.getD (i - 1) 0)) then none
      else some (x.1 ||| 2 ^ (l.getD i 0).toNat, x.2 ||| 2 ^ (l.getD i 0).toNat)
def Census.keeps (c : Census) (s : Nat) : Bool := c.same.all fun p => s.testBit p.fst.toNat == s.testBit p.snd.toNat
def Census.asgTo (c : Census) (ls : List (List Int)) : Nat → Option Nat
  | 0 => some 0
  | k + 1 => match c.asgTo ls k with
    | none => none
    | some sn => match asgOne c.entries.length (ls.getD k []) sn (ls.getD k []).length with
      | none => none
      | some x => if x.1 = 0 ∨ c.fitsSet x.1 = false ∨ c.keeps x.1 = false then none else some x.2
def Census.asg (c : Census) (ls : List (List Int)) : Bool := if c.check = 0 then (match c.asgTo ls ls.length with
    | none => false
    | some sn => decide ((elems sn).length = c.entries.length) && within ls.length c.limits.lo c.limits.hi) else false
theorem asgOne_lt {n : Nat} {l : List Int} {seen : Nat} (hs : seen < 2 ^ n) : ∀ i x, asgOne n l seen i = some x → x.1 < 2 ^ n ∧ x.2 < 2 ^ n
  | 0, x, h => by simp [asgOne] at h; subst h; exact ⟨Nat.two_pow_pos n, hs⟩
  | i + 1, x, h => by
    rw [asgOne] at h
    split at h
    · cases h
    · rename_i y hy
      obtain ⟨h1, h2⟩ := asgOne_lt hs i y hy
      split at h
      · cases h
      · rename_i g
        cases h
        have hw : within (l.getD i 0) 0 (n - 1) = true := by
          simp only [Bool.or_eq_true, not_or, Bool.not_eq_true', Bool.not_eq_false] at g
          exact g.1.1
        simp only [within, Bool.and_eq_true, decide_eq_true_eq] at hw
        have : 2 ^ (l.getD i 0).toNat < 2 ^ n := Nat.pow_lt_pow_right (by omega) (by omega)
        exact ⟨Nat.or_lt_two_pow h1 this, Nat.or_lt_two_pow h2 this⟩
theorem asgOne_step {n : Nat} {l : List Int} {seen i : Nat} {x : Nat × Nat} (h : asgOne n l seen i = some x) : asgOne n l seen (i + 1) = if !(within (l.getD i 0) 0 (n - 1)) || x.2.testBit (l.getD i 0).toNat || (decide (0 < i) && decide (l.getD i 0 ≤ l.getD (i - 1) 0)) then none
      else some (x.1 ||| 2 ^ (l.getD i 0).toNat, x.2 ||| 2 ^ (l.getD i 0).toNat) := by rw [asgOne, h]
end Go.Proofs.YtcnkbdfkjhlbiaaDoor
namespace Go.Proofs.YtcnkbdfkjhlbiaaDoor
open Go.Sy
set_option maxRecDepth 8000
theorem tmod10 (n : Nat) : (n : Int).tmod 10 = ((n % 10 : Nat) : Int) := by
  rw [Int.natCast_emod, Int.tmod_eq_emod_of_nonneg (Int.natCast_nonneg _)]; rfl
abbrev cells (f : Nat → Nat → Bool) : List SV := (List.range 30).map fun q => B (f (q / 10) (q % 10))
end Go.Proofs.YtcnkbdfkjhlbiaaDoor
namespace Go.Proofs.YtcnkbdfkjhlbiaaDoor
open Go.Sy
set_option maxRecDepth 8000
def wordOf (ws : List Nat) (a : Nat) : Nat := if ws.length = 0 then 0 else ws.getD (a % ws.length) 0
theorem wordOf_lt {ws : List Nat} (hw : ∀ n ∈ ws, n < 65536) (a : Nat) : wordOf ws a < 65536 := by
  unfold wordOf
  split
  · omega
  · exact hw _ (getD_mem (Nat.mod_lt _ (by omega)))
abbrev tysW37_45 := And.intro ty.sz0 <| And.intro ty.agg0 <| And.intro ty.elem0 <| And.intro ty.sz3 <| And.intro ty.agg3 <| And.intro ty.elem3 <| And.intro ty.zero3 <| And.intro ty.und3 <| And.intro ty.sz4 <| And.intro ty.agg4 <| And.intro ty.elem4 <| And.intro ty.zero4 <| And.intro ty.und4 <| And.intro ty.sz77 <| And.intro ty.agg77 <| And.intro ty.elem77 <| And.intro ty.zero77 <| And.intro ty.und77 <| And.intro ty.sz79 <| And.intro ty.agg79 <| And.intro ty.elem79 <| And.intro ty.by79 <| And.intro ty.ez79 <| And.intro ty.zero79 <| ty.und79
theorem word_c (ws : List Nat) (hw : ∀ n ∈ ws, n < 65536) (a : Nat) : CallP Tryd.prog G0 45 [SW ws, I a] (I (wordOf ws a : Nat)) := by
  refine CallP.body 16 [.tmp 4] Tryd.func45 (by kernel_rfl) rfl rfl rfl (by repeat' (first | exact Pure.d _ | exact Pure.dx _ | exact Pure.dp _ | exact fa_nil | refine fa_cons ?_ ?_ | refine Pure.agg ?_ | refine Pure.tup ?_ | refine Pure.clo ?_ ?_ | refine Pure.fp ?_ | exact Pure.mapd _ | assumption)) (by repeat' (first | exact Pure.d _ | exact Pure.dx _ | exact Pure.dp _ | exact fa_nil | refine fa_cons ?_ ?_ | refine Pure.agg ?_ | refine Pure.tup ?_ | refine Pure.clo ?_ ?_ | refine Pure.fp ?_ | exact Pure.mapd _ | assumption)) ?_
  refine Tr.reg [0, 1] (by
      simp only [↓sxd, sxu, ↓zE, ↓exq, St.keep, Nat.reduceBEq, Nat.reduceAdd, Nat.reduceLT]
      (repeat' (first | rfl | exact trivial | exact fun h => h | exact fun h => (by rw [h]; rfl) | apply And.intro | omega | exact Nat.le_of_ble_eq_true rfl))) ?_
  refine Tr.seq ?_
  refine Tr.reg [0, 1, 7] (by
      simp only [↓sxd, sxu, ↓zE, ↓exq, ↓zB, St.keep, ↓zJ, Nat.reduceBEq, Nat.reduceLT, sxe, tysW37_45]
      (repeat' (first | rfl | exact trivial | exact fun h => h | exact fun h => (by rw [h]; rfl) | apply And.intro | omega | exact Nat.le_of_ble_eq_true rfl))) ?_
  refine Tr.cond rfl (fun h7 => ?_) (fun h7 => ?_)
  · have h0 : ws.length = 0 := by have := beq_iff_eq.1 h7; omega
    rw [show wordOf ws a = 0 from if_pos h0]
    refine Tr.reg [4] (by
        simp only [↓sxd, sxu, ↓zE, ↓exq, St.keep, Nat.reduceLT]
        (repeat' (first | rfl | exact trivial | exact fun h => h | exact fun h => (by rw [h]; rfl) | apply And.intro | omega | exact Nat.le_of_ble_eq_true rfl))) ?_
    refine Tr.ret ?_
    (refine ⟨.inr rfl, ?_⟩; first | rfl | exact ⟨rfl, rfl, trivial⟩ | exact ⟨rfl, rfl, rfl, trivial⟩ | (simp only [Res, ResL, ResOK, ↓sxd, sxu, ↓zE, ↓zC, zK, ↓exP, ↓exq, ↓zB, St.keep, ↓xB, ↓zL, ↓zJ, ↓zD, Nat.reduceBEq, Nat.reduceAdd, Nat.reduceLT, Nat.reduceMul, Nat.reduceSub, Nat.reduceLeDiff, Nat.reduceEqDiff, Int.reduceLE, Int.reduceLT, Int.reduceToNat, reduceIte, implies_true, sxe, tysW37_45]; (repeat' (first | rfl | exact trivial | exact fun h => h | exact fun h => (by rw [h]; rfl) | apply And.intro | omega | exact Nat.le_of_ble_eq_true rfl))))
  · have h0 : ¬ ws.length = 0 := fun hc => by rw [hc] at h7; cases h7
    have hlt : a % ws.length < ws.length := Nat.mod_lt _ (by omega)
    have hne : ((ws.length : Int) = 0) = False := eq_false (by omega)
    have hb := hw _ (getD_mem (d := 0) hlt)
    rw [show wordOf ws a = ws.getD (a % ws.length) 0 from if_neg h0]
    refine Tr.skip ?_
    refine Tr.reg [4] (by
        simp only [↓sxd, sxu, ↓zE, ↓exq, ↓zB, St.keep, ↓xB, ↓zJ, ↓zD, Nat.reduceBEq, Nat.reduceLT, sxe, tysW37_45, tmod_n, hlt, hne, wi (show ws.getD (a % ws.length) 0 < 9223372036854775808 by omega)]
        (repeat' (first | rfl | exact trivial | exact fun h => h | exact fun h => (by rw [h]; rfl) | apply And.intro | omega | exact Nat.le_of_ble_eq_true rfl))) ?_
    refine Tr.ret ?_
    (refine ⟨.inr rfl, ?_⟩; first | rfl | exact ⟨rfl, rfl, trivial⟩ | exact ⟨rfl, rfl, rfl, trivial⟩ | (simp only [Res, ResL, ResOK, ↓sxd, sxu, ↓zE, ↓zC, zK, ↓exP, ↓exq, ↓zB, St.keep, ↓xB, ↓zL, ↓zJ, ↓zD, Nat.reduceBEq, Nat.reduceAdd, Nat.reduceLT, Nat.reduceMul, Nat.reduceSub, Nat.reduceLeDiff, Nat.reduceEqDiff, Int.reduceLE, Int.reduceLT, Int.reduceToNat, reduceIte, implies_true, sxe, tysW37_45]; (repeat' (first | rfl | exact trivial | exact fun h => h | exact fun h => (by rw [h]; rfl) | apply And.intro | omega | exact Nat.le_of_ble_eq_true rfl))))
theorem vI_snoc (v : List Int) (n : Int) : vI (v ++ [n]) = vI v ++ [[I n]] := by simp [vI]
theorem uL_snoc (l : List (List Int)) (x : List Int) : uL (l ++ [x]) = uL l ++ [[SI x]] := by simp [uL]
theorem vI_tn {r : Nat → Nat} {hp hp' : HpT} (v : List Int) : F2 (F2 (TnS r hp hp')) (vI v) (vI v) := F2.map fun n _ => .cons (TnS.d _) .nil
theorem vI_len (v : List Int) : (vI v).length = v.length := by simp
theorem tdiv64 (n : Nat) : (n : Int).tdiv 64 = ((n / 64 : Nat) : Int) := by
  rw [Int.natCast_ediv, Int.tdiv_eq_ediv_of_nonneg (Int.natCast_nonneg _)]; rfl
theorem tmod2n (n : Nat) : (n : Int).tmod 2 = ((n % 2 : Nat) : Int) := tmod_n n 2
end Go.Proofs.YtcnkbdfkjhlbiaaDoor
namespace Go.Proofs.YtcnkbdfkjhlbiaaDoor
open Go.Sy
set_option maxRecDepth 8000
def refOne (l : List Int) (n k : Nat) (o0 : List Int) : Nat → Option (List Int)
  | 0 => some o0
  | i + 1 => match refOne l n k o0 i with
    | none => none
    | some o => if !(within (l.getD i 0) 0 (n - 1)) || decide (o.getD (l.getD i 0).toNat 0 ≥ 0) || (decide (0 < i) && decide (l.getD i 0 ≤ l.getD (i - 1) 0)) then none else some (o.set (l.getD i 0).toNat k)
def refTo (n : Nat) (ls : List (List Int)) : Nat → Option (List Int)
  | 0 => some (List.replicate n (-1))
  | k + 1 => match refTo n ls k with
    | none => none
    | some o => if (ls.getD k []).length = 0 then none else refOne (ls.getD k []) n k o (ls.getD k []).length
def ofS (n : Nat) (ls : List (List Int)) : Option (List Int) := match refTo n ls ls.length with
  | none => none
  | some o => if o.all (fun x => decide (0 ≤ x)) then some o else none
theorem refOne_none {l : List Int} {n k : Nat} {o0 : List Int} {i : Nat} (h : refOne l n k o0 i = none) : ∀ d, refOne l n k o0 (i + d) = none
  | 0 => h
  | d + 1 => by show refOne l n k o0 (i + d + 1) = none; rw [refOne, refOne_none h d]
theorem refTo_none {n : Nat} {ls : List (List Int)} {k : Nat} (h : refTo n ls k = none) : ∀ d, refTo n ls (k + d) = none
  | 0 => h
  | d + 1 => by show refTo n ls (k + d + 1) = none; rw [refTo, refTo_none h d]
theorem ofS_none {n : Nat} {ls : List (List Int)} {k : Nat} (hk : k < ls.length) (h : refTo n ls (k + 1) = none) : ofS n ls = none := by
  unfold ofS
  have := refTo_none h (ls.length - (k + 1))
  rw [show k + 1 + (ls.length - (k + 1)) = ls.length by omega] at this
  rw [this]
theorem refOne_step {l : List Int} {n k : Nat} {o0 o : List Int} {i : Nat} (h : refOne l n k o0 i = some o) : refOne l n k o0 (i + 1) = if !(within (l.getD i 0) 0 (n - 1)) || decide (o.getD (l.getD i 0).toNat 0 ≥ 0) || (decide (0 < i) && decide (l.getD i 0 ≤ l.getD (i - 1) 0)) then none else some (o.set (l.getD i 0).toNat k) := by rw [refOne, h]
theorem vI_rep (i : Nat) : vI (List.replicate (i + 1) (-1)) = vI (List.replicate i (-1)) ++ [[I (-1)]] := by
  rw [List.replicate_succ', vI_snoc]
theorem vI_getD {o : List Int} {j : Nat} (h : j < o.length) : (vI o).getD j [] = [I (o.getD j 0)] := by simp [vI, List.getD_eq_getElem?_getD, h]
theorem vI_set {o : List Int} {j : Nat} {x : Int} : (vI o).set j [I x] = vI (o.set j x) := by simp [vI, List.map_set]
abbrev tysW41_91 := And.intro ty.sz0 <| And.intro ty.agg0 <| And.intro ty.elem0 <| And.intro ty.sz3 <| And.intro ty.agg3 <| And.intro ty.elem3 <| And.intro ty.zero3 <| And.intro ty.und3 <| And.intro ty.sz4 <| And.intro ty.agg4 <| And.intro ty.elem4 <| And.intro ty.zero4 <| And.intro ty.und4 <| And.intro ty.sz22 <| And.intro ty.agg22 <| And.intro ty.elem22 <| And.intro ty.by22 <| And.intro ty.ez22 <| And.intro ty.zero22 <| And.intro ty.und22 <| And.intro ty.sz27 <| And.intro ty.agg27 <| And.intro ty.fld27_0 <| And.intro ty.fld27_1 <| And.intro ty.fld27_2 <| And.intro ty.fld27_3 <| And.intro ty.fld27_4 <| And.intro ty.elem27 <| And.intro ty.zero27 <| And.intro ty.pl27 <| And.intro ty.sz39 <| And.intro ty.agg39 <| And.intro ty.elem39 <| And.intro ty.by39 <| And.intro ty.ez39 <| And.intro ty.zero39 <| And.intro ty.und39 <| And.intro ty.sz43 <| And.intro ty.agg43 <| And.intro ty.elem43 <| And.intro ty.by43 <| And.intro ty.ez43 <| And.intro ty.zero43 <| ty.und43
set_option maxHeartbeats 4000000 in
theorem Of_c (c : Census) (hn : c.entries.length ≤ 13) (ls : List (List Int)) (hl : ls.length ≤ 13) (hls : ∀ l ∈ ls, l.length ≤ 13) : CallP Tryd.prog G0 91 [c.s, SL ls] (.tup [SI ((ofS c.entries.length ls).getD []), B (ofS c.entries.length ls).isSome]) := by
  have w0 : IntKind.i64.wrap ((c.entries.length : Int) - 1) = (c.entries.length : Int) - 1 := wr (by omega) (by omega)
  refine CallP.body 95 [.tmp 4, .tmp 5] Tryd.func91 (by kernel_rfl) rfl rfl rfl (by repeat' (first | exact Pure.d _ | exact Pure.dx _ | exact Pure.dp _ | exact fa_nil | refine fa_cons ?_ ?_ | refine Pure.agg ?_ | refine Pure.tup ?_ | refine Pure.clo ?_ ?_ | refine Pure.fp ?_ | exact Pure.mapd _ | assumption)) (by repeat' (first | exact Pure.d _ | exact Pure.dx _ | exact Pure.dp _ | exact fa_nil | refine fa_cons ?_ ?_ | refine Pure.agg ?_ | refine Pure.tup ?_ | refine Pure.clo ?_ ?_ | refine Pure.fp ?_ | exact Pure.mapd _ | assumption)) ?_
  refine Tr.reg [1, 2] (by
      simp only [↓sxd, sxu, ↓zE, ↓exq, St.keep, ↓zI, Nat.reduceBEq, Nat.reduceAdd, Nat.reduceLT, Nat.reduceEqDiff]
      (repeat' (first | rfl | exact trivial | exact fun h => h | exact fun h => (by rw [h]; rfl) | apply And.intro | omega | exact Nat.le_of_ble_eq_true rfl))) ?_
  refine Tr.reg [1, 2, 6] (by
      simp only [↓sxd, sxu, ↓zE, ↓exq, St.keep, Nat.reduceBEq, Nat.reduceLT]
      (repeat' (first | rfl | exact trivial | exact fun h => h | exact fun h => (by rw [h]; rfl) | apply And.intro | omega | exact Nat.le_of_ble_eq_true rfl))) ?_
  refine Tr.seq ?_
  refine Tr.reg [1, 2, 6, 7] (by
      simp only [↓sxd, sxu, ↓zE, ↓exq, St.keep, Nat.reduceBEq, Nat.reduceLT]
      (repeat' (first | rfl | exact trivial | exact fun h => h | exact fun h => (by rw [h]; rfl) | apply And.intro | omega | exact Nat.le_of_ble_eq_true rfl))) ?_
  refine Tr.imp (st' := ⟨[(1, SL ls), (2, .ptr 0 0 0), (6, .slc 1 1 0 0 0), (7, I 0)], [(1, .arr 1 (vI (List.replicate 0 (-1)))), (0, .arr 7 [cs c (SP c.same) (SP c.apart)])], 2, 95, [], 0⟩) (Imp.goV 1 rfl rfl rfl rfl (by repeat' (first | exact trivial | exact F2.nil | refine F2.cons ?_ ?_ | refine TmV.cons rfl VnS.nil ?_ | refine TmV.cons rfl VnS.same ?_ | refine ⟨rfl, ?_⟩ | exact VnO.same _ | refine VnO.arr ?_ | exact VnS.nil | exact VnS.same | exact F2.refl fun _ _ => VnS.same)) (by repeat' (first | exact trivial | exact F2.nil | refine F2.cons ?_ ?_ | refine TmV.cons rfl VnS.nil ?_ | refine TmV.cons rfl VnS.same ?_ | refine ⟨rfl, ?_⟩ | exact VnO.same _ | refine VnO.arr ?_ | exact VnS.nil | exact VnS.same | exact F2.refl fun _ _ => VnS.same))) (Tr.block (Tr.loopI (fun mm ss => ∃ (i : Nat), (i ≤ c.entries.length) ∧ c.entries.length - i = mm ∧ ss = ⟨[(1, SL ls), (2, .ptr 0 0 0), (6, .slc 1 1 0 i i), (7, I i)], [(1, .arr 1 (vI (List.replicate i (-1)))), (0, .arr 7 [cs c (SP c.same) (SP c.apart)])], 2, 95, [], 0⟩) _ ⟨0, ?_, rfl, rfl⟩ ?_))
  · exact Nat.zero_le _
  rintro mm ss ⟨i, hI, rfl, rfl⟩
  refine Tr.seq ?_
  refine Tr.reg [1, 2, 6, 7, 16] (by
      simp only [↓sxd, sxu, ↓zE, ↓exq, ↓zB, St.keep, ↓zJ, ↓zD, ↓zA, Nat.reduceBEq, Nat.reduceAdd, Nat.reduceLT, Nat.reduceEqDiff, sxe, tysW41_91]
      (repeat' (first | rfl | exact trivial | exact fun h => h | exact fun h => (by rw [h]; rfl) | apply And.intro | omega | exact Nat.le_of_ble_eq_true rfl))) ?_
  refine Tr.cond rfl (fun h16 => ?_) (fun h16 => ?_)
  · have hlt : i < c.entries.length := by have := of_decide_eq_true h16; omega
    refine Tr.skip ?_
    refine Tr.seq ?_
    refine Tr.block ?_
    have hk2 : (i + 1 ≤ 1073741824) = True := eq_true (by omega)
    refine Tr.reg1 [1, 2, 6, 7] (by
        simp only [↓sxd, sxu, ↓zE, ↓exq, ↓zB, St.keep, ↓zG, ↓zQ, Nat.reduceBEq, Nat.reduceAdd, Nat.reduceLT, Nat.reduceLeDiff, Nat.reduceEqDiff, tysW41_91, hk2]
        (repeat' (first | rfl | exact trivial | exact fun h => h | exact fun h => (by rw [h]; rfl) | apply And.intro | omega | exact Nat.le_of_ble_eq_true rfl))) ?_
    have w1 : IntKind.i64.wrap ((i : Int) + 1) = ((i + 1 : Nat) : Int) := by rw [wr (by omega) (by omega)]; rfl
    refine Tr.reg1 [1, 2, 6, 7] (by
        simp only [↓sxd, sxu, ↓zE, ↓exq, St.keep, Nat.reduceBEq, Nat.reduceLT, w1]
        (repeat' (first | rfl | exact trivial | exact fun h => h | exact fun h => (by rw [h]; rfl) | apply And.intro | omega | exact Nat.le_of_ble_eq_true rfl))) ?_
    refine ⟨_, _, ?_, ?_, ⟨i + 1, hlt, rfl, rfl⟩⟩
    · omega
    · rw [vI_rep]
      exact Imp.go (fun i => if i < 1 then i else i + 1) [(2, _), (0, _)] rfl rfl (.refl _) (fun _ h => absurd h (Nat.not_lt_zero _)) (fun id h => by simp only [show ¬ id < 1 by omega, if_false]; omega) (by repeat' (first | exact TmT.cons rfl (TnS.d _) ?_ | exact trivial | exact F2.nil | refine F2.append ?_ ?_ | refine F2.map fun _ _ => ?_ | refine F2.cons ?_ ?_ | refine TmT.cons rfl ?_ ?_ | exact TnS.d _ | exact TnS.dx _ | exact TnS.dp _ | exact TnS.slc rfl | exact TnS.ptr rfl | refine TnS.frzf rfl (by simp) (by simp) (by simp) ?_ | refine TnS.frz0 rfl (by simp) (by simp) (by simp) ?_ | refine TnS.frzm rfl (by simp) ?_ | exact TnS.mapr rfl | exact TnS.yld rfl | refine ⟨rfl, ?_⟩ | refine TnO.arr ?_ | refine TnO.map ?_ | exact TnO.raw _ | exact TnO.iter _ _ | refine TnS.agg ?_ | refine TnS.tup ?_ | exact TnS.pure (Pure.clo (by assumption) (by assumption)) | refine TnS.clo ?_ ?_ | exact TnS.unk _ | exact TnS.pure (Pure.clo (by assumption) (by assumption)))) (.cons ⟨rfl, TnO.arr (F2.append (vI_tn _) (.cons (.cons (TnS.d _) .nil) .nil))⟩ (.cons ⟨rfl, TnO.arr (by repeat' (first | exact TmT.cons rfl (TnS.d _) ?_ | exact trivial | exact F2.nil | refine F2.append ?_ ?_ | refine F2.map fun _ _ => ?_ | refine F2.cons ?_ ?_ | refine TmT.cons rfl ?_ ?_ | exact TnS.d _ | exact TnS.dx _ | exact TnS.dp _ | exact TnS.slc rfl | exact TnS.ptr rfl | refine TnS.frzf rfl (by simp) (by simp) (by simp) ?_ | refine TnS.frz0 rfl (by simp) (by simp) (by simp) ?_ | refine TnS.frzm rfl (by simp) ?_ | exact TnS.mapr rfl | exact TnS.yld rfl | refine ⟨rfl, ?_⟩ | refine TnO.arr ?_ | refine TnO.map ?_ | exact TnO.raw _ | exact TnO.iter _ _ | refine TnS.agg ?_ | refine TnS.tup ?_ | exact TnS.pure (Pure.clo (by assumption) (by assumption)) | refine TnS.clo ?_ ?_ | exact TnS.unk _ | exact TnS.pure (Pure.clo (by assumption) (by assumption))))⟩ .nil)) (fun h => h)
  · have hge : i = c.entries.length := by have := of_decide_eq_false h16; omega
    subst hge
    obtain ⟨n, hnd⟩ : ∃ n, n = c.entries.length := ⟨_, rfl⟩
    rw [← hnd] at hn w0 ⊢
    refine Tr.exit ?_
    refine Tr.seq ?_
    refine Tr.reg [1, 6, 8] (by
        simp only [↓sxd, sxu, ↓zE, ↓exq, St.keep, Nat.reduceBEq, Nat.reduceLT]
        (repeat' (first | rfl | exact trivial | exact fun h => h | exact fun h => (by rw [h]; rfl) | apply And.intro | omega | exact Nat.le_of_ble_eq_true rfl))) ?_
    refine Tr.imp (st' := ⟨[(1, SL ls), (6, .slc 1 1 0 n n), (8, I 0)], [(1, .arr 1 (vI ((List.replicate n (-1))))), (0, .arr 7 [cs c (SP c.same) (SP c.apart)])], 2, 95, [], 0⟩) (Imp.keepAll) (Tr.block (Tr.loopI (fun mm ss => ∃ (k : Nat) (o : List Int), (k ≤ ls.length ∧ refTo n ls k = some o ∧ o.length = n) ∧ ls.length - k = mm ∧ ss = ⟨[(1, SL ls), (6, .slc 1 1 0 n n), (8, I k)], [(1, .arr 1 (vI o)), (0, .arr 7 [cs c (SP c.same) (SP c.apart)])], 2, 95, [], 0⟩) _ ⟨0, (List.replicate n (-1)), ?_, rfl, rfl⟩ ?_))
    · exact ⟨Nat.zero_le _, rfl, List.length_replicate⟩
    rintro mm ss ⟨k, o, hI, rfl, rfl⟩
    obtain ⟨hK, hto, hol⟩ := hI
    refine Tr.seq ?_
    refine Tr.reg [1, 6, 8, 25] (by
        simp only [↓sxd, sxu, ↓zE, ↓exq, ↓zB, St.keep, ↓zJ, Nat.reduceBEq, Nat.reduceLT, sxe, tysW41_91]
        (repeat' (first | rfl | exact trivial | exact fun h => h | exact fun h => (by rw [h]; rfl) | apply And.intro | omega | exact Nat.le_of_ble_eq_true rfl))) ?_
    refine Tr.cond rfl (fun h25 => ?_) (fun h25 => ?_)
    · have hlk : k < ls.length := by have := of_decide_eq_true h25; omega
      have hll := hls _ (getD_memI hlk)
      have hnx : refTo n ls (k + 1) = if (ls.getD k []).length = 0 then none else refOne (ls.getD k []) n k o (ls.getD k []).length := by rw [refTo, hto]
      generalize hL : ls.getD k [] = L at hll hnx
      refine Tr.skip ?_
      refine Tr.seq ?_
      refine Tr.block ?_
      refine Tr.seq ?_
      refine Tr.reg [1, 6, 8, 33] (by
          simp only [↓sxd, sxu, ↓zE, ↓exq, ↓zB, St.keep, ↓zJ, ↓zD, Nat.reduceBEq, Nat.reduceLT, sxe, tysW41_91, hlk, hL]
          (repeat' (first | rfl | exact trivial | exact fun h => h | exact fun h => (by rw [h]; rfl) | apply And.intro | omega | exact Nat.le_of_ble_eq_true rfl))) ?_
      refine Tr.cond rfl (fun h33 => ?_) (fun h33 => ?_)
      · have h0 : L.length = 0 := by have := beq_iff_eq.1 h33; omega
        have hf : ofS n ls = none := ofS_none hlk (by rw [hnx, if_pos h0])
        rw [hf]
        refine Tr.reg [4, 5] (by
            simp only [↓sxd, sxu, ↓zE, ↓exq, St.keep, Nat.reduceBEq, Nat.reduceLT]
            (repeat' (first | rfl | exact trivial | exact fun h => h | exact fun h => (by rw [h]; rfl) | apply And.intro | omega | exact Nat.le_of_ble_eq_true rfl))) ?_
        refine Tr.imp (Imp.fin (tm' := [(4, SI []), (5, B false)]) ?_) ?_
        · exact .cons rfl (TnS.dxd _) (.cons rfl (TnS.d _) trivial)
        refine Tr.ret ?_
        (refine ⟨.inr rfl, ?_⟩; first | rfl | exact ⟨rfl, rfl, trivial⟩ | exact ⟨rfl, rfl, rfl, trivial⟩ | (simp only [Res, ResL, ResOK, ↓sxd, sxu, ↓zE, ↓zC, zK, ↓exP, ↓exq, ↓zB, St.keep, ↓zH, ↓zL, ↓zJ, ↓zD, ↓zI, ↓zG, ↓zQ, ↓zA, Nat.reduceBEq, Nat.reduceAdd, Nat.reduceLT, Nat.reduceMul, Nat.reduceSub, Nat.reduceLeDiff, Nat.reduceEqDiff, Int.reduceLE, Int.reduceLT, Int.reduceToNat, reduceIte, implies_true, sxe, tysW41_91]; (repeat' (first | rfl | exact trivial | exact fun h => h | exact fun h => (by rw [h]; rfl) | apply And.intro | omega | exact Nat.le_of_ble_eq_true rfl))))
      · have h0 : ¬ L.length = 0 := fun hc => by rw [hc] at h33; cases h33
        rw [if_neg h0] at hnx
        refine Tr.skip ?_
        refine Tr.reg [1, 6, 8, 9] (by
            simp only [↓sxd, sxu, ↓zE, ↓exq, St.keep, Nat.reduceBEq, Nat.reduceLT]
            (repeat' (first | rfl | exact trivial | exact fun h => h | exact fun h => (by rw [h]; rfl) | apply And.intro | omega | exact Nat.le_of_ble_eq_true rfl))) ?_
        refine Tr.imp (st' := ⟨[(1, SL ls), (6, .slc 1 1 0 n n), (8, I k), (9, I 0)], [(1, .arr 1 (vI o)), (0, .arr 7 [cs c (SP c.same) (SP c.apart)])], 2, 95, [], 0⟩) (Imp.keepAll) (Tr.block (Tr.loopI (fun mm ss => ∃ (i : Nat) (o2 : List Int), (i ≤ L.length ∧ refOne L n k o i = some o2 ∧ o2.length = n) ∧ L.length - i = mm ∧ ss = ⟨[(1, SL ls), (6, .slc 1 1 0 n n), (8, I k), (9, I i)], [(1, .arr 1 (vI o2)), (0, .arr 7 [cs c (SP c.same) (SP c.apart)])], 2, 95, [], 0⟩) _ ⟨0, o, ?_, rfl, rfl⟩ ?_))
        · exact ⟨Nat.zero_le _, rfl, hol⟩
        rintro mm ss ⟨i, o2, hI, rfl, rfl⟩
        obtain ⟨hI, hone, ho2⟩ := hI
        refine Tr.seq ?_
        refine Tr.reg [1, 6, 8, 9, 40] (by
            simp only [↓sxd, sxu, ↓zE, ↓exq, ↓zB, St.keep, ↓zJ, ↓zD, Nat.reduceBEq, Nat.reduceLT, sxe, tysW41_91, hlk, hL]
            (repeat' (first | rfl | exact trivial | exact fun h => h | exact fun h => (by rw [h]; rfl) | apply And.intro | omega | exact Nat.le_of_ble_eq_true rfl))) ?_
        refine Tr.cond rfl (fun h40 => ?_) (fun h40 => ?_)
        · have hlt : i < L.length := by have := of_decide_eq_true h40; omega
          have hi1 : i - 1 < L.length := by omega
          have hst := refOne_step hone
          refine Tr.skip ?_
          refine Tr.seq ?_
          refine Tr.block ?_
          refine Tr.reg [1, 6, 8, 9, 10] (by
              simp only [↓sxd, sxu, ↓zE, ↓exq, St.keep, ↓zD, Nat.reduceBEq, Nat.reduceLT, sxe, tysW41_91, hlk, hL, hlt]
              (repeat' (first | rfl | exact trivial | exact fun h => h | exact fun h => (by rw [h]; rfl) | apply And.intro | omega | exact Nat.le_of_ble_eq_true rfl))) ?_
          refine Tr.seq ?_
          refine Tr.reg [1, 6, 8, 9, 10, 78] (by
              simp only [↓sxd, sxu, ↓zE, ↓exq, ↓zB, St.keep, ↓zJ, Nat.reduceBEq, Nat.reduceLT, tysW41_91, w0]
              (repeat ((with_reducible refine And.intro ?_ ?_); (focus (first | with_reducible rfl | trivial | exact fun h => h | exact fun h => (by rw [h]; rfl) | omega | assumption))))
              refine CallO.use (In_c _ _ _ _) ?_
              try simp only [↓sxd, sxu, ↓zE, ↓exq, ↓zL, Nat.reduceLT]
              iterate 2
                (repeat ((with_reducible refine And.intro ?_ ?_); (focus (first | with_reducible rfl | trivial | exact fun h => h | exact fun h => (by rw [h]; rfl) | omega | assumption))))
                refine GdO.mk _ (fun hg => by simp only [sxu, ↓exq, Nat.reduceBEq, hg]; (repeat' (first | rfl | exact trivial | exact fun h => h | exact fun h => (by rw [h]; rfl) | apply And.intro | omega | exact Nat.le_of_ble_eq_true rfl))) ?_
                simp only [↓sxd, sxu, ↓zE, Nat.reduceBEq, Nat.reduceLT]
              (repeat ((with_reducible refine And.intro ?_ ?_); (focus (first | with_reducible rfl | trivial | exact fun h => h | exact fun h => (by rw [h]; rfl) | omega | assumption))))
              refine GdO.mk (.ptr 1 (L.getD i 0).toNat 0) (fun hg => by
                have hg2 : (decide (L.getD i 0 ≥ 0) && decide (L.getD i 0 ≤ (n : Int) - 1)) = true := by simpa only [Bool.not_not] using hg
                rw [Bool.and_eq_true, decide_eq_true_eq, decide_eq_true_eq] at hg2
                have q1 : 0 ≤ L.getD i 0 := hg2.1
                have q2 : L.getD i 0 < (n : Int) := by omega
                simp only [↓sxd, sxu, ↓exq, Nat.reduceBEq, tysW41_91, hg]
                (repeat' (first | rfl | exact trivial | exact fun h => h | exact fun h => (by rw [h]; rfl) | apply And.intro | omega | exact Nat.le_of_ble_eq_true rfl))) ?_
              try simp only [↓sxd, sxu, ↓zE, Nat.reduceBEq, Nat.reduceLT]
              (repeat ((with_reducible refine And.intro ?_ ?_); (focus (first | with_reducible rfl | trivial | exact fun h => h | exact fun h => (by rw [h]; rfl) | omega | assumption))))
              refine GdO.mk (I (o2.getD (L.getD i 0).toNat 0)) (fun hg => by
                have hg2 : (decide (L.getD i 0 ≥ 0) && decide (L.getD i 0 ≤ (n : Int) - 1)) = true := by simpa only [Bool.not_not] using hg
                rw [Bool.and_eq_true, decide_eq_true_eq, decide_eq_true_eq] at hg2
                have q3 : (L.getD i 0).toNat < o2.length := by omega
                simp only [sxu, ↓exq, ↓zD, Nat.reduceLT, tysW41_91, hg, q3, vI_getD q3]
                (repeat' (first | rfl | exact trivial | exact fun h => h | exact fun h => (by rw [h]; rfl) | apply And.intro | omega | exact Nat.le_of_ble_eq_true rfl))) ?_
              try simp only [↓sxd, sxu, ↓zE, Nat.reduceBEq, Nat.reduceLT]
              iterate 10
                (repeat ((with_reducible refine And.intro ?_ ?_); (focus (first | with_reducible rfl | trivial | exact fun h => h | exact fun h => (by rw [h]; rfl) | omega | assumption))))
                refine GdO.mk _ (fun hg => by simp only [↓sxd, sxu, ↓exq, ↓zD, Nat.reduceBEq, Nat.reduceLT, sxe, tysW41_91, hlk, hL, hg]; (repeat' (first | rfl | exact trivial | exact fun h => h | exact fun h => (by rw [h]; rfl) | apply And.intro | omega | exact Nat.le_of_ble_eq_true rfl))) ?_
                simp only [↓sxd, sxu, ↓zE, ↓exq, ↓zH, Nat.reduceBEq, Nat.reduceLT]
              (repeat ((with_reducible refine And.intro ?_ ?_); (focus (first | with_reducible rfl | trivial | exact fun h => h | exact fun h => (by rw [h]; rfl) | omega | assumption))))
              refine GdO.mk (I ((i - 1 : Nat) : Int)) (fun hg => by
                have h0 : 0 < i := by
                  rw [Bool.and_eq_true, decide_eq_true_eq] at hg; omega
                have hw : IntKind.i64.wrap ((i : Int) - 1) = ((i - 1 : Nat) : Int) := by rw [wr (by omega) (by omega)]; omega
                simp only [↓sxd, sxu, ↓exq, hg, hw]
                (repeat' (first | rfl | exact trivial | exact fun h => h | exact fun h => (by rw [h]; rfl) | apply And.intro | omega | exact Nat.le_of_ble_eq_true rfl))) ?_
              try simp only [↓sxd, sxu, ↓zE, Nat.reduceBEq, Nat.reduceLT]
              iterate 3
                (repeat ((with_reducible refine And.intro ?_ ?_); (focus (first | with_reducible rfl | trivial | exact fun h => h | exact fun h => (by rw [h]; rfl) | omega | assumption))))
                refine GdO.mk _ (fun hg => by simp only [↓sxd, sxu, ↓exq, ↓zD, Nat.reduceBEq, Nat.reduceLT, sxe, tysW41_91, hi1, hg]; (repeat' (first | rfl | exact trivial | exact fun h => h | exact fun h => (by rw [h]; rfl) | apply And.intro | omega | exact Nat.le_of_ble_eq_true rfl))) ?_
                simp only [↓sxd, sxu, ↓zE, Nat.reduceBEq, Nat.reduceLT]
              (repeat ((with_reducible refine And.intro ?_ ?_); (focus (first | with_reducible rfl | trivial | exact fun h => h | exact fun h => (by rw [h]; rfl) | omega | assumption))))
              first | refine GdO.and (fun hg => by simp only [sxu, Nat.reduceBEq, pickArgs, hg]; (repeat' (first | rfl | exact trivial | exact fun h => h | exact fun h => (by rw [h]; rfl) | apply And.intro | omega | exact Nat.le_of_ble_eq_true rfl))) ?_ | refine GdO.mk _ (fun hg => by simp only [↓sxd, sxu, ↓zE, ↓zC, zK, ↓exP, ↓exq, ↓zB, St.keep, ↓zH, ↓zL, ↓zJ, ↓zD, ↓zI, ↓zG, ↓zQ, ↓zA, Nat.reduceBEq, Nat.reduceAdd, Nat.reduceLT, Nat.reduceMul, Nat.reduceSub, Nat.reduceLeDiff, Nat.reduceEqDiff, Int.reduceLE, Int.reduceLT, Int.reduceToNat, reduceIte, implies_true, sxe, tysW41_91, w0, hlk, hL, hi1, hlt, hg, if_true]; (repeat' (first | rfl | exact trivial | exact fun h => h | exact fun h => (by rw [h]; rfl) | apply And.intro | omega | exact Nat.le_of_ble_eq_true rfl))) ?_
              simp only [↓sxd, sxu, ↓zE, ↓exq, ↓zH, Nat.reduceBEq, Nat.reduceLT]
              (repeat' (first | rfl | exact trivial | exact fun h => h | exact fun h => (by rw [h]; rfl) | apply And.intro | omega | exact Nat.le_of_ble_eq_true rfl))) ?_
          refine Tr.cond rfl (fun h78 => ?_) (fun h78 => ?_)
          · have hbad : refOne L n k o (i + 1) = none := by
              rw [hst, if_pos]
              have hi0 : decide ((i : Int) > 0) = decide (0 < i) := decide_eq_decide.2 (by omega)
              rw [hi0] at h78
              exact h78
            have hno : refTo n ls (k + 1) = none := by
              have := refOne_none hbad (L.length - (i + 1))
              rw [show i + 1 + (L.length - (i + 1)) = L.length by omega] at this
              rw [hnx, this]
            have hf : ofS n ls = none := ofS_none hlk hno
            rw [hf]
            refine Tr.reg [4, 5] (by
                simp only [↓sxd, sxu, ↓zE, ↓exq, St.keep, Nat.reduceBEq, Nat.reduceLT]
                (repeat' (first | rfl | exact trivial | exact fun h => h | exact fun h => (by rw [h]; rfl) | apply And.intro | omega | exact Nat.le_of_ble_eq_true rfl))) ?_
            refine Tr.imp (Imp.fin (tm' := [(4, SI []), (5, B false)]) ?_) ?_
            · exact .cons rfl (TnS.dxd _) (.cons rfl (TnS.d _) trivial)
            refine Tr.ret ?_
            (refine ⟨.inr rfl, ?_⟩; first | rfl | exact ⟨rfl, rfl, trivial⟩ | exact ⟨rfl, rfl, rfl, trivial⟩ | (simp only [Res, ResL, ResOK, ↓sxd, sxu, ↓zE, ↓zC, zK, ↓exP, ↓exq, ↓zB, St.keep, ↓zH, ↓zL, ↓zJ, ↓zD, ↓zI, ↓zG, ↓zQ, ↓zA, Nat.reduceBEq, Nat.reduceAdd, Nat.reduceLT, Nat.reduceMul, Nat.reduceSub, Nat.reduceLeDiff, Nat.reduceEqDiff, Int.reduceLE, Int.reduceLT, Int.reduceToNat, reduceIte, implies_true, sxe, tysW41_91]; (repeat' (first | rfl | exact trivial | exact fun h => h | exact fun h => (by rw [h]; rfl) | apply And.intro | omega | exact Nat.le_of_ble_eq_true rfl))))
          · have hgood : refOne L n k o (i + 1) = some (o2.set (L.getD i 0).toNat k) := by
              rw [hst, if_neg]
              have hi0 : decide ((i : Int) > 0) = decide (0 < i) := decide_eq_decide.2 (by omega)
              rw [hi0] at h78
              rw [Bool.not_eq_true]
              exact h78
            have hxr : 0 ≤ L.getD i 0 ∧ L.getD i 0 ≤ (n : Int) - 1 := by
              simp only [Bool.or_eq_false_iff, Bool.not_eq_false', Bool.and_eq_true, decide_eq_true_eq] at h78
              exact h78.1.1
            obtain ⟨y, hy⟩ := Int.eq_ofNat_of_zero_le hxr.1
            have hyt : (L.getD i 0).toNat = y := by omega
            rw [hyt] at hgood
            have hyn : y < n := by omega
            have hyo : y < o2.length := by omega
            refine Tr.skip ?_
            refine Tr.reg1 [1, 6, 8, 9] (by
                simp only [↓sxd, sxu, ↓zE, ↓exq, St.keep, Nat.reduceBEq, Nat.reduceLT, Nat.reduceEqDiff, sxe, tysW41_91, hy, hyn, hyo, vI_getD hyo, vI_set]
                (repeat' (first | rfl | exact trivial | exact fun h => h | exact fun h => (by rw [h]; rfl) | apply And.intro | omega | exact Nat.le_of_ble_eq_true rfl))) ?_
            have w3 : IntKind.i64.wrap ((i : Int) + 1) = ((i + 1 : Nat) : Int) := by rw [wr (by omega) (by omega)]; rfl
            refine Tr.reg1 [1, 6, 8, 9] (by
                simp only [↓sxd, sxu, ↓zE, ↓exq, St.keep, Nat.reduceBEq, Nat.reduceLT, w3]
                (repeat' (first | rfl | exact trivial | exact fun h => h | exact fun h => (by rw [h]; rfl) | apply And.intro | omega | exact Nat.le_of_ble_eq_true rfl))) ?_
            exact ⟨_, _, by omega, Imp.keepAll, ⟨i + 1, o2.set y k, ⟨hlt, hgood, by rw [List.length_set]; exact ho2⟩, rfl, rfl⟩⟩
        · have hge : i = L.length := by have := of_decide_eq_false h40; omega
          subst hge
          rw [hone] at hnx
          refine Tr.exit ?_
          have w4 : IntKind.i64.wrap ((k : Int) + 1) = ((k + 1 : Nat) : Int) := by rw [wr (by omega) (by omega)]; rfl
          refine Tr.reg1 [1, 6, 8] (by
              simp only [↓sxd, sxu, ↓zE, ↓exq, St.keep, Nat.reduceBEq, Nat.reduceLT, w4]
              (repeat' (first | rfl | exact trivial | exact fun h => h | exact fun h => (by rw [h]; rfl) | apply And.intro | omega | exact Nat.le_of_ble_eq_true rfl))) ?_
          exact ⟨_, _, by omega, Imp.keepAll, ⟨k + 1, o2, ⟨hlk, hnx, ho2⟩, rfl, rfl⟩⟩
    · have hke : k = ls.length := by have := of_decide_eq_false h25; omega
      subst hke
      refine Tr.exit ?_
      refine Tr.seq ?_
      refine Tr.reg [6, 11] (by
          simp only [↓sxd, sxu, ↓zE, ↓exq, St.keep, Nat.reduceBEq, Nat.reduceLT]
          (repeat' (first | rfl | exact trivial | exact fun h => h | exact fun h => (by rw [h]; rfl) | apply And.intro | omega | exact Nat.le_of_ble_eq_true rfl))) ?_
      refine Tr.imp (st' := ⟨[(6, .slc 1 1 0 n n), (11, I 0)], [(1, .arr 1 (vI o)), (0, .arr 7 [cs c (SP c.same) (SP c.apart)])], 2, 95, [], 0⟩) (Imp.keepAll) (Tr.block (Tr.loopI (fun mm ss => ∃ (i : Nat), (i ≤ n ∧ ∀ j, j < i → 0 ≤ o.getD j 0) ∧ n - i = mm ∧ ss = ⟨[(6, .slc 1 1 0 n n), (11, I i)], [(1, .arr 1 (vI o)), (0, .arr 7 [cs c (SP c.same) (SP c.apart)])], 2, 95, [], 0⟩) _ ⟨0, ?_, rfl, rfl⟩ ?_))
      · exact ⟨Nat.zero_le _, fun j hj => absurd hj (Nat.not_lt_zero _)⟩
      rintro mm ss ⟨i, hI, rfl, rfl⟩
      obtain ⟨hI, hall⟩ := hI
      have hos : ofS n ls = if o.all (fun x => decide (0 ≤ x)) then some o else none := by unfold ofS; rw [hto]
      refine Tr.seq ?_
      refine Tr.reg [6, 11, 86] (by
          simp only [↓sxd, sxu, ↓zE, ↓exq, ↓zB, St.keep, ↓zJ, Nat.reduceBEq, Nat.reduceLT, sxe, tysW41_91]
          (repeat' (first | rfl | exact trivial | exact fun h => h | exact fun h => (by rw [h]; rfl) | apply And.intro | omega | exact Nat.le_of_ble_eq_true rfl))) ?_
      refine Tr.cond rfl (fun h86 => ?_) (fun h86 => ?_)
      · have hlt : i < n := by have := of_decide_eq_true h86; omega
        have hio : i < o.length := by omega
        refine Tr.skip ?_
        refine Tr.seq ?_
        refine Tr.block ?_
        refine Tr.reg [6, 11, 93] (by
            simp only [↓sxd, sxu, ↓zE, ↓exq, St.keep, ↓zD, Nat.reduceBEq, Nat.reduceLT, sxe, tysW41_91, hlt, hio, vI_getD hio]
            (repeat' (first | rfl | exact trivial | exact fun h => h | exact fun h => (by rw [h]; rfl) | apply And.intro | omega | exact Nat.le_of_ble_eq_true rfl))) ?_
        refine Tr.cond rfl (fun h93 => ?_) (fun h93 => ?_)
        · have hneg : o.getD i 0 < 0 := of_decide_eq_true h93
          have hf : ofS n ls = none := by
            rw [hos, if_neg]
            rw [List.all_eq_true]
            intro hc
            have := of_decide_eq_true (hc _ (getD_mem (d := 0) hio))
            omega
          rw [hf]
          refine Tr.reg [4, 5] (by
              simp only [↓sxd, sxu, ↓zE, ↓exq, St.keep, Nat.reduceBEq, Nat.reduceLT]
              (repeat' (first | rfl | exact trivial | exact fun h => h | exact fun h => (by rw [h]; rfl) | apply And.intro | omega | exact Nat.le_of_ble_eq_true rfl))) ?_
          refine Tr.imp (Imp.fin (tm' := [(4, SI []), (5, B false)]) ?_) ?_
          · exact .cons rfl (TnS.dxd _) (.cons rfl (TnS.d _) trivial)
          refine Tr.ret ?_
          (refine ⟨.inr rfl, ?_⟩; first | rfl | exact ⟨rfl, rfl, trivial⟩ | exact ⟨rfl, rfl, rfl, trivial⟩ | (simp only [Res, ResL, ResOK, ↓sxd, sxu, ↓zE, ↓zC, zK, ↓exP, ↓exq, ↓zB, St.keep, ↓zH, ↓zL, ↓zJ, ↓zD, ↓zI, ↓zG, ↓zQ, ↓zA, Nat.reduceBEq, Nat.reduceAdd, Nat.reduceLT, Nat.reduceMul, Nat.reduceSub, Nat.reduceLeDiff, Nat.reduceEqDiff, Int.reduceLE, Int.reduceLT, Int.reduceToNat, reduceIte, implies_true, sxe, tysW41_91]; (repeat' (first | rfl | exact trivial | exact fun h => h | exact fun h => (by rw [h]; rfl) | apply And.intro | omega | exact Nat.le_of_ble_eq_true rfl))))
        · have hnn : 0 ≤ o.getD i 0 := by have := of_decide_eq_false h93; omega
          refine Tr.skip ?_
          have w5 : IntKind.i64.wrap ((i : Int) + 1) = ((i + 1 : Nat) : Int) := by rw [wr (by omega) (by omega)]; rfl
          refine Tr.reg1 [6, 11] (by
              simp only [↓sxd, sxu, ↓zE, ↓exq, St.keep, Nat.reduceBEq, Nat.reduceLT, w5]
              (repeat' (first | rfl | exact trivial | exact fun h => h | exact fun h => (by rw [h]; rfl) | apply And.intro | omega | exact Nat.le_of_ble_eq_true rfl))) ?_
          exact ⟨_, _, by omega, Imp.keepAll, ⟨i + 1, ⟨hlt, fun j hj => by
            by_cases hji : j = i
            · subst hji; exact hnn
            · exact hall j (by omega)⟩, rfl, rfl⟩⟩
      · have hge : i = n := by have := of_decide_eq_false h86; omega
        have hf : ofS n ls = some o := by
          rw [hos, if_pos]
          exact allI_getD (p := fun x => decide (0 ≤ x)) fun j hj => decide_eq_true (hall j (by omega))
        rw [hf]
        refine Tr.exit ?_
        refine Tr.reg [4, 5] (by
            simp only [↓sxd, sxu, ↓zE, ↓exq, St.keep, Nat.reduceBEq, Nat.reduceLT]
            (repeat' (first | rfl | exact trivial | exact fun h => h | exact fun h => (by rw [h]; rfl) | apply And.intro | omega | exact Nat.le_of_ble_eq_true rfl))) ?_
        refine Tr.imp (Imp.fin (tm' := [(4, SI o), (5, B true)]) ?_) ?_
        · exact .cons rfl (TnS.frz0 (es := vI o) rfl (by simp) (by simp) (by rw [vI_len]; exact hol) (vI_fz _)) (.cons rfl (TnS.d _) trivial)
        refine Tr.ret ?_
        (refine ⟨.inr rfl, ?_⟩; first | rfl | exact ⟨rfl, rfl, trivial⟩ | exact ⟨rfl, rfl, rfl, trivial⟩ | (simp only [Res, ResL, ResOK, ↓sxd, sxu, ↓zE, ↓zC, zK, ↓exP, ↓exq, ↓zB, St.keep, ↓zH, ↓zL, ↓zJ, ↓zD, ↓zI, ↓zG, ↓zQ, ↓zA, Nat.reduceBEq, Nat.reduceAdd, Nat.reduceLT, Nat.reduceMul, Nat.reduceSub, Nat.reduceLeDiff, Nat.reduceEqDiff, Int.reduceLE, Int.reduceLT, Int.reduceToNat, reduceIte, implies_true, sxe, tysW41_91]; (repeat' (first | rfl | exact trivial | exact fun h => h | exact fun h => (by rw [h]; rfl) | apply And.intro | omega | exact Nat.le_of_ble_eq_true rfl))))
def Census.isAsg (c : Census) (ls : List (List Int)) : Bool := match ofS c.entries.length ls with
  | none => false
  | some o => c.allowB (o.map Int.toNat) && c.sumsB ls.length
theorem refOne_len {l : List Int} {n k : Nat} {o0 : List Int} : ∀ (i : Nat) (o : List Int), refOne l n k o0 i = some o → o.length = o0.length
  | 0, o, h => by simp only [refOne, Option.some.injEq] at h; rw [h]
  | i + 1, o, h => by
    rw [refOne] at h
    split at h
    · cases h
    · rename_i o1 h1
      split at h
      · cases h
      · cases h
        rw [List.length_set, refOne_len i o1 h1]
theorem refTo_len {n : Nat} {ls : List (List Int)} : ∀ (k : Nat) (o : List Int), refTo n ls k = some o → o.length = n
  | 0, o, h => by simp only [refTo, Option.some.injEq] at h; rw [← h, List.length_replicate]
  | k + 1, o, h => by
    rw [refTo] at h
    split at h
    · cases h
    · rename_i o1 h1
      split at h
      · cases h
      · rw [refOne_len _ _ h, refTo_len k o1 h1]
theorem ofS_some {n : Nat} {ls : List (List Int)} {o : List Int} (h : ofS n ls = some o) : refTo n ls ls.length = some o ∧ o.length = n ∧ ∀ x ∈ o, 0 ≤ x := by
  unfold ofS at h
  split at h
  · cases h
  · rename_i o1 h1
    split at h
    · rename_i h2
      cases h
      exact ⟨h1, refTo_len _ _ h1, fun x hx => of_decide_eq_true (List.all_eq_true.1 h2 x hx)⟩
    · cases h
theorem nats_toNat {o : List Int} (h : ∀ x ∈ o, 0 ≤ x) : nats (o.map Int.toNat) = o := by
  unfold nats
  rw [List.map_map]
  conv => rhs; rw [← List.map_id o]
  exact List.map_congr_left fun x hx => by have := h x hx; show ((x.toNat : Nat) : Int) = x; omega
abbrev tysW41_51 := And.intro ty.sz0 <| And.intro ty.agg0 <| And.intro ty.elem0 <| And.intro ty.sz3 <| And.intro ty.agg3 <| And.intro ty.elem3 <| And.intro ty.zero3 <| And.intro ty.und3 <| And.intro ty.sz4 <| And.intro ty.agg4 <| And.intro ty.elem4 <| And.intro ty.zero4 <| And.intro ty.und4 <| And.intro ty.sz27 <| And.intro ty.agg27 <| And.intro ty.fld27_0 <| And.intro ty.fld27_1 <| And.intro ty.fld27_2 <| And.intro ty.fld27_3 <| And.intro ty.fld27_4 <| And.intro ty.elem27 <| And.intro ty.zero27 <| And.intro ty.pl27 <| And.intro ty.sz39 <| And.intro ty.agg39 <| And.intro ty.elem39 <| And.intro ty.by39 <| And.intro ty.ez39 <| And.intro ty.zero39 <| And.intro ty.und39 <| And.intro ty.sz43 <| And.intro ty.agg43 <| And.intro ty.elem43 <| And.intro ty.by43 <| And.intro ty.ez43 <| And.intro ty.zero43 <| And.intro ty.und43 <| And.intro ty.sz148 <| And.intro ty.agg148 <| ty.elem148
set_option maxHeartbeats 4000000 in
theorem IsAssignment_c (c : Census) (h : Fine c) (ls : List (List Int)) (hl : ls.length ≤ 13) (hls : ∀ l ∈ ls, l.length ≤ 13) : CallP Tryd.prog G0 51 [c.s, SL ls] (B (c.isAsg ls)) := by
  have h10 := h.n10
  have hO := Of_c c (by omega) ls hl hls
  obtain ⟨V, bb, hV, hval⟩ : ∃ (V : List Nat) (bb : Bool), (bb = true → (ofS c.entries.length ls).getD [] = nats V ∧ V.length = c.entries.length) ∧ (ofS c.entries.length ls).isSome = bb ∧ c.isAsg ls = (bb && c.allowB V && c.sumsB ls.length) := by
    cases ho : ofS c.entries.length ls with
    | none => exact ⟨[], false, fun h => (by cases h), rfl, by unfold Census.isAsg; rw [ho]; rfl⟩
    | some o =>
      obtain ⟨_, o2, o3⟩ := ofS_some ho
      refine ⟨o.map Int.toNat, true, fun _ => ⟨(nats_toNat o3).symm, by rw [List.length_map, o2]⟩, rfl, ?_⟩
      unfold Census.isAsg; rw [ho]; rfl
  obtain ⟨hb, hval⟩ := hval
  rw [hb] at hO
  generalize (ofS c.entries.length ls).getD [] = O at hO hV
  rw [hval]
  refine CallP.body 25 [.tmp 4] Tryd.func51 (by kernel_rfl) rfl rfl rfl (by repeat' (first | exact Pure.d _ | exact Pure.dx _ | exact Pure.dp _ | exact fa_nil | refine fa_cons ?_ ?_ | refine Pure.agg ?_ | refine Pure.tup ?_ | refine Pure.clo ?_ ?_ | refine Pure.fp ?_ | exact Pure.mapd _ | assumption)) (by repeat' (first | exact Pure.d _ | exact Pure.dx _ | exact Pure.dp _ | exact fa_nil | refine fa_cons ?_ ?_ | refine Pure.agg ?_ | refine Pure.tup ?_ | refine Pure.clo ?_ ?_ | refine Pure.fp ?_ | exact Pure.mapd _ | assumption)) ?_
  refine Tr.reg [1, 2] (by
      simp only [↓sxd, sxu, ↓zE, ↓exq, St.keep, ↓zI, Nat.reduceBEq, Nat.reduceAdd, Nat.reduceLT, Nat.reduceEqDiff]
      (repeat' (first | rfl | exact trivial | exact fun h => h | exact fun h => (by rw [h]; rfl) | apply And.intro | omega | exact Nat.le_of_ble_eq_true rfl))) ?_
  refine Tr.reg [1, 2, 5, 6] (by
      simp only [↓sxd, sxu, ↓zE, ↓exq, St.keep, ↓zD, Nat.reduceBEq, Nat.reduceAdd, Nat.reduceLT, tysW41_51]
      (repeat ((with_reducible refine And.intro ?_ ?_); (focus (first | with_reducible rfl | trivial | exact fun h => h | exact fun h => (by rw [h]; rfl) | omega | assumption))))
      refine CallO.use (hO) ?_
      try simp only [↓sxd, sxu, ↓zE, ↓exq, ↓zN, Nat.reduceBEq, Nat.reduceAdd, Nat.reduceLT]
      (repeat' (first | rfl | exact trivial | exact fun h => h | exact fun h => (by rw [h]; rfl) | apply And.intro | omega | exact Nat.le_of_ble_eq_true rfl))) ?_
  refine Tr.reg [4] (by
      simp only [↓sxd, sxu, ↓zE, ↓exq, St.keep, Nat.reduceBEq, Nat.reduceLT]
      iterate 2
        (repeat ((with_reducible refine And.intro ?_ ?_); (focus (first | with_reducible rfl | trivial | exact fun h => h | exact fun h => (by rw [h]; rfl) | omega | assumption))))
        refine GdO.mk _ (fun hg => by simp only [sxu, ↓exq, ↓zD, Nat.reduceBEq, Nat.reduceAdd, Nat.reduceLT, tysW41_51, hg]; (repeat' (first | rfl | exact trivial | exact fun h => h | exact fun h => (by rw [h]; rfl) | apply And.intro | omega | exact Nat.le_of_ble_eq_true rfl))) ?_
        simp only [↓sxd, sxu, ↓zE, Nat.reduceBEq, Nat.reduceLT]
      (repeat ((with_reducible refine And.intro ?_ ?_); (focus (first | with_reducible rfl | trivial | exact fun h => h | exact fun h => (by rw [h]; rfl) | omega | assumption))))
      refine GdO.mk (B (c.allowB V)) (fun hg => by
        obtain ⟨v1, v2⟩ := hV hg
        simp only [sxu, ↓exq, ↓zB, Nat.reduceBEq, hg, v1]
        (repeat ((with_reducible refine And.intro ?_ ?_); (focus (first | with_reducible rfl | trivial | exact fun h => h | exact fun h => (by rw [h]; rfl) | omega | assumption))))
        exact CallP.use (Allowed_c c h V v2) ⟨rfl, rfl, rfl⟩) ?_
      try simp only [↓sxd, sxu, ↓zE, ↓exq, ↓zH, Nat.reduceBEq, Nat.reduceLT]
      iterate 3
        (repeat ((with_reducible refine And.intro ?_ ?_); (focus (first | with_reducible rfl | trivial | exact fun h => h | exact fun h => (by rw [h]; rfl) | omega | assumption))))
        refine GdO.mk _ (fun hg => by simp only [sxu, ↓exq, ↓zB, ↓zJ, ↓zD, Nat.reduceBEq, Nat.reduceAdd, Nat.reduceLT, sxe, tysW41_51, hg]; (repeat' (first | rfl | exact trivial | exact fun h => h | exact fun h => (by rw [h]; rfl) | apply And.intro | omega | exact Nat.le_of_ble_eq_true rfl))) ?_
        simp only [↓sxd, sxu, ↓zE, Nat.reduceBEq, Nat.reduceLT]
      (repeat ((with_reducible refine And.intro ?_ ?_); (focus (first | with_reducible rfl | trivial | exact fun h => h | exact fun h => (by rw [h]; rfl) | omega | assumption))))
      refine GdO.mk (B (c.sumsB ls.length)) (fun hg => by
        simp only [sxu, ↓exq, ↓zB, Nat.reduceBEq, hg]
        (repeat ((with_reducible refine And.intro ?_ ?_); (focus (first | with_reducible rfl | trivial | exact fun h => h | exact fun h => (by rw [h]; rfl) | omega | assumption))))
        exact CallP.use (Sums_c c h.lims ls.length (by omega) (by omega)) ⟨rfl, rfl, rfl⟩) ?_
      try simp only [↓sxd, sxu, ↓zE, ↓exq, ↓zH, Nat.reduceBEq, Nat.reduceLT]
      (repeat' (first | rfl | exact trivial | exact fun h => h | exact fun h => (by rw [h]; rfl) | apply And.intro | omega | exact Nat.le_of_ble_eq_true rfl))) ?_
  refine Tr.ret ?_
  (refine ⟨.inr rfl, ?_⟩; first | rfl | exact ⟨rfl, rfl, trivial⟩ | exact ⟨rfl, rfl, rfl, trivial⟩ | (simp only [Res, ResL, ResOK, ↓sxd, sxu, ↓zE, ↓zC, zK, ↓exP, ↓exq, ↓zB, St.keep, ↓zH, ↓zL, ↓zJ, ↓zD, ↓zN, ↓zI, Nat.reduceBEq, Nat.reduceAdd, Nat.reduceLT, Nat.reduceMul, Nat.reduceSub, Nat.reduceLeDiff, Nat.reduceEqDiff, Int.reduceLE, Int.reduceLT, Int.reduceToNat, reduceIte, implies_true, sxe, tysW41_51]; (repeat' (first | rfl | exact trivial | exact fun h => h | exact fun h => (by rw [h]; rfl) | apply And.intro | omega | exact Nat.le_of_ble_eq_true rfl))))
end Go.Proofs.YtcnkbdfkjhlbiaaDoor
namespace Go.Proofs.YtcnkbdfkjhlbiaaDoor
set_option maxRecDepth 8000
structure OneRel (n k : Nat) (o0 : List Int) (own s2 : Nat) (o2 : List Int) : Prop where
  len : o2.length = n
  seen : ∀ e, e < n → (s2.testBit e = true ↔ 0 ≤ o2.getD e 0)
  own : ∀ e, e < n → (own.testBit e = true ↔ o2.getD e 0 = (k : Int))
  rest : ∀ e, e < n → o2.getD e 0 ≠ (k : Int) → o2.getD e 0 = o0.getD e 0
  fresh : ∀ e, e < n → o2.getD e 0 = (k : Int) → o0.getD e 0 < 0
theorem or_pow (a x e : Nat) : (a ||| 2 ^ x).testBit e = true ↔ a.testBit e = true ∨ e = x := by
  rw [Nat.testBit_or, Bool.or_eq_true, Nat.testBit_two_pow, decide_eq_true_eq]
  exact or_congr_right ⟨Eq.symm, Eq.symm⟩
theorem one_law {n k sn : Nat} {l o0 : List Int} (h0 : o0.length = n) (hs : ∀ e, e < n → (sn.testBit e = true ↔ 0 ≤ o0.getD e 0)) (hk : ∀ e, e < n → o0.getD e 0 < (k : Int)) :
    ∀ i, (asgOne n l sn i = none ∧ refOne l n k o0 i = none) ∨ ∃ own s2 o2, asgOne n l sn i = some (own, s2) ∧ refOne l n k o0 i = some o2 ∧ OneRel n k o0 own s2 o2 ∧ (0 < i → own ≠ 0)
  | 0 => .inr ⟨0, sn, o0, rfl, rfl, ⟨h0, hs, fun e he => by
      rw [Nat.zero_testBit]
      exact ⟨fun h => (by cases h), fun h => by have := hk e he; omega⟩, fun _ _ _ => rfl, fun e he h => by have := hk e he; omega⟩, fun h => absurd h (Nat.lt_irrefl 0)⟩
  | i + 1 => by
    rcases one_law h0 hs hk i with ⟨a, b⟩ | ⟨own, s2, o2, a, b, hr, _⟩
    · exact .inl ⟨by rw [asgOne, a], by rw [refOne, b]⟩
    · rw [asgOne_step a, refOne_step b]
      obtain ⟨x, hx⟩ : ∃ x, x = l.getD i 0 := ⟨_, rfl⟩
      rw [← hx]
      have hcond : (!(within x 0 (n - 1)) || s2.testBit x.toNat || (decide (0 < i) && decide (x ≤ l.getD (i - 1) 0))) = (!(within x 0 (n - 1)) || decide (o2.getD x.toNat 0 ≥ 0) || (decide (0 < i) && decide (x ≤ l.getD (i - 1) 0))) := by
        cases hw : within x 0 (n - 1) with
        | false => rfl
        | true =>
          have hxn : x.toNat < n := by
            simp only [within, Bool.and_eq_true, decide_eq_true_eq] at hw; omega
          have : s2.testBit x.toNat = decide (o2.getD x.toNat 0 ≥ 0) := by
            rw [Bool.eq_iff_iff, hr.seen _ hxn, decide_eq_true_eq]
          rw [this]
      rw [hcond]
      cases hc : (!(within x 0 (n - 1)) || decide (o2.getD x.toNat 0 ≥ 0) || (decide (0 < i) && decide (x ≤ l.getD (i - 1) 0))) with
      | true => exact .inl ⟨by simp, by simp⟩
      | false =>
        right
        have hxn : x.toNat < n := by
          simp only [Bool.or_eq_false_iff, Bool.not_eq_false', within, Bool.and_eq_true, decide_eq_true_eq] at hc; omega
        have hx0 : o2.getD x.toNat 0 < 0 := by
          simp only [Bool.or_eq_false_iff, decide_eq_false_iff_not] at hc; omega
        refine ⟨own ||| 2 ^ x.toNat, s2 ||| 2 ^ x.toNat, o2.set x.toNat k, by simp, by simp, ⟨by rw [List.length_set]; exact hr.len, fun e he => ?_, fun e he => ?_, fun e he hne => ?_, fun e he heq => ?_⟩, fun _ hz => ?_⟩
        · rw [or_pow, hr.seen e he, setI_get, hr.len]
          by_cases hex : e = x.toNat
          · rw [if_pos ⟨hex, hxn⟩]
            exact ⟨fun _ => Int.natCast_nonneg _, fun _ => .inr hex⟩
          · rw [if_neg (fun hc => hex hc.1)]
            exact ⟨fun h => h.resolve_right hex, .inl⟩
        · rw [or_pow, hr.own e he, setI_get, hr.len]
          by_cases hex : e = x.toNat
          · rw [if_pos ⟨hex, hxn⟩]
            exact ⟨fun _ => rfl, fun _ => .inr hex⟩
          · rw [if_neg (fun hc => hex hc.1)]
            exact ⟨fun h => h.resolve_right hex, .inl⟩
        · rw [setI_get, hr.len] at hne ⊢
          by_cases hex : e = x.toNat
          · rw [if_pos ⟨hex, hxn⟩] at hne; exact absurd rfl hne
          · rw [if_neg (fun hc => hex hc.1)] at hne ⊢
            exact hr.rest e he hne
        · rw [setI_get, hr.len] at heq
          by_cases hex : e = x.toNat
          · subst hex
            rw [← hr.rest _ hxn (by omega)]; exact hx0
          · rw [if_neg (fun hc => hex hc.1)] at heq
            exact hr.fresh e he heq
        · have := (or_pow own x.toNat x.toNat).2 (.inr rfl)
          rw [hz, Nat.zero_testBit] at this; cases this
def bm (o : List Int) (n j : Nat) : Nat := mask (fun e => o.getD e 0 == (j : Int)) n
theorem bm_test {o : List Int} {n j e : Nat} : (bm o n j).testBit e = true ↔ e < n ∧ o.getD e 0 = (j : Int) := by
  unfold bm
  rw [mask_test, Bool.and_eq_true, decide_eq_true_eq, beq_iff_eq]
theorem bm_lt (o : List Int) (n j : Nat) : bm o n j < 2 ^ n := Nat.lt_pow_two_of_testBit _ fun e he => by
  rw [← Bool.not_eq_true, bm_test]; omega
def goodB (c : Census) (s : Nat) : Prop := c.fitsSet s = true ∧ c.keeps s = true
theorem to_law {c : Census} {n : Nat} (hn : c.entries.length = n) {ls : List (List Int)} : ∀ k,
    (refTo n ls k = none ∧ c.asgTo ls k = none) ∨ ∃ o, refTo n ls k = some o ∧ o.length = n ∧ (∀ e, e < n → o.getD e 0 < (k : Int)) ∧
      (((∀ j, j < k → goodB c (bm o n j)) ∧ ∃ sn, c.asgTo ls k = some sn ∧ sn < 2 ^ n ∧ ∀ e, e < n → (sn.testBit e = true ↔ 0 ≤ o.getD e 0)) ∨ ((¬ ∀ j, j < k → goodB c (bm o n j)) ∧ c.asgTo ls k = none))
  | 0 => .inr ⟨List.replicate n (-1), rfl, List.length_replicate, fun e he => by simp [List.getD_eq_getElem?_getD, he], .inl ⟨fun j hj => absurd hj (Nat.not_lt_zero _), 0, rfl, Nat.two_pow_pos n, fun e he => by
      rw [Nat.zero_testBit]
      simp [List.getD_eq_getElem?_getD, he]⟩⟩
  | k + 1 => by
    rcases to_law hn (ls := ls) k with ⟨a, b⟩ | ⟨o, a, hol, hlt, hcase⟩
    · exact .inl ⟨by rw [refTo, a], by rw [Census.asgTo, b]⟩
    · have hR : refTo n ls (k + 1) = if (ls.getD k []).length = 0 then none else refOne (ls.getD k []) n k o (ls.getD k []).length := by rw [refTo, a]
      have hA : c.asgTo ls (k + 1) = match c.asgTo ls k with | none => none | some sn => match asgOne c.entries.length (ls.getD k []) sn (ls.getD k []).length with | none => none | some x => if x.1 = 0 ∨ c.fitsSet x.1 = false ∨ c.keeps x.1 = false then none else some x.2 := by rw [Census.asgTo] <;> rfl
      rw [hn] at hA
      generalize ls.getD k [] = L at hR hA
      obtain ⟨sn, hs, hrel, hb⟩ : ∃ sn, sn < 2 ^ n ∧ (∀ e, e < n → (sn.testBit e = true ↔ 0 ≤ o.getD e 0)) ∧ (((∀ j, j < k → goodB c (bm o n j)) ∧ c.asgTo ls k = some sn) ∨ ((¬ ∀ j, j < k → goodB c (bm o n j)) ∧ c.asgTo ls k = none)) := by
        rcases hcase with ⟨g, sn, b, h1, h2⟩ | ⟨g, b⟩
        · exact ⟨sn, h1, h2, .inl ⟨g, b⟩⟩
        · refine ⟨mask (fun e => decide (0 ≤ o.getD e 0)) n, Nat.lt_pow_two_of_testBit _ fun e he => ?_, fun e he => ?_, .inr ⟨g, b⟩⟩
          · rw [mask_test, decide_eq_false (by omega)]; rfl
          · rw [mask_test, decide_eq_true he, Bool.true_and, decide_eq_true_eq]
      by_cases hL0 : L.length = 0
      · left
        rw [hR, if_pos hL0]
        refine ⟨rfl, ?_⟩
        rw [hA, hL0]
        rcases hb with ⟨_, b⟩ | ⟨_, b⟩
        · rw [b]
          show (if (0 : Nat) = 0 ∨ _ then none else _) = none
          rw [if_pos (.inl rfl)]
        · rw [b]
      · rw [if_neg hL0] at hR
        rcases one_law (l := L) hol hrel hlt L.length with ⟨a1, a2⟩ | ⟨own, s2, o2, a1, a2, hr, hne⟩
        · left
          rw [hR, a2]
          refine ⟨rfl, ?_⟩
          rcases hb with ⟨_, b⟩ | ⟨_, b⟩
          · rw [hA, b]
            dsimp only
            rw [a1]
          · rw [hA, b]
        · right
          have hlts := asgOne_lt hs _ _ a1
          have hown : own = bm o2 n k := by
            refine Nat.eq_of_testBit_eq fun e => ?_
            rw [Bool.eq_iff_iff, bm_test]
            constructor
            · intro ht
              have he := testBit_lt ht hlts.1
              exact ⟨he, (hr.own e he).1 ht⟩
            · rintro ⟨he, h⟩; exact (hr.own e he).2 h
          have hbm : ∀ j, j < k → bm o2 n j = bm o n j := fun j hj => by
            refine Nat.eq_of_testBit_eq fun e => ?_
            rw [Bool.eq_iff_iff, bm_test, bm_test]
            refine and_congr_right fun he => ?_
            by_cases hek : o2.getD e 0 = (k : Int)
            · have := hr.fresh e he hek
              constructor <;> intro h <;> omega
            · rw [hr.rest e he hek]
          have hG : (∀ j, j < k + 1 → goodB c (bm o2 n j)) ↔ (∀ j, j < k → goodB c (bm o n j)) ∧ goodB c own := by
            rw [hown]
            constructor
            · intro h
              exact ⟨fun j hj => by rw [← hbm j hj]; exact h j (by omega), h k (by omega)⟩
            · rintro ⟨h1, h2⟩ j hj
              by_cases hjk : j = k
              · subst hjk; exact h2
              · rw [hbm j (by omega)]; exact h1 j (by omega)
          refine ⟨o2, by rw [hR, a2], hr.len, fun e he => ?_, ?_⟩
          · by_cases hek : o2.getD e 0 = (k : Int)
            · omega
            · rw [hr.rest e he hek]; have := hlt e he; omega
          · rw [hG, hA]
            rcases hb with ⟨g, b⟩ | ⟨g, b⟩
            · rw [b]
              dsimp only
              rw [a1]
              dsimp only
              by_cases hgo : goodB c own
              · left
                refine ⟨⟨g, hgo⟩, s2, if_neg ?_, hlts.2, hr.seen⟩
                rintro (h | h | h)
                · exact hne (by omega) h
                · rw [hgo.1] at h; cases h
                · rw [hgo.2] at h; cases h
              · right
                refine ⟨fun h => hgo h.2, if_pos ?_⟩
                unfold goodB at hgo
                cases h1 : c.fitsSet own with
                | false => exact .inr (.inl rfl)
                | true =>
                  cases h2 : c.keeps own with
                  | false => exact .inr (.inr rfl)
                  | true => exact absurd ⟨h1, h2⟩ hgo
            · rw [b]
              exact .inr ⟨fun h => g h.1, rfl⟩
theorem elems_full {n s : Nat} (hn : n ≤ 10) (hs : s < 2 ^ n) : (elems s).length = n ↔ ∀ e, e < n → s.testBit e = true := by
  have hnd : (elems s).Nodup := (elems_sorted s).imp fun h => Nat.ne_of_lt h
  have hsub : elems s ⊆ List.range n := fun x hx => List.mem_range.2 (elems_lt hx hs)
  have hle := hnd.length_le_of_subset hsub
  rw [List.length_range] at hle
  constructor
  · intro h e he
    by_cases ht : s.testBit e = true
    · exact ht
    · exfalso
      have hsub2 : e :: elems s ⊆ List.range n := fun x hx => by
        rcases List.mem_cons.1 hx with rfl | hx
        · exact List.mem_range.2 he
        · exact hsub hx
      have hnd2 : (e :: elems s).Nodup := List.nodup_cons.2 ⟨fun hc => ht (mem_elems.1 hc).2, hnd⟩
      have := hnd2.length_le_of_subset hsub2
      rw [List.length_range, List.length_cons] at this
      omega
  · intro h
    have hsub2 : List.range n ⊆ elems s := fun x hx => by
      rw [List.mem_range] at hx
      exact mem_elems.2 ⟨by omega, h x hx⟩
    have := List.nodup_range.length_le_of_subset hsub2
    rw [List.length_range] at this
    omega
theorem allow_good {c : Census} (h : Fine c) {n m : Nat} (hn : c.entries.length = n) {o : List Int} (hol : o.length = n) (hlt : ∀ e, e < n → o.getD e 0 < (m : Int)) (h0 : ∀ e, e < n → 0 ≤ o.getD e 0) :
    c.allowB (o.map Int.toNat) = true ↔ ∀ j, j < m → goodB c (bm o n j) := by
  have hfn : ∀ e, e < n → ((fn (o.map Int.toNat) e : Nat) : Int) = o.getD e 0 := fun e he => by
    have := h0 e he
    have e1 : (o.map Int.toNat).getD e 0 = (o.getD e 0).toNat := by simp [List.getD_eq_getElem?_getD, hol ▸ he]
    show (((o.map Int.toNat).getD e 0 : Nat) : Int) = _
    rw [e1]; omega
  have hpr : ∀ p, c.pair p = true → p.fst.toNat < n ∧ p.snd.toNat < n := fun p hp => by have := pair_nat hp; rw [hn] at this; exact this
  rw [allowB_iff (by rw [List.length_map, hol, hn])]
  have hfs : ∀ j, c.fitsSet (bm o n j) = true ↔ _ := fun j => fitsSet_iff h.pairs h.n10 (s := bm o n j) (by rw [hn]; exact bm_lt o n j)
  have hks : ∀ j, c.keeps (bm o n j) = true ↔ ∀ p ∈ c.same, ((bm o n j).testBit p.fst.toNat = true ↔ (bm o n j).testBit p.snd.toNat = true) := fun j => by
    unfold Census.keeps
    rw [List.all_eq_true]
    refine forall_congr' fun p => forall_congr' fun _ => ?_
    rw [beq_iff_eq, Bool.eq_iff_iff]
  constructor
  · intro ha j hj
    refine ⟨(hfs j).2 ⟨fun i k hi hk hik => ?_, fun p hp hb => ?_⟩, (hks j).2 fun p hp => ?_⟩
    · obtain ⟨i1, i2⟩ := bm_test.1 hi
      obtain ⟨k1, k2⟩ := bm_test.1 hk
      have a1 := hfn i i1
      have a2 := hfn k k1
      exact ha.fits i k (by omega) (by omega) hik (by omega)
    · obtain ⟨i1, i2⟩ := bm_test.1 hb.1
      obtain ⟨k1, k2⟩ := bm_test.1 hb.2
      have a1 := hfn _ i1
      have a2 := hfn _ k1
      exact ha.apart p hp (by omega)
    · obtain ⟨q1, q2⟩ := hpr p (h.ps p hp)
      have a1 := hfn _ q1
      have a2 := hfn _ q2
      have a3 := ha.same p hp
      rw [bm_test, bm_test]
      constructor
      · rintro ⟨_, e⟩; exact ⟨q2, by omega⟩
      · rintro ⟨_, e⟩; exact ⟨q1, by omega⟩
  · intro hg
    have hat : ∀ e, e < n → ∃ j, j < m ∧ o.getD e 0 = (j : Int) := fun e he => ⟨(o.getD e 0).toNat, by have := hlt e he; have := h0 e he; omega, by have := h0 e he; omega⟩
    refine ⟨fun i k hi hk hik he => ?_, fun p hp => ?_, fun p hp he => ?_⟩
    · rw [hn] at hi hk
      obtain ⟨j, hj, hj2⟩ := hat i hi
      have a1 := hfn i hi
      have a2 := hfn k hk
      exact ((hfs j).1 (hg j hj).1).1 i k (bm_test.2 ⟨hi, hj2⟩) (bm_test.2 ⟨hk, by omega⟩) hik
    · obtain ⟨q1, q2⟩ := hpr p (h.ps p hp)
      obtain ⟨j, hj, hj2⟩ := hat _ q1
      have := ((hks j).1 (hg j hj).2 p hp).1 (bm_test.2 ⟨q1, hj2⟩)
      have a1 := hfn _ q1
      have a2 := hfn _ q2
      have a3 := (bm_test.1 this).2
      omega
    · obtain ⟨q1, q2⟩ := hpr p (h.pa p hp)
      obtain ⟨j, hj, hj2⟩ := hat _ q1
      have a1 := hfn _ q1
      have a2 := hfn _ q2
      exact ((hfs j).1 (hg j hj).1).2 p hp ⟨bm_test.2 ⟨q1, hj2⟩, bm_test.2 ⟨q2, by omega⟩⟩
theorem asg_law {c : Census} (h : Fine c) (ls : List (List Int)) : c.asg ls = c.isAsg ls := by
  have hk := fine_iff.2 h
  have hw : within (ls.length : Int) c.limits.lo c.limits.hi = c.sumsB ls.length := by rw [limits_eq h.lims]; rfl
  unfold Census.asg Census.isAsg ofS
  rw [if_pos hk]
  rcases to_law (c := c) rfl (ls := ls) ls.length with ⟨a, b⟩ | ⟨o, a, hol, hlt, hcase⟩
  · rw [a, b]
  · rw [a]
    dsimp only
    by_cases hall : o.all (fun x => decide (0 ≤ x)) = true
    · rw [if_pos hall]
      have h0 : ∀ e, e < c.entries.length → 0 ≤ o.getD e 0 := fun e he => of_decide_eq_true (List.all_eq_true.1 hall _ (getD_mem (by omega)))
      have hag := allow_good h rfl hol hlt h0
      rcases hcase with ⟨hg, sn, b, hs, hrel⟩ | ⟨hg, b⟩
      · rw [b]
        have hfull := (elems_full h.n10 hs).2 fun e he => (hrel e he).2 (h0 e he)
        show (decide ((elems sn).length = c.entries.length) && within (ls.length : Int) c.limits.lo c.limits.hi) = (c.allowB (o.map Int.toNat) && c.sumsB ls.length)
        rw [decide_eq_true hfull, hw, hag.2 hg]
      · rw [b]
        show false = (c.allowB (o.map Int.toNat) && c.sumsB ls.length)
        have : c.allowB (o.map Int.toNat) = false := by rw [← Bool.not_eq_true, hag]; exact hg
        rw [this]; rfl
    · rw [if_neg hall]
      rcases hcase with ⟨_, sn, b, hs, hrel⟩ | ⟨_, b⟩
      · rw [b]
        show (decide ((elems sn).length = c.entries.length) && within (ls.length : Int) c.limits.lo c.limits.hi) = false
        have hne : ¬ (elems sn).length = c.entries.length := fun hc => hall (by
          refine allI_getD (p := fun x => decide (0 ≤ x)) fun e he => decide_eq_true ?_
          exact (hrel e (by omega)).1 ((elems_full h.n10 hs).1 hc e (by omega)))
        rw [decide_eq_false hne]; rfl
      · rw [b]
end Go.Proofs.YtcnkbdfkjhlbiaaDoor
namespace Go.Proofs.YtcnkbdfkjhlbiaaDoor
set_option maxRecDepth 8000
structure Harder (c x : Coding) (l : List Int) : Prop where
  codes : x.codes = c.codes ++ [l]
  len : c.codes.length = c.wrong.length
  wr : ∀ k, k < c.codes.length → x.wrong.getD k 0 ≤ c.wrong.getD k 0
end Go.Proofs.YtcnkbdfkjhlbiaaDoor
namespace Go.Proofs.YtcnkbdfkjhlbiaaDoor
open Go.Sy
set_option maxRecDepth 8000
abbrev tysW46_95 := And.intro ty.sz0 <| And.intro ty.agg0 <| And.intro ty.elem0 <| And.intro ty.sz108 <| And.intro ty.agg108 <| And.intro ty.elem108 <| And.intro ty.zero108 <| And.intro ty.sz114 <| And.intro ty.agg114 <| And.intro ty.elem114 <| And.intro ty.zero114 <| And.intro ty.und114 <| And.intro ty.sz153 <| And.intro ty.agg153 <| And.intro ty.elem153 <| And.intro ty.zero153 <| And.intro ty.sz154 <| And.intro ty.agg154 <| And.intro ty.elem154 <| ty.zero154
theorem groupsD_h (hp : HpT) (nx : Nat) (d : List D) (s : Nat) : CallH Tryd.prog G0 95 [.dp d, U s] hp nx (fun r hp' nx' => r = .clo (.func 117) [] [.ptr (nx + 1) 0 0, .ptr nx 0 0] ∧ hp' = (nx + 1, .arr 1 [[U s]]) :: (nx, .arr 1 [[.dp d]]) :: hp ∧ nx' = nx + 2) := by
  refine CallH.body 6 [.tmp 4] Tryd.func95 (by kernel_rfl) rfl rfl rfl ?_
  refine Tr.reg [2, 3] (by
      simp only [↓sxd, sxu, ↓zE, ↓exq, St.keep, ↓zI, Nat.reduceBEq, Nat.reduceAdd, Nat.reduceLT, Nat.reduceEqDiff]
      (repeat' (first | rfl | exact trivial | exact fun h => h | exact fun h => (by rw [h]; rfl) | apply And.intro | omega | exact Nat.le_of_ble_eq_true rfl))) ?_
  refine Tr.reg [4] (by
      simp only [↓sxd, sxu, ↓zE, ↓exq, St.keep, Nat.reduceBEq, Nat.reduceLT]
      (repeat' (first | rfl | exact trivial | exact fun h => h | exact fun h => (by rw [h]; rfl) | apply And.intro | omega | exact Nat.le_of_ble_eq_true rfl))) ?_
  refine Tr.ret ?_
  exact ⟨.inr rfl, _, rfl, rfl, rfl, rfl⟩
abbrev tysW46_117 := And.intro ty.sz0 <| And.intro ty.agg0 <| And.intro ty.elem0 <| And.intro ty.sz4 <| And.intro ty.agg4 <| And.intro ty.elem4 <| And.intro ty.zero4 <| And.intro ty.und4 <| And.intro ty.sz108 <| And.intro ty.agg108 <| And.intro ty.elem108 <| And.intro ty.zero108 <| And.intro ty.sz114 <| And.intro ty.agg114 <| And.intro ty.elem114 <| And.intro ty.zero114 <| And.intro ty.und114 <| And.intro ty.sz143 <| And.intro ty.agg143 <| And.intro ty.elem143 <| And.intro ty.arr143 <| And.intro ty.zero143 <| And.intro ty.und143 <| And.intro ty.sz146 <| And.intro ty.agg146 <| And.intro ty.fld146_0 <| And.intro ty.fld146_1 <| And.intro ty.fld146_2 <| And.intro ty.fld146_3 <| And.intro ty.elem146 <| And.intro ty.zero146 <| And.intro ty.pl146 <| And.intro ty.sz147 <| And.intro ty.agg147 <| And.intro ty.elem147 <| ty.zero147
theorem groups1D_h (w : Work) (h1 : w.one.length = 1024) (s : Nat) (hs : s < 1024) (I : List Nat → Prop) (hI0 : I []) (H : List Nat → HpT) (nx ib iwb l : Nat)
    (hS : ∀ gs, (H gs).lookup ib = some (.arr 1 [[U s]])) (hW : ∀ gs, (H gs).lookup iwb = some (.arr 1 [[.dp w.d]]))
    (Stop : HpT → Nat → Prop) (hY : ∀ (gs : List Nat) (g : Nat) (ts : List Nat), gs ++ g :: ts = groupsL w.one s → I gs → RoundH Tryd.prog G0 l [U g] (H gs) nx (fun r hp' nx' => (r = B true ∧ I (gs ++ [g]) ∧ hp' = H (gs ++ [g]) ∧ nx' = nx) ∨ (r = B false ∧ Stop hp' nx'))) :
    CallH Tryd.prog G0 117 [.yld l, .ptr ib 0 0, .ptr iwb 0 0] (H []) nx (fun _ hp' nx' => (I (groupsL w.one s) ∧ hp' = H (groupsL w.one s) ∧ nx' = nx) ∨ Stop hp' nx') := by
  obtain ⟨one, hone⟩ : ∃ one, one = w.one := ⟨_, rfl⟩
  rw [← hone] at h1 hY ⊢
  refine CallH.body 37 [] Tryd.func117 (by kernel_rfl) rfl rfl rfl ?_
  have hS0 := hS []
  obtain ⟨f1, f2⟩ := bits_le hs
  refine Tr.reg [0, 1, 2, 4] (by
    simp only [↓sxd, sxu, ↓zE, ↓exq, St.keep, ↓zL, ↓zD, Nat.reduceBEq, Nat.reduceAdd, Nat.reduceLT, tysW46_117, hS0, lowb_u (show s < 4096 by omega)]
    (repeat' (first | rfl | exact trivial | exact fun h => h | exact fun h => (by rw [h]; rfl) | apply And.intro | omega | exact Nat.le_of_ble_eq_true rfl))) ?_
  refine Tr.reg [0, 1, 2, 4, 5] (by
    simp only [↓sxd, sxu, ↓zE, ↓exq, St.keep, ↓zD, Nat.reduceBEq, Nat.reduceLT, tysW46_117, hS0, andNot_u (show s < 18446744073709551616 by omega) (show lowb s < 18446744073709551616 by omega)]
    (repeat' (first | rfl | exact trivial | exact fun h => h | exact fun h => (by rw [h]; rfl) | apply And.intro | omega | exact Nat.le_of_ble_eq_true rfl))) ?_
  refine Tr.reg [0, 1, 2, 4, 5, 6] (by
    simp only [↓sxd, sxu, ↓zE, ↓exq, St.keep, Nat.reduceBEq, Nat.reduceLT]
    (repeat' (first | rfl | exact trivial | exact fun h => h | exact fun h => (by rw [h]; rfl) | apply And.intro | omega | exact Nat.le_of_ble_eq_true rfl))) ?_
  refine Tr.block (Tr.loopI (fun mm ss => ∃ (gs : List Nat) (sub : Nat), (sub ≤ 1023 ∧ I gs ∧ gs ++ ((subsFrom (sub + 1) sub (restOf s)).map (· ||| lowb s)).filter (fun g => one.getD g false) = groupsL one s) ∧ sub = mm ∧
    ss = ⟨[(0, .yld l), (1, .ptr ib 0 0), (2, .ptr iwb 0 0), (4, U (lowb s)), (5, U (restOf s)), (6, U sub)], H gs, nx, 37, [], nx⟩) _ ⟨[], restOf s, ⟨by omega, hI0, rfl⟩, rfl, rfl⟩ ?_)
  rintro mm ss ⟨gs, sub, ⟨hsub, hIg, hgs⟩, rfl, rfl⟩
  have hS1 := hS gs
  have hW1 := hW gs
  have hg : sub ||| lowb s < 1024 := Nat.or_lt_two_pow (n := 10) (by omega) (by omega)
  have hor := or_u (show sub < 18446744073709551616 by omega) (show lowb s < 18446744073709551616 by omega)
  have hix : (((sub ||| lowb s : Nat) : Int) < ((1024 : Nat) : Int)) = True := by simp; omega
  have hlen : (0 < (List.drop (sub ||| lowb s) (w.one.map cB ++ w.least.map cI)).length) = True := eq_true (tl_one0 (by rw [← hone]; exact h1) hg)
  have hval : (List.drop (sub ||| lowb s) (w.one.map cB ++ w.least.map cI)).getD 0 default = cB (one.getD (sub ||| lowb s) false) := by rw [hone]; exact tl_one (by rw [← hone]; exact h1) hg
  have hx := hgs
  rw [subsFrom, List.map_cons, List.filter_cons] at hx
  cases ho : one.getD (sub ||| lowb s) false with
  | false =>
    rw [ho, if_neg (by decide)] at hx
    have hx' : gs ++ (if sub = 0 then [] else ((subsFrom sub ((sub - 1) &&& restOf s) (restOf s)).map (· ||| lowb s)).filter (fun g => one.getD g false)) = groupsL one s := by
      rw [← hx]; split <;> rfl
    refine Tr.seq (Tr.block (Tr.seq (Tr.reg [0, 1, 2, 4, 5, 6, 34] (by
      simp only [↓sxd, sxu, ↓zE, ↓exq, St.keep, ↓zD, ↓zV, ↓zA, Nat.reduceBEq, Nat.reduceLT, Nat.reduceEqDiff, sxe, tysW46_117, hW1, hor, hix, hlen, hval, ho]
      (repeat ((with_reducible refine And.intro ?_ ?_); (focus (first | with_reducible rfl | trivial | exact fun h => h | exact fun h => (by rw [h]; rfl) | omega | assumption))))
      refine GdO.no rfl ?_
      simp only [↓sxd, sxu, ↓zE, Nat.reduceBEq, Nat.reduceLT]
      refine GdO.no rfl ?_
      simp only [↓sxd, sxu, ↓zE, Nat.reduceBEq, Nat.reduceLT]
      refine GdO.no rfl ?_
      simp only [↓sxd, sxu, ↓zE, Nat.reduceBEq, Nat.reduceLT]
      refine GdO.no rfl ?_
      simp only [↓sxd, sxu, ↓zE, Nat.reduceBEq, Nat.reduceLT]
      refine GdO.no rfl ?_
      simp only [↓sxd, sxu, ↓zE, Nat.reduceBEq, Nat.reduceLT]
      refine GdO.no rfl ?_
      simp only [↓sxd, sxu, ↓zE, ↓exq, ↓zH, Nat.reduceBEq, Nat.reduceLT]
      (repeat' (first | rfl | exact trivial | exact fun h => h | exact fun h => (by rw [h]; rfl) | apply And.intro | omega | exact Nat.le_of_ble_eq_true rfl))) ?_)))
    refine Tr.cond rfl (fun h34 => by cases h34) (fun _ => Tr.skip ?_)
    refine Tr.reg [0, 1, 2, 4, 5, 6, 36] (by
      simp only [↓sxd, sxu, ↓zE, ↓exq, St.keep, Nat.reduceBEq, Nat.reduceLT]
      (repeat' (first | rfl | exact trivial | exact fun h => h | exact fun h => (by rw [h]; rfl) | apply And.intro | omega | exact Nat.le_of_ble_eq_true rfl))) ?_
    refine Tr.cond rfl (fun h36 => ?_) (fun h36 => ?_)
    · have h0 : sub = 0 := by simpa using h36
      subst h0
      refine Tr.ret ⟨.inr rfl, .tup [], trivial, .inl ⟨?_, ?_, rfl⟩⟩ <;> rw [← hx'] <;> first | (simp; done) | (simpa using hIg)
    · have h0 : sub ≠ 0 := by simpa using h36
      have x1 : IntKind.u64.wrap ((sub : Int) - 1) = ((sub - 1 : Nat) : Int) := by rw [wu (by omega) (by omega)]; omega
      refine Tr.skip (Tr.reg1 [0, 1, 2, 4, 5, 6] (by
        simp only [↓sxd, sxu, ↓zE, ↓exq, St.keep, Nat.reduceBEq, Nat.reduceLT, x1, and_u (show sub - 1 < 18446744073709551616 by omega) (show restOf s < 18446744073709551616 by omega)]
        (repeat' (first | rfl | exact trivial | exact fun h => h | exact fun h => (by rw [h]; rfl) | apply And.intro | omega | exact Nat.le_of_ble_eq_true rfl))) ?_)
      have hlt : (sub - 1) &&& restOf s < sub := Nat.lt_of_le_of_lt Nat.and_le_left (by omega)
      refine ⟨_, _, hlt, Imp.keepAll, ⟨gs, (sub - 1) &&& restOf s, ⟨by omega, hIg, ?_⟩, rfl, rfl⟩⟩
      rw [← hx', if_neg h0, subs_fuel _ sub _ _ (by omega) hlt]
  | true =>
    rw [ho, if_pos rfl] at hx
    have hx' : (gs ++ [sub ||| lowb s]) ++ (if sub = 0 then [] else ((subsFrom sub ((sub - 1) &&& restOf s) (restOf s)).map (· ||| lowb s)).filter (fun g => one.getD g false)) = groupsL one s := by
      rw [← hx, List.append_assoc]; split <;> rfl
    refine Tr.seq (Tr.block (Tr.seq (Tr.seq (Tr.region ?_))))
    simp only [↓sxd, sxu, ↓zE, ↓exq, ↓zD, ↓zV, ↓zA, Nat.reduceBEq, Nat.reduceLT, Nat.reduceEqDiff, sxe, tysW46_117, hW1, hor, hix, hlen, hval, ho]
    (repeat ((with_reducible refine And.intro ?_ ?_); (focus (first | with_reducible rfl | trivial | exact fun h => h | exact fun h => (by rw [h]; rfl) | omega | assumption))))
    refine GdO.now rfl ?_
    simp only [↓sxd, sxu, ↓zE, ↓exq, Nat.reduceBEq, Nat.reduceLT]
    refine GdO.now rfl ?_
    simp only [↓sxd, sxu, ↓zE, ↓exq, Nat.reduceBEq, Nat.reduceLT]
    refine GdO.now rfl ?_
    simp only [↓sxd, sxu, ↓zE, ↓exq, Nat.reduceBEq, Nat.reduceLT]
    refine GdO.now rfl ?_
    simp only [↓sxd, sxu, ↓zE, ↓exq, Nat.reduceBEq, Nat.reduceLT, hor]
    refine GdO.now rfl ?_
    simp only [↓sxd, sxu, ↓zE, ↓exq, ↓zB, Nat.reduceBEq, Nat.reduceLT]
    refine (hY gs (sub ||| lowb s) _ hx hIg).mono ?_
    rintro r hp' nx' (⟨rfl, hIg2, rfl, rfl⟩ | ⟨rfl, hstop⟩)
    · try simp only [↓sxd, sxu, ↓zE, ↓zC, zK, ↓exP, ↓exq, ↓zB, St.keep, ↓zH, ↓zL, ↓zD, ↓zV, ↓zA, Nat.reduceBEq, Nat.reduceAdd, Nat.reduceLT, Nat.reduceMul, Nat.reduceSub, Nat.reduceLeDiff, Nat.reduceEqDiff, Int.reduceLE, Int.reduceLT, Int.reduceToNat, reduceIte, implies_true, sxe, tysW46_117]
      refine GdO.now rfl ?_
      simp only [↓sxd, sxu, ↓zE, ↓exq, ↓zH, ↓zL, Nat.reduceBEq, Nat.reduceLT, Bool.not_true]
      (repeat ((with_reducible refine And.intro ?_ ?_); (focus (first | with_reducible rfl | trivial | exact fun h => h | exact fun h => (by rw [h]; rfl) | omega | assumption))))
      refine Tr.cond rfl (fun h34 => by cases h34) (fun _ => Tr.skip ?_)
      refine Tr.reg [0, 1, 2, 4, 5, 6, 36] (by
        simp only [↓sxd, sxu, ↓zE, ↓exq, St.keep, Nat.reduceBEq, Nat.reduceLT]
        (repeat' (first | rfl | exact trivial | exact fun h => h | exact fun h => (by rw [h]; rfl) | apply And.intro | omega | exact Nat.le_of_ble_eq_true rfl))) ?_
      refine Tr.cond rfl (fun h36 => ?_) (fun h36 => ?_)
      · have h0 : sub = 0 := by simpa using h36
        subst h0
        refine Tr.ret ⟨.inr rfl, .tup [], trivial, .inl ⟨?_, ?_, rfl⟩⟩ <;> rw [← hx'] <;> first | (simp; done) | (simpa using hIg2)
      · have h0 : sub ≠ 0 := by simpa using h36
        have x1 : IntKind.u64.wrap ((sub : Int) - 1) = ((sub - 1 : Nat) : Int) := by rw [wu (by omega) (by omega)]; omega
        refine Tr.skip (Tr.reg1 [0, 1, 2, 4, 5, 6] (by
          simp only [↓sxd, sxu, ↓zE, ↓exq, St.keep, Nat.reduceBEq, Nat.reduceLT, x1, and_u (show sub - 1 < 18446744073709551616 by omega) (show restOf s < 18446744073709551616 by omega)]
          (repeat' (first | rfl | exact trivial | exact fun h => h | exact fun h => (by rw [h]; rfl) | apply And.intro | omega | exact Nat.le_of_ble_eq_true rfl))) ?_)
        have hlt : (sub - 1) &&& restOf s < sub := Nat.lt_of_le_of_lt Nat.and_le_left (by omega)
        refine ⟨_, _, hlt, Imp.keepAll, ⟨gs ++ [sub ||| lowb s], (sub - 1) &&& restOf s, ⟨by omega, hIg2, ?_⟩, rfl, rfl⟩⟩
        rw [← hx', if_neg h0, subs_fuel _ sub _ _ (by omega) hlt]
    · try simp only [↓sxd, sxu, ↓zE, ↓zC, zK, ↓exP, ↓exq, ↓zB, St.keep, ↓zH, ↓zL, ↓zD, ↓zV, ↓zA, Nat.reduceBEq, Nat.reduceAdd, Nat.reduceLT, Nat.reduceMul, Nat.reduceSub, Nat.reduceLeDiff, Nat.reduceEqDiff, Int.reduceLE, Int.reduceLT, Int.reduceToNat, reduceIte, implies_true, sxe, tysW46_117]
      refine GdO.now rfl ?_
      simp only [↓sxd, sxu, ↓zE, ↓exq, ↓zH, ↓zL, Nat.reduceBEq, Nat.reduceLT, Bool.not_false]
      (repeat ((with_reducible refine And.intro ?_ ?_); (focus (first | with_reducible rfl | trivial | exact fun h => h | exact fun h => (by rw [h]; rfl) | omega | assumption))))
      refine Tr.cond rfl (fun _ => Tr.ret ⟨.inr rfl, .tup [], trivial, .inr hstop⟩) (fun h34 => by cases h34)
end Go.Proofs.YtcnkbdfkjhlbiaaDoor
namespace Go.Proofs.YtcnkbdfkjhlbiaaDoor
open Go.Sy
set_option maxRecDepth 8000
def pickG (one : List Bool) (L : List Int) (s : Nat) : Option Nat := (groupsL one s).find? fun g => L.getD s 0 == 1 + L.getD (s ^^^ (s &&& g)) 0
def showG (one : List Bool) (L : List Int) : Nat → Nat → List Nat
  | 0, _ => []
  | f + 1, s => if s = 0 then [] else match pickG one L s with
    | some g => g :: showG one L f (s ^^^ (s &&& g))
    | none => []
theorem pickG_first {one : List Bool} {L : List Int} {s g : Nat} {gs ts : List Nat} (hg : gs ++ g :: ts = groupsL one s) (hn : ∀ x ∈ gs, (L.getD s 0 == 1 + L.getD (s ^^^ (s &&& x)) 0) = false) (hm : (L.getD s 0 == 1 + L.getD (s ^^^ (s &&& g)) 0) = true) : pickG one L s = some g := by
  unfold pickG
  rw [← hg, List.find?_append, List.find?_eq_none.2 (fun x hx => by rw [hn x hx]; decide), Option.none_or, List.find?_cons]
  simp only [hm]
theorem pickG_spec {one : List Bool} {L : List Int} {s g : Nat} (h : pickG one L s = some g) : g ∈ groupsL one s ∧ L.getD s 0 = 1 + L.getD (s ^^^ (s &&& g)) 0 :=
  ⟨List.mem_of_find?_eq_some h, by have := List.find?_some h; simpa using this⟩
structure TabC (c : Census) (one : List Bool) (L : List Int) : Prop where
  nb : (blocksOf c).length ≤ 10
  o : ∀ s, s < 2 ^ (blocksOf c).length → one.getD s false = oneP c s
  b : ∀ s, 0 ≤ L.getD s 0 ∧ L.getD s 0 ≤ 1024
  ex : LeastOk (oneP c) (blocksOf c).length (fun s => L.getD s 0)
theorem tabC {c : Census} (hc : PairsOk c) (hn : c.entries.length ≤ 10) : TabC c (readW c).one (readW c).least := by
  have hl := (blocksOf_sem hc).ok.len
  have hle : 2 ^ (blocksOf c).length ≤ 1024 := Nat.pow_le_pow_right (n := 2) (by omega) (show (blocksOf c).length ≤ 10 by omega)
  have h := tables_ok c (2 ^ (blocksOf c).length) hle
  exact ⟨by omega, h.o, h.b, leastOk hc hn⟩
theorem TabC.lt {c : Census} {one : List Bool} {L : List Int} (h : TabC c one L) {s : Nat} (hs : s < 2 ^ (blocksOf c).length) : s < 1024 :=
  Nat.lt_of_lt_of_le hs (Nat.pow_le_pow_right (n := 2) (by omega) h.nb)
theorem TabC.group {c : Census} {one : List Bool} {L : List Int} (h : TabC c one L) {s g : Nat} (hs : s < 2 ^ (blocksOf c).length) (h0 : s ≠ 0) (hg : g ∈ groupsL one s) : s &&& g = g ∧ g.testBit (low s) = true ∧ oneP c g = true ∧ s ^^^ (s &&& g) < s := by
  obtain ⟨⟨a, b⟩, d⟩ := (mem_groups (h.lt hs) h0).1 hg
  exact ⟨a, b, by rw [← h.o g (sub_lt a hs)]; exact d, diff_lt (sub_test a b) b⟩
theorem TabC.pick {c : Census} {one : List Bool} {L : List Int} (h : TabC c one L) {s : Nat} (hs : s < 2 ^ (blocksOf c).length) (h0 : s ≠ 0) (h1 : L.getD s 0 < 1024) : ∃ g, pickG one L s = some g := by
  obtain ⟨g, a, b, d, e⟩ := h.ex.ex s hs h0 h1
  have e : L.getD s 0 = 1 + L.getD (s ^^^ (s &&& g)) 0 := e
  have hm : g ∈ groupsL one s := (mem_groups (h.lt hs) h0).2 ⟨⟨a, b⟩, by rw [h.o g (sub_lt a hs)]; exact d⟩
  cases hp : pickG one L s with
  | some g => exact ⟨g, rfl⟩
  | none => exact absurd (show (L.getD s 0 == 1 + L.getD (s ^^^ (s &&& g)) 0) = true from beq_iff_eq.2 e) (List.find?_eq_none.1 hp g hm)
theorem TabC.none {c : Census} {one : List Bool} {L : List Int} (h : TabC c one L) {s : Nat} (hs : s < 2 ^ (blocksOf c).length) (h0 : s ≠ 0) (h1 : L.getD s 0 < 1024) (hn : ∀ x ∈ groupsL one s, (L.getD s 0 == 1 + L.getD (s ^^^ (s &&& x)) 0) = false) : False := by
  obtain ⟨g, hg⟩ := h.pick hs h0 h1
  obtain ⟨a, b⟩ := pickG_spec hg
  have := hn g a
  rw [b] at this
  simp at this
theorem TabC.show {c : Census} {one : List Bool} {L : List Int} (h : TabC c one L) : ∀ f s, s < f → s < 2 ^ (blocksOf c).length → L.getD s 0 < 1024 → Parts (oneP c) s (showG one L f s) ∧ ((showG one L f s).length : Int) = L.getD s 0
  | 0, s, hf, _, _ => by omega
  | f + 1, s, hf, hs, hl => by
    unfold showG
    by_cases h0 : s = 0
    · subst h0
      rw [if_pos rfl]
      exact ⟨⟨fun g hg => (by cases hg), .nil, fun j => (by simp)⟩, by rw [show L.getD 0 0 = 0 from h.ex.zero]; rfl⟩
    · rw [if_neg h0]
      obtain ⟨g, hg⟩ := h.pick hs h0 hl
      obtain ⟨a, b⟩ := pickG_spec hg
      obtain ⟨g1, g2, g3, g4⟩ := h.group hs h0 a
      have hb := h.b (s ^^^ (s &&& g))
      obtain ⟨p1, p2⟩ := h.show f (s ^^^ (s &&& g)) (by omega) (by omega) (by omega)
      rw [hg]
      refine ⟨p1.put g1 (fun hc => by subst hc; simp at g2) g3, ?_⟩
      rw [List.length_cons, b, ← p2]; omega
theorem Parts.perm {one : Nat → Bool} {s : Nat} {gs hs : List Nat} (h : Parts one s gs) (hp : gs.Perm hs) : Parts one s hs :=
  ⟨fun g hg => h.ok g (hp.mem_iff.2 hg), (List.Perm.pairwise_iff (fun {a b} hab j hb => by
    cases ha : a.testBit j
    · rfl
    · rw [hab j ha] at hb; cases hb) hp).1 h.dis, fun j => ⟨fun hj => by
    obtain ⟨g, a, b⟩ := (h.un j).1 hj
    exact ⟨g, hp.mem_iff.1 a, b⟩, fun ⟨g, a, b⟩ => (h.un j).2 ⟨g, hp.mem_iff.2 a, b⟩⟩⟩
theorem Parts.cut {one : Nat → Bool} (hd : Down one) {g s j : Nat} {gs : List Nat} (h : Parts one s (g :: gs)) (hj : g.testBit j = true) (hr : g ^^^ (g &&& 2 ^ j) ≠ 0) : Parts one s ((g ^^^ (g &&& 2 ^ j)) :: 2 ^ j :: gs) := by
  have hsub := h.mem_sub List.mem_cons_self
  have hg := h.ok g List.mem_cons_self
  have h2 : Parts one (s ^^^ (s &&& g)) gs := Parts.take (pre := []) h
  have hjs := sub_test hsub hj
  have e1 := two_pow_sub hj
  have hsr : s &&& (g ^^^ (g &&& 2 ^ j)) = g ^^^ (g &&& 2 ^ j) := by
    apply Nat.eq_of_testBit_eq; intro i
    rw [Nat.testBit_and]
    cases hi : (g ^^^ (g &&& 2 ^ j)).testBit i
    · simp
    · rw [sub_test hsub (by rw [diff_test, Bool.and_eq_true] at hi; exact hi.1)]; rfl
  have hrj : (s ^^^ (s &&& (g ^^^ (g &&& 2 ^ j)))).testBit j = true := by
    rw [diff_test, diff_test, hjs, hj, Nat.testBit_two_pow]; simp
  have e2 := two_pow_sub hrj
  have e3 : (s ^^^ (s &&& (g ^^^ (g &&& 2 ^ j)))) ^^^ ((s ^^^ (s &&& (g ^^^ (g &&& 2 ^ j)))) &&& 2 ^ j) = s ^^^ (s &&& g) := by
    apply Nat.eq_of_testBit_eq; intro i
    rw [diff_test, diff_test, diff_test, diff_test, Nat.testBit_two_pow]
    by_cases hij : j = i
    · subst hij; simp [hj]
    · simp only [hij, decide_false, Bool.not_false, Bool.and_true]
  have h5 : Parts one (s ^^^ (s &&& (g ^^^ (g &&& 2 ^ j)))) (2 ^ j :: gs) := by
    refine Parts.put ?_ e2 (Nat.ne_of_gt (Nat.two_pow_pos j)) (hd _ _ e1 hg.2)
    rw [e3]; exact h2
  exact h5.put hsr hr (hd _ _ (diff_sub _ _) hg.2)
theorem set_split {l : List Nat} : ∀ {i : Nat}, i < l.length → ∃ pre post, l = pre ++ l.getD i 0 :: post ∧ ∀ y, l.set i y = pre ++ y :: post := by
  induction l with
  | nil => intro i h; cases h
  | cons x l ih =>
    intro i h
    cases i with
    | zero => exact ⟨[], l, rfl, fun _ => rfl⟩
    | succ i =>
      obtain ⟨pre, post, h1, h2⟩ := ih (i := i) (by simpa using h)
      refine ⟨x :: pre, post, ?_, fun y => ?_⟩
      · show x :: l = x :: (pre ++ l.getD i 0 :: post)
        rw [← h1]
      · show x :: l.set i y = x :: (pre ++ y :: post)
        rw [h2]
def cutG (gs : List Nat) (i : Nat) : List Nat := gs.set i (gs.getD i 0 ^^^ (gs.getD i 0 &&& lowb (gs.getD i 0))) ++ [lowb (gs.getD i 0)]
def splitG (most : Nat) : Nat → List Nat → Nat → List Nat
  | 0, gs, _ => gs
  | f + 1, gs, i => if gs.length < most then (if lowb (gs.getD i 0) = gs.getD i 0 then splitG most f gs (i + 1) else splitG most f (cutG gs i) i) else gs
structure SplitOk (one : Nat → Bool) (n : Nat) (gs : List Nat) (i : Nat) : Prop where
  p : Parts one (2 ^ n - 1) gs
  le : i ≤ gs.length
  s : ∀ k, k < i → lowb (gs.getD k 0) = gs.getD k 0
theorem lowb_eq {x : Nat} (h : x ≠ 0) : lowb x = 2 ^ low x := by unfold lowb; rw [if_neg h]
theorem pc_sum {one : Nat → Bool} : ∀ (gs : List Nat) (s : Nat), s < 2 ^ 10 → Parts one s gs → (∀ g ∈ gs, pc g = 1) → pc s = gs.length
  | [], s, _, h, _ => by
    have : s = 0 := by
      by_cases h0 : s = 0
      · exact h0
      · obtain ⟨j, hj⟩ := nz_bit h0
        obtain ⟨g, hg, _⟩ := (h.un j).1 hj
        cases hg
    rw [this, pc_zero]; rfl
  | g :: gs, s, hs, h, h1 => by
    have hsub := h.mem_sub List.mem_cons_self
    have h2 : Parts one (s ^^^ (s &&& g)) gs := Parts.take (pre := []) h
    have h3 : s ^^^ (s &&& g) < 2 ^ 10 := Nat.xor_lt_two_pow hs (Nat.lt_of_le_of_lt Nat.and_le_left hs)
    rw [pc_split hsub, pc_sum gs _ h3 h2 (fun x hx => h1 x (List.mem_cons_of_mem _ hx)), h1 g List.mem_cons_self, List.length_cons]; omega
theorem SplitOk.get {one : Nat → Bool} {n : Nat} (hn : n ≤ 10) {gs : List Nat} {i : Nat} (h : SplitOk one n gs i) {k : Nat} (hk : k < gs.length) : gs.getD k 0 ≠ 0 ∧ gs.getD k 0 < 1024 ∧ one (gs.getD k 0) = true ∧ gs.getD k 0 < 2 ^ n := by
  have hm := getD_mem (d := 0) hk
  have hp : 2 ^ n ≤ 2 ^ 10 := Nat.pow_le_pow_right (by omega) hn
  have := sub_lt (h.p.mem_sub hm) (show 2 ^ n - 1 < 2 ^ n from Nat.sub_lt (Nat.two_pow_pos _) (by omega))
  exact ⟨(h.p.ok _ hm).1, by omega, (h.p.ok _ hm).2, this⟩
theorem SplitOk.lt {one : Nat → Bool} {n : Nat} (hn : n ≤ 10) {gs : List Nat} {i : Nat} (h : SplitOk one n gs i) (hl : gs.length < n) : i < gs.length := by
  rcases Nat.lt_or_ge i gs.length with hi | hi
  · exact hi
  · have hp : 2 ^ n ≤ 2 ^ 10 := Nat.pow_le_pow_right (by omega) hn
    have h1 := Nat.two_pow_pos n
    have := pc_sum gs _ (show 2 ^ n - 1 < 2 ^ 10 by omega) h.p fun g hg => by
      obtain ⟨k, hk, rfl⟩ := mem_getD.1 hg
      obtain ⟨a, b, _⟩ := h.get hn hk
      rw [← h.s k (by omega), lowb_eq a]
      exact pc_one _ (testBit_lt (low_test b a) b)
    rw [pc_full _ hn] at this
    omega
theorem SplitOk.next {one : Nat → Bool} {n : Nat} {gs : List Nat} {i : Nat} (h : SplitOk one n gs i) (hi : i < gs.length) (hs : lowb (gs.getD i 0) = gs.getD i 0) : SplitOk one n gs (i + 1) :=
  ⟨h.p, hi, fun k hk => by
    rcases Nat.lt_or_ge k i with h1 | h1
    · exact h.s k h1
    · obtain rfl : k = i := by omega
      exact hs⟩
theorem cutG_len (gs : List Nat) (i : Nat) : (cutG gs i).length = gs.length + 1 := by simp [cutG]
theorem SplitOk.cut {one : Nat → Bool} (hd : Down one) {n : Nat} (hn : n ≤ 10) {gs : List Nat} {i : Nat} (h : SplitOk one n gs i) (hi : i < gs.length) (hs : lowb (gs.getD i 0) ≠ gs.getD i 0) : SplitOk one n (cutG gs i) i := by
  obtain ⟨a, b, _⟩ := h.get hn hi
  obtain ⟨pre, post, h1, h2⟩ := set_split hi
  have hlo := low_test b a
  have hr : gs.getD i 0 ^^^ (gs.getD i 0 &&& 2 ^ low (gs.getD i 0)) ≠ 0 := fun hc => by
    apply hs
    rw [lowb_eq a]
    have e := two_pow_sub hlo
    rw [e] at hc
    exact (Nat.eq_of_testBit_eq fun j => by
      have := congrArg (·.testBit j) hc
      rw [Nat.testBit_xor, Nat.zero_testBit] at this
      generalize (gs.getD i 0).testBit j = u at this ⊢
      generalize (2 ^ low (gs.getD i 0)).testBit j = v at this ⊢
      cases u <;> cases v <;> first | rfl | cases this)
  refine ⟨?_, by rw [cutG_len]; omega, fun k hk => ?_⟩
  · have hp : Parts one (2 ^ n - 1) (gs.getD i 0 :: (pre ++ post)) := h.p.perm (by
      have := @List.perm_middle _ (gs.getD i 0) pre post
      rw [← h1] at this
      exact this)
    have := hp.cut hd hlo hr
    refine this.perm ?_
    unfold cutG
    rw [h2, lowb_eq a]
    generalize gs.getD i 0 ^^^ (gs.getD i 0 &&& 2 ^ low (gs.getD i 0)) = y
    generalize 2 ^ low (gs.getD i 0) = z
    refine (List.Perm.cons y ?_).trans (List.perm_middle.symm.trans (List.Perm.of_eq (List.append_assoc pre (y :: post) [z]).symm))
    refine (List.perm_append_comm (l₁ := [z]) (l₂ := pre ++ post)).trans (List.Perm.of_eq (List.append_assoc _ _ _))
  · unfold cutG
    rw [getD_app_l (by rw [List.length_set]; omega), set_get hi, if_neg (by omega)]
    exact h.s k hk
theorem SplitOk.all {one : Nat → Bool} (hd : Down one) {n most : Nat} (hn : n ≤ 10) (hm : most ≤ n) : ∀ (f : Nat) (gs : List Nat) (i : Nat), SplitOk one n gs i → 2 * most ≤ f + gs.length + i → gs.length ≤ most →
    Parts one (2 ^ n - 1) (splitG most f gs i) ∧ (splitG most f gs i).length = most
  | 0, gs, i, h, hf, hl => by
    have := h.le
    exact ⟨h.p, by show gs.length = most; omega⟩
  | f + 1, gs, i, h, hf, hl => by
    unfold splitG
    split
    · rename_i hlt
      have hi := h.lt hn (by omega)
      split
      · rename_i hs
        exact SplitOk.all hd hn hm f gs (i + 1) (h.next hi hs) (by omega) hl
      · rename_i hs
        exact SplitOk.all hd hn hm f _ i (h.cut hd hn hi hs) (by rw [cutG_len]; omega) (by rw [cutG_len]; omega)
    · exact ⟨h.p, by omega⟩
end Go.Proofs.YtcnkbdfkjhlbiaaDoor
namespace Go.Proofs.YtcnkbdfkjhlbiaaDoor
open Go.Sy
set_option maxRecDepth 8000
def Census.manyS (c : Census) (most : Bool) : Int := if most then (readW c).persons.hi else (readW c).persons.lo
def Census.groupsS (c : Census) (most : Bool) : List Nat := splitG (c.manyS most).toNat 20 (showG (readW c).one (readW c).least 1024 (2 ^ (blocksOf c).length - 1)) 0
def Census.showS (c : Census) (most : Bool) : List (List Int) × Int := if c.tried true = 0 then ((c.groupsS most).map fun g => nats (elems (unionB (blocksOf c) (elems g))), 0) else ([], c.tried true)
structure ShowOk (c : Census) : Prop where
  f : Fine c
  r : Readable c
  t : TabC c (readW c).one (readW c).least
  l : lst c < 1024
  m : ∀ most, 0 ≤ c.manyS most ∧ lst c ≤ c.manyS most ∧ c.manyS most ≤ (blocksOf c).length
theorem show_ok {c : Census} (h0 : c.tried true = 0) : ShowOk c := by
  have hk : c.check = 0 := by
    unfold Census.tried at h0
    split at h0
    · rename_i h; exact absurd h0 h
    · rename_i h; simpa using h
  have hf := fine_iff.1 hk
  have hle : (pers c).lo ≤ (pers c).hi := by
    unfold Census.tried at h0
    rw [if_neg (fun hc => hc hk)] at h0
    simp only [Bool.not_true, Bool.false_eq_true, if_false] at h0
    split at h0
    · cases h0
    · rename_i h
      have h : ¬ (pers c).lo > (pers c).hi := h
      omega
  have hlo := pers_lo hf.pairs hf.n10
  have key : ∀ m : Nat, (pers c).lo ≤ m → (m : Int) ≤ (pers c).hi → lst c < 1024 ∧ lst c ≤ m ∧ m ≤ (blocksOf c).length := fun m h1 h2 => (sem_iff hf.pairs hf.n10).1 ((pers_iff hf.pairs hf.n10 hf.lims).2 ⟨h1, h2⟩).1
  have kl := key (pers c).lo.toNat (by omega) (by omega)
  have kh := key (pers c).hi.toNat (by omega) (by omega)
  refine ⟨hf, Census.readable hk, tabC hf.pairs hf.n10, kl.1, fun most => ?_⟩
  unfold Census.manyS
  show 0 ≤ (if most = true then (pers c).hi else (pers c).lo) ∧ lst c ≤ (if most = true then (pers c).hi else (pers c).lo) ∧ (if most = true then (pers c).hi else (pers c).lo) ≤ _
  cases most
  · simp only [Bool.false_eq_true, if_false]; omega
  · simp only [if_true]; omega
theorem rU_snoc (l : List Nat) (x : Nat) : rU (l ++ [x]) = rU l ++ [[U x]] := by simp [rU]
theorem rU_cut (l : List Nat) (i : Nat) : rU (cutG l i) = (rU l).set i [U (l.getD i 0 ^^^ (l.getD i 0 &&& lowb (l.getD i 0)) : Nat)] ++ [[U (lowb (l.getD i 0))]] := by
  unfold cutG
  rw [rU_snoc, rU, rU, List.map_set]
theorem rU_fz {r : Nat → Nat} {hp hp' : HpT} (l : List Nat) : F2 (F2 fun s x => TnS r hp hp' s (.d x)) (rU l) (dU l) := by
  induction l with
  | nil => exact .nil
  | cons x l ih => exact .cons (.cons (TnS.d _) .nil) ih
theorem rU_tn {r : Nat → Nat} {hp hp' : HpT} (l : List Nat) : F2 (F2 (TnS r hp hp')) (rU l) (rU l) := by
  induction l with
  | nil => exact .nil
  | cons x l ih => exact .cons (.cons (TnS.d _) .nil) ih
theorem rU_cut_tn {r : Nat → Nat} {hp hp' : HpT} {l : List Nat} {i : Nat} : F2 (F2 (TnS r hp hp')) ((rU l).set i [U (l.getD i 0 ^^^ (l.getD i 0 &&& lowb (l.getD i 0)) : Nat)] ++ [[U (lowb (l.getD i 0))]]) ((rU l).set i [U (l.getD i 0 ^^^ (l.getD i 0 &&& lowb (l.getD i 0)) : Nat)] ++ [[U (lowb (l.getD i 0))]]) := by
  rw [← rU_cut]; exact rU_tn _
abbrev tysW47_57 := And.intro ty.sz0 <| And.intro ty.agg0 <| And.intro ty.elem0 <| And.intro ty.sz3 <| And.intro ty.agg3 <| And.intro ty.elem3 <| And.intro ty.zero3 <| And.intro ty.und3 <| And.intro ty.sz4 <| And.intro ty.agg4 <| And.intro ty.elem4 <| And.intro ty.zero4 <| And.intro ty.und4 <| And.intro ty.sz30 <| And.intro ty.agg30 <| And.intro ty.fld30_0 <| And.intro ty.fld30_1 <| And.intro ty.elem30 <| And.intro ty.zero30 <| And.intro ty.pl30 <| And.intro ty.sz31 <| And.intro ty.agg31 <| And.intro ty.elem31 <| And.intro ty.zero31 <| And.intro ty.und31 <| And.intro ty.sz37 <| And.intro ty.agg37 <| And.intro ty.fld37_0 <| And.intro ty.fld37_1 <| And.intro ty.fld37_2 <| And.intro ty.fld37_3 <| And.intro ty.fld37_4 <| And.intro ty.elem37 <| And.intro ty.zero37 <| And.intro ty.pl37 <| And.intro ty.sz39 <| And.intro ty.agg39 <| And.intro ty.elem39 <| And.intro ty.by39 <| And.intro ty.ez39 <| And.intro ty.zero39 <| And.intro ty.und39 <| And.intro ty.sz43 <| And.intro ty.agg43 <| And.intro ty.elem43 <| And.intro ty.by43 <| And.intro ty.ez43 <| And.intro ty.zero43 <| And.intro ty.und43 <| And.intro ty.sz108 <| And.intro ty.agg108 <| And.intro ty.elem108 <| And.intro ty.zero108 <| And.intro ty.sz109 <| And.intro ty.agg109 <| And.intro ty.elem109 <| And.intro ty.sz114 <| And.intro ty.agg114 <| And.intro ty.elem114 <| And.intro ty.zero114 <| And.intro ty.und114 <| And.intro ty.sz142 <| And.intro ty.agg142 <| And.intro ty.elem142 <| And.intro ty.by142 <| And.intro ty.ez142 <| And.intro ty.zero142 <| And.intro ty.und142 <| And.intro ty.sz144 <| And.intro ty.agg144 <| And.intro ty.elem144 <| And.intro ty.arr144 <| And.intro ty.zero144 <| And.intro ty.und144 <| And.intro ty.sz146 <| And.intro ty.agg146 <| And.intro ty.fld146_0 <| And.intro ty.fld146_1 <| And.intro ty.fld146_2 <| And.intro ty.fld146_3 <| And.intro ty.elem146 <| And.intro ty.zero146 <| And.intro ty.pl146 <| And.intro ty.sz154 <| And.intro ty.agg154 <| And.intro ty.elem154 <| ty.zero154
set_option maxHeartbeats 4000000 in
theorem Show_c (c : Census) (hs : c.small) (most : Bool) : CallP Tryd.prog G0 57 [c.s, B most] (.tup [SL (c.showS most).1, I (c.showS most).2]) := by
  refine CallP.body 130 [.tmp 4, .tmp 5] Tryd.func57 (by kernel_rfl) rfl rfl rfl (by repeat' (first | exact Pure.d _ | exact Pure.dx _ | exact Pure.dp _ | exact fa_nil | refine fa_cons ?_ ?_ | refine Pure.agg ?_ | refine Pure.tup ?_ | refine Pure.clo ?_ ?_ | refine Pure.fp ?_ | exact Pure.mapd _ | assumption)) (by repeat' (first | exact Pure.d _ | exact Pure.dx _ | exact Pure.dp _ | exact fa_nil | refine fa_cons ?_ ?_ | refine Pure.agg ?_ | refine Pure.tup ?_ | refine Pure.clo ?_ ?_ | refine Pure.fp ?_ | exact Pure.mapd _ | assumption)) ?_
  refine Tr.reg [1, 2, 4, 5] (by
      simp only [↓sxd, sxu, ↓zE, ↓exq, St.keep, ↓zI, Nat.reduceBEq, Nat.reduceAdd, Nat.reduceLT, Nat.reduceEqDiff]
      (repeat' (first | rfl | exact trivial | exact fun h => h | exact fun h => (by rw [h]; rfl) | apply And.intro | omega | exact Nat.le_of_ble_eq_true rfl))) ?_
  have hv1 : svCells (c.triedW true) = [c.triedW true] := by unfold Census.triedW; split <;> rfl
  have hv2 : (c.triedW true).one = true := by unfold Census.triedW; split <;> rfl
  have hv3 : svOk (c.triedW true) = true := by unfold Census.triedW; split <;> rfl
  refine Tr.reg [1, 4, 5, 6, 7] (by
      simp only [↓sxd, sxu, ↓zE, ↓exq, St.keep, ↓zD, Nat.reduceBEq, Nat.reduceAdd, Nat.reduceLT, tysW47_57]
      (repeat ((with_reducible refine And.intro ?_ ?_); (focus (first | with_reducible rfl | trivial | exact fun h => h | exact fun h => (by rw [h]; rfl) | omega | assumption))))
      refine CallO.use (tried'_c c hs true) ?_
      try simp only [↓sxd, sxu, ↓zE, ↓exq, ↓zN, ↓zM, Nat.reduceBEq, Nat.reduceAdd, Nat.reduceLT, Nat.reduceEqDiff, tysW47_57, hv1, hv2, hv3]
      (repeat' (first | rfl | exact trivial | exact fun h => h | exact fun h => (by rw [h]; rfl) | apply And.intro | omega | exact Nat.le_of_ble_eq_true rfl))) ?_
  refine Tr.seq ?_
  refine Tr.reg [1, 4, 5, 6, 7, 26] (by
      simp only [↓sxd, sxu, ↓zE, ↓exq, St.keep, Nat.reduceBEq, Nat.reduceLT]
      (repeat' (first | rfl | exact trivial | exact fun h => h | exact fun h => (by rw [h]; rfl) | apply And.intro | omega | exact Nat.le_of_ble_eq_true rfl))) ?_
  refine Tr.cond rfl (fun h26 => ?_) (fun h26 => ?_)
  · have hne : c.tried true ≠ 0 := by simpa using h26
    have hS : c.showS most = ([], c.tried true) := if_neg hne
    rw [hS]
    refine Tr.reg [4, 5] (by
        simp only [↓sxd, sxu, ↓zE, ↓exq, St.keep, Nat.reduceBEq, Nat.reduceLT]
        (repeat' (first | rfl | exact trivial | exact fun h => h | exact fun h => (by rw [h]; rfl) | apply And.intro | omega | exact Nat.le_of_ble_eq_true rfl))) ?_
    refine Tr.imp (Imp.fin (tm' := [(4, SL []), (5, I (c.tried true))]) (.cons rfl (TnS.dxd _) (.cons rfl (TnS.d _) trivial))) ?_
    refine Tr.ret ?_
    (refine ⟨.inr rfl, ?_⟩; first | rfl | exact ⟨rfl, rfl, trivial⟩ | exact ⟨rfl, rfl, rfl, trivial⟩ | (simp only [Res, ResL, ResOK, ↓sxd, sxu, ↓zE, ↓zC, zK, ↓exP, ↓exq, ↓zB, St.keep, ↓zL, ↓zJ, ↓zD, ↓zN, ↓zV, ↓zM, ↓zI, ↓zG, ↓zQ, ↓z7, ↓zA, Nat.reduceBEq, Nat.reduceAdd, Nat.reduceLT, Nat.reduceMul, Nat.reduceSub, Nat.reduceLeDiff, Nat.reduceEqDiff, Int.reduceLE, Int.reduceLT, Int.reduceToNat, reduceIte, implies_true, sxe, tysW47_57]; (repeat' (first | rfl | exact trivial | exact fun h => h | exact fun h => (by rw [h]; rfl) | apply And.intro | omega | exact Nat.le_of_ble_eq_true rfl))))
  · have h0 : c.tried true = 0 := by simpa using h26
    have ho := show_ok h0
    have hW : c.triedW true = .dp (readW c).d := if_pos h0
    have hS : c.showS most = ((c.groupsS most).map fun g => nats (elems (unionB (blocksOf c) (elems g))), 0) := if_pos h0
    rw [hS, h0, hW]
    have hwk := readW_ok ho.r
    obtain ⟨hm1, hm2, hm3⟩ := ho.m most
    have hnb := ho.t.nb
    have hw20 := whole_c (readW c) (show (blocksOf c).length ≤ 20 by omega)
    refine Tr.skip ?_
    refine Tr.reg [1, 4, 5, 6, 8] (by
        simp only [↓sxd, sxu, ↓zE, ↓exq, St.keep, ↓zD, Nat.reduceBEq, Nat.reduceLT, tysW47_57]
        (repeat ((with_reducible refine And.intro ?_ ?_); (focus (first | with_reducible rfl | trivial | exact fun h => h | exact fun h => (by rw [h]; rfl) | omega | assumption))))
        refine CallO.use (persons_c _ hwk) ?_
        try simp only [↓sxd, sxu, ↓zE, ↓exq, ↓z7, Nat.reduceBEq, Nat.reduceLT]
        (repeat' (first | rfl | exact trivial | exact fun h => h | exact fun h => (by rw [h]; rfl) | apply And.intro | omega | exact Nat.le_of_ble_eq_true rfl))) ?_
    refine Tr.seq ?_
    refine Tr.reg [4, 5, 6, 8, 31] (by
        simp only [↓sxd, sxu, ↓zE, ↓exq, St.keep, Nat.reduceBEq, Nat.reduceLT]
        (repeat' (first | rfl | exact trivial | exact fun h => h | exact fun h => (by rw [h]; rfl) | apply And.intro | omega | exact Nat.le_of_ble_eq_true rfl))) ?_
    refine Tr.join2 (st' := ⟨[(4, .dx []), (5, I 0), (6, .ptr 1 0 0), (8, I (c.manyS most))], [(1, .arr 1 [[.dp (readW c).d]])], 2, 130, [], 0⟩) ?_ ?_
    ·
      refine Tr.cond rfl (fun h31 => ?_) (fun h31 => ?_)
      · have hmo : most = true := h31
        refine Tr.reg1 [4, 5, 6, 8] (by
            simp only [↓sxd, sxu, ↓zE, ↓exq, St.keep, ↓zD, Nat.reduceBEq, Nat.reduceLT, tysW47_57]
            (repeat ((with_reducible refine And.intro ?_ ?_); (focus (first | with_reducible rfl | trivial | exact fun h => h | exact fun h => (by rw [h]; rfl) | omega | assumption))))
            refine CallO.use (persons_c _ hwk) ?_
            try simp only [↓sxd, sxu, ↓zE, ↓exq, ↓z7, Nat.reduceBEq, Nat.reduceLT]
            (repeat' (first | rfl | exact trivial | exact fun h => h | exact fun h => (by rw [h]; rfl) | apply And.intro | omega | exact Nat.le_of_ble_eq_true rfl))) ?_
        subst hmo
        refine ⟨_, ?_, rfl⟩
        exact Imp.go (fun i => i) [(1, _)] rfl rfl (.cons_cons _ (.cons _ .slnil)) (fun _ _ => rfl) (fun _ h => h) (.cons rfl (TnS.dx _) (.cons rfl (TnS.d _) (.cons rfl (TnS.ptr rfl) (.cons rfl (TnS.d _) trivial)))) (.cons ⟨rfl, TnO.arr (by repeat' (first | exact TmT.cons rfl (TnS.d _) ?_ | exact trivial | exact F2.nil | refine F2.append ?_ ?_ | refine F2.map fun _ _ => ?_ | refine F2.cons ?_ ?_ | refine TmT.cons rfl ?_ ?_ | exact TnS.d _ | exact TnS.dx _ | exact TnS.dp _ | exact TnS.slc rfl | exact TnS.ptr rfl | refine TnS.frzf rfl (by simp) (by simp) (by simp) ?_ | refine TnS.frz0 rfl (by simp) (by simp) (by simp) ?_ | refine TnS.frzm rfl (by simp) ?_ | exact TnS.mapr rfl | exact TnS.yld rfl | refine ⟨rfl, ?_⟩ | refine TnO.arr ?_ | refine TnO.map ?_ | exact TnO.raw _ | exact TnO.iter _ _ | refine TnS.agg ?_ | refine TnS.tup ?_ | exact TnS.pure (Pure.clo (by assumption) (by assumption)) | refine TnS.clo ?_ ?_ | exact TnS.unk _ | exact TnS.pure (Pure.clo (by assumption) (by assumption))))⟩ .nil) (fun _ => rfl)
      · have hmo : most = false := h31
        refine Tr.skip ?_
        subst hmo
        refine ⟨_, ?_, rfl⟩
        exact Imp.go (fun i => i) [(1, _)] rfl rfl (.cons_cons _ (.cons _ .slnil)) (fun _ _ => rfl) (fun _ h => h) (.cons rfl (TnS.dx _) (.cons rfl (TnS.d _) (.cons rfl (TnS.ptr rfl) (.cons rfl (TnS.d _) trivial)))) (.cons ⟨rfl, TnO.arr (by repeat' (first | exact TmT.cons rfl (TnS.d _) ?_ | exact trivial | exact F2.nil | refine F2.append ?_ ?_ | refine F2.map fun _ _ => ?_ | refine F2.cons ?_ ?_ | refine TmT.cons rfl ?_ ?_ | exact TnS.d _ | exact TnS.dx _ | exact TnS.dp _ | exact TnS.slc rfl | exact TnS.ptr rfl | refine TnS.frzf rfl (by simp) (by simp) (by simp) ?_ | refine TnS.frz0 rfl (by simp) (by simp) (by simp) ?_ | refine TnS.frzm rfl (by simp) ?_ | exact TnS.mapr rfl | exact TnS.yld rfl | refine ⟨rfl, ?_⟩ | refine TnO.arr ?_ | refine TnO.map ?_ | exact TnO.raw _ | exact TnO.iter _ _ | refine TnS.agg ?_ | refine TnS.tup ?_ | exact TnS.pure (Pure.clo (by assumption) (by assumption)) | refine TnS.clo ?_ ?_ | exact TnS.unk _ | exact TnS.pure (Pure.clo (by assumption) (by assumption))))⟩ .nil) (fun _ => rfl)
    refine Tr.reg [4, 5, 6, 8, 9] (by
        simp only [↓sxd, sxu, ↓zE, ↓exq, St.keep, ↓zM, Nat.reduceBEq, Nat.reduceAdd, Nat.reduceLT, Nat.reduceEqDiff, tysW47_57]
        (repeat' (first | rfl | exact trivial | exact fun h => h | exact fun h => (by rw [h]; rfl) | apply And.intro | omega | exact Nat.le_of_ble_eq_true rfl))) ?_
    refine Tr.imp (st' := ⟨[(4, .dx []), (5, I 0), (6, .ptr 1 0 0), (8, I (c.manyS most)), (9, .ptr 2 0 0)], [(3, .arr 1 []), (2, .arr 1 [[.slc 3 1 0 0 0]]), (1, .arr 1 [[.dp (readW c).d]])], 4, 130, [], 0⟩) (Imp.goV 1 rfl rfl rfl rfl (by repeat' (first | exact trivial | exact F2.nil | refine F2.cons ?_ ?_ | refine TmV.cons rfl VnS.nil ?_ | refine TmV.cons rfl VnS.same ?_ | refine ⟨rfl, ?_⟩ | exact VnO.same _ | refine VnO.arr ?_ | exact VnS.nil | exact VnS.same | exact F2.refl fun _ _ => VnS.same)) (by repeat' (first | exact trivial | exact F2.nil | refine F2.cons ?_ ?_ | refine TmV.cons rfl VnS.nil ?_ | refine TmV.cons rfl VnS.same ?_ | refine ⟨rfl, ?_⟩ | exact VnO.same _ | refine VnO.arr ?_ | exact VnS.nil | exact VnS.same | exact F2.refl fun _ _ => VnS.same))) ?_
    refine Tr.seq ?_
    refine Tr.reg [4, 5, 6, 8, 9, 10] (by
        simp only [↓sxd, sxu, ↓zE, ↓exq, St.keep, ↓zD, Nat.reduceBEq, Nat.reduceLT, tysW47_57]
        (repeat ((with_reducible refine And.intro ?_ ?_); (focus (first | with_reducible rfl | trivial | exact fun h => h | exact fun h => (by rw [h]; rfl) | omega | assumption))))
        refine CallO.use (hw20) ?_
        try simp only [↓sxd, sxu, ↓zE, ↓exq, ↓zM, Nat.reduceBEq, Nat.reduceAdd, Nat.reduceLT, Nat.reduceEqDiff, tysW47_57]
        (repeat' (first | rfl | exact trivial | exact fun h => h | exact fun h => (by rw [h]; rfl) | apply And.intro | omega | exact Nat.le_of_ble_eq_true rfl))) ?_
    obtain ⟨one, h1e⟩ : ∃ x, x = (readW c).one := ⟨_, rfl⟩
    obtain ⟨L, hLe⟩ : ∃ x, x = (readW c).least := ⟨_, rfl⟩
    obtain ⟨G0, hG0⟩ : ∃ x, x = showG (readW c).one (readW c).least 1024 (2 ^ (blocksOf c).length - 1) := ⟨_, rfl⟩
    have hp0 := Nat.two_pow_pos (blocksOf c).length
    have hp10 : 2 ^ (blocksOf c).length ≤ 2 ^ 10 := Nat.pow_le_pow_right (by omega) hnb
    have hlst : (readW c).least.getD (2 ^ (blocksOf c).length - 1) 0 < 1024 := ho.l
    obtain ⟨hGp, hGl⟩ := ho.t.show 1024 (2 ^ (blocksOf c).length - 1) (by omega) (by omega) hlst
    rw [← hG0] at hGp hGl
    have hl1 := hwk.h1
    have hl2 := hwk.h2
    refine Tr.imp (st' := ⟨[(4, .dx []), (5, I 0), (6, .ptr 1 0 0), (8, I (c.manyS most)), (9, .ptr 2 0 0), (10, .ptr 4 0 0)], [(4, .arr 1 [[U (((2 ^ (blocksOf c).length - 1)) : Nat)]]), (3, .arr 1 (rU [])), (2, .arr 1 [[.slc 3 1 0 [].length [].length]]), (1, .arr 1 [[.dp (readW c).d]])], 5, 130, [0], 0⟩) (Imp.flag) (Tr.block (Tr.loopI (fun mm ss => ∃ (s : Nat) (gs : List Nat), (s < 2 ^ (blocksOf c).length ∧ (readW c).least.getD s 0 < 1024 ∧ ∃ f, s < f ∧ gs ++ showG (readW c).one (readW c).least f s = G0) ∧ s = mm ∧ ss = ⟨[(4, .dx []), (5, I 0), (6, .ptr 1 0 0), (8, I (c.manyS most)), (9, .ptr 2 0 0), (10, .ptr 4 0 0)], [(4, .arr 1 [[U (s : Nat)]]), (3, .arr 1 (rU gs)), (2, .arr 1 [[.slc 3 1 0 gs.length gs.length]]), (1, .arr 1 [[.dp (readW c).d]])], 5, 130, [0], 0⟩) _ ⟨(2 ^ (blocksOf c).length - 1), [], ?_, rfl, rfl⟩ ?_))
    · exact ⟨by omega, hlst, 1024, by omega, hG0.symm⟩
    rintro mm ss ⟨s, gs, hI, rfl, rfl⟩
    obtain ⟨hs2, hsl, f, hsf, hsg⟩ := hI
    have hs10 : s < 1024 := by omega
    have hgl : gs.length ≤ G0.length := by rw [← hsg, List.length_append]; omega
    have hG1024 : G0.length < 1024 := by omega
    refine Tr.seq ?_
    refine Tr.reg [4, 5, 6, 8, 9, 10, 38] (by
        simp only [↓sxd, sxu, ↓zE, ↓exq, St.keep, ↓zD, Nat.reduceBEq, Nat.reduceLT, tysW47_57]
        (repeat' (first | rfl | exact trivial | exact fun h => h | exact fun h => (by rw [h]; rfl) | apply And.intro | omega | exact Nat.le_of_ble_eq_true rfl))) ?_
    refine Tr.cond rfl (fun h38 => ?_) (fun h38 => ?_)
    · have hs0 : s ≠ 0 := by have := bne_iff_ne.1 h38; omega
      refine Tr.skip ?_
      refine Tr.seq ?_
      refine Tr.block ?_
      refine Tr.reg [4, 5, 6, 8, 9, 10, 41] (by
          simp only [↓sxd, sxu, ↓zE, ↓exq, St.keep, ↓zD, Nat.reduceBEq, Nat.reduceLT, tysW47_57]
          (repeat ((with_reducible refine And.intro ?_ ?_); (focus (first | with_reducible rfl | trivial | exact fun h => h | exact fun h => (by rw [h]; rfl) | omega | assumption))))
          refine (groupsD_h _ _ _ s).mono ?_
          rintro r hp' nx' ⟨rfl, rfl, rfl⟩
          try simp only [↓sxd, sxu, Nat.reduceBEq, Nat.reduceAdd]
          (repeat' (first | rfl | exact trivial | exact fun h => h | exact fun h => (by rw [h]; rfl) | apply And.intro | omega | exact Nat.le_of_ble_eq_true rfl))) ?_
      refine Tr.block ?_
      refine Tr.rangeF2 rfl (fun fn ca cb has hbd => ?_)
      try dsimp only
      refine CallH.mono (groups1D_h (readW c) hl1 s hs10 (fun gs => ∀ x ∈ gs, ((readW c).least.getD s 0 == 1 + (readW c).least.getD (s ^^^ (s &&& x)) 0) = false) (fun x hx => by cases hx) (fun _ => (7, .loop fn _ _ _ ca cb .ready none 0) :: (6, .arr 1 [[U s]]) :: (5, .arr 1 [[.dp (readW c).d]]) :: (4, .arr 1 [[U s]]) :: (3, .arr 1 (rU gs)) :: (2, .arr 1 [[.slc 3 1 0 gs.length gs.length]]) :: (1, .arr 1 [[.dp (readW c).d]]) :: []) 8 6 5 7 (fun _ => rfl) (fun _ => rfl) (fun hp' nx' => ∃ g, pickG (readW c).one (readW c).least s = some g ∧ hp' = [(8, .arr 1 (rU gs ++ [[U g]])), (7, .loop fn [(4, .dx []), (5, I 0), (6, .ptr 1 0 0), (8, I (c.manyS most)), (9, .ptr 2 0 0), (10, .ptr 4 0 0), (41, .clo (.func 117) [] [.ptr 6 0 0, .ptr 5 0 0])] 130 #[42] ca cb .done (some (.exit 2)) 0), (6, .arr 1 [[U s]]), (5, .arr 1 [[.dp (readW c).d]]), (4, .arr 1 [[U (s ^^^ (s &&& g) : Nat)]]), (2, .arr 1 [[.slc 8 1 0 (gs.length + 1) (gs.length + 1)]]), (1, .arr 1 [[.dp (readW c).d]])] ∧ nx' = 9) ?_) ?_
      · intro qs g ts hqs hno
        have hgm : g ∈ groupsL (readW c).one s := by rw [← hqs]; simp
        obtain ⟨g1, g2, g3, g4⟩ := ho.t.group hs2 hs0 hgm
        have hg : g < 1024 := Nat.lt_of_lt_of_le (sub_lt g1 hs2) hp10
        have hx := andNot_le s g
        have hb1 := ho.t.b s
        have hb2 := ho.t.b (s ^^^ (s &&& g))
        refine RoundH.of_body2 has hbd rfl rfl (fun t ht => by simp at ht; subst ht; decide) (fun ro => ?_)
        refine Tr.reg1 [4, 5, 6, 8, 9, 10, 11] (by
            simp only [↓sxd, sxu, ↓zE, ↓exq, St.keep, Nat.reduceBEq, Nat.reduceLT, bindT]
            (repeat' (first | rfl | exact trivial | exact fun h => h | exact fun h => (by rw [h]; rfl) | apply And.intro | omega | exact Nat.le_of_ble_eq_true rfl))) ?_
        refine ⟨rfl, none, _, rfl, ?_⟩
        try dsimp only
        refine Tr.block ?_
        have wL : IntKind.i64.wrap (1 + (readW c).least.getD (s ^^^ (s &&& g)) 0) = 1 + (readW c).least.getD (s ^^^ (s &&& g)) 0 := wr (by omega) (by omega)
        refine Tr.regD [0, 1, 2, 3, 4, 5, 6, 7, 8, 9, 10, 11, 12, 13, 14, 15] [] [] [4, 5, 6, 8, 9, 10, 11, 58] mix (by kernel_rfl) (by
            simp only [↓sxd, sxu, ↓zC, zK, ↓exq, St.keep, ↓zD, ↓zV, ↓zA, Nat.reduceBEq, Nat.reduceLT, Nat.reduceEqDiff, sxe, tysW47_57, Work.tl, tl_least hl1, le_get (show s < (readW c).least.length by omega), le_get0 (show s < (readW c).least.length by omega), le_get (show s ^^^ (s &&& g) < (readW c).least.length by omega), le_get0 (show s ^^^ (s &&& g) < (readW c).least.length by omega), andNot_u (show s < 18446744073709551616 by omega) (show g < 18446744073709551616 by omega), wL]
            (repeat' (first | rfl | exact trivial | exact fun h => h | exact fun h => (by rw [h]; rfl) | apply And.intro | omega | exact Nat.le_of_ble_eq_true rfl))) ?_
        refine Tr.cond rfl (fun h58 => ?_) (fun h58 => ?_)
        · skip
          have hk1 : (gs.length + 1 ≤ 1073741824) = True := eq_true (by omega)
          refine Tr.reg [4, 5, 6, 8, 9, 10, 11] (by
              simp only [↓sxd, sxu, ↓zE, ↓exq, ↓zB, St.keep, ↓zD, ↓zG, ↓zQ, Nat.reduceBEq, Nat.reduceAdd, Nat.reduceLT, Nat.reduceLeDiff, Nat.reduceEqDiff, tysW47_57, hk1]
              (repeat' (first | rfl | exact trivial | exact fun h => h | exact fun h => (by rw [h]; rfl) | apply And.intro | omega | exact Nat.le_of_ble_eq_true rfl))) ?_
          refine Tr.reg [4, 5, 6, 8, 9, 10] (by
              simp only [↓sxd, sxu, ↓zE, ↓exq, St.keep, ↓zD, Nat.reduceBEq, Nat.reduceLT, Nat.reduceEqDiff, tysW47_57, andNot_u (show s < 18446744073709551616 by omega) (show g < 18446744073709551616 by omega)]
              (repeat' (first | rfl | exact trivial | exact fun h => h | exact fun h => (by rw [h]; rfl) | apply And.intro | omega | exact Nat.le_of_ble_eq_true rfl))) ?_
          refine Tr.exit ?_
          refine ⟨_, _, _, _, _, _, _, _, _, rfl, ?_⟩
          exact .inr ⟨rfl, g, pickG_first hqs hno h58, rfl, rfl⟩
        · refine Tr.skip ?_
          refine ⟨_, _, _, _, _, _, _, _, _, rfl, ?_⟩
          refine .inl ⟨rfl, fun x hx => ?_, rfl, rfl⟩
          rcases List.mem_append.1 hx with hx | hx
          · exact hno x hx
          · rw [List.mem_singleton] at hx
            rw [hx]; exact h58
      rintro r hp' nx' (⟨hno, _, _⟩ | ⟨g, hpk, rfl, rfl⟩)
      · exact (ho.t.none hs2 hs0 hsl hno).elim
      obtain ⟨hgm, hgL⟩ := pickG_spec hpk
      obtain ⟨g1, g2, g3, g4⟩ := ho.t.group hs2 hs0 hgm
      obtain ⟨f, rfl⟩ : ∃ f', f = f' + 1 := ⟨f - 1, by omega⟩
      rw [showG, if_neg hs0, hpk] at hsg
      refine ⟨_, .done, some (.exit 2), rfl, by decide, ?_⟩
      try dsimp only
      refine Tr.exit ?_
      refine Tr.reg [4, 5, 6, 8, 9, 66] (by
          simp only [↓sxd, sxu, ↓zE, ↓exq, St.keep, ↓zD, Nat.reduceBEq, Nat.reduceLT, Nat.reduceEqDiff, tysW47_57]
          (repeat' (first | rfl | exact trivial | exact fun h => h | exact fun h => (by rw [h]; rfl) | apply And.intro | omega | exact Nat.le_of_ble_eq_true rfl))) ?_
      refine Tr.reg1 [4, 5, 6, 8, 9, 10] (by
          simp only [↓sxd, sxu, ↓zE, ↓exq, St.keep, ↓zM, Nat.reduceBEq, Nat.reduceAdd, Nat.reduceLT, Nat.reduceEqDiff, tysW47_57]
          (repeat' (first | rfl | exact trivial | exact fun h => h | exact fun h => (by rw [h]; rfl) | apply And.intro | omega | exact Nat.le_of_ble_eq_true rfl))) ?_
      refine ⟨_, _, ?_, ?_, ⟨s ^^^ (s &&& g), gs ++ [g], ⟨by omega, by omega, f, by omega, ?_⟩, rfl, rfl⟩⟩
      · exact g4
      · rw [List.length_append, List.length_singleton, rU_snoc]
        exact Imp.go (fun i => if i = 3 then 8 else if i = 4 then 9 else if i < 3 then i else i + 5) [(9, _), (8, _), (2, _), (1, _)] rfl rfl (.cons_cons _ (.cons_cons _ (.cons _ (.cons _ (.cons _ (.cons _ (.refl _))))))) (fun _ h => absurd h (Nat.not_lt_zero _)) (fun id h => by simp only [show ¬ id = 3 by omega, show ¬ id = 4 by omega, show ¬ id < 3 by omega, if_false]; omega) (by repeat' (first | exact TmT.cons rfl (TnS.d _) ?_ | exact trivial | exact F2.nil | refine F2.append ?_ ?_ | refine F2.map fun _ _ => ?_ | refine F2.cons ?_ ?_ | refine TmT.cons rfl ?_ ?_ | exact TnS.d _ | exact TnS.dx _ | exact TnS.dp _ | exact TnS.slc rfl | exact TnS.ptr rfl | refine TnS.frzf rfl (by simp) (by simp) (by simp) ?_ | refine TnS.frz0 rfl (by simp) (by simp) (by simp) ?_ | refine TnS.frzm rfl (by simp) ?_ | exact TnS.mapr rfl | exact TnS.yld rfl | refine ⟨rfl, ?_⟩ | refine TnO.arr ?_ | refine TnO.map ?_ | exact TnO.raw _ | exact TnO.iter _ _ | refine TnS.agg ?_ | refine TnS.tup ?_ | exact TnS.pure (Pure.clo (by assumption) (by assumption)) | refine TnS.clo ?_ ?_ | exact TnS.unk _ | exact TnS.pure (Pure.clo (by assumption) (by assumption)))) (by repeat' (first | exact TmT.cons rfl (TnS.d _) ?_ | exact trivial | exact F2.nil | refine F2.append ?_ ?_ | refine F2.map fun _ _ => ?_ | refine F2.cons ?_ ?_ | refine TmT.cons rfl ?_ ?_ | exact TnS.d _ | exact TnS.dx _ | exact TnS.dp _ | exact TnS.slc rfl | exact TnS.ptr rfl | refine TnS.frzf rfl (by simp) (by simp) (by simp) ?_ | refine TnS.frz0 rfl (by simp) (by simp) (by simp) ?_ | refine TnS.frzm rfl (by simp) ?_ | exact TnS.mapr rfl | exact TnS.yld rfl | refine ⟨rfl, ?_⟩ | refine TnO.arr ?_ | refine TnO.map ?_ | exact TnO.raw _ | exact TnO.iter _ _ | refine TnS.agg ?_ | refine TnS.tup ?_ | exact TnS.pure (Pure.clo (by assumption) (by assumption)) | refine TnS.clo ?_ ?_ | exact TnS.unk _ | exact TnS.pure (Pure.clo (by assumption) (by assumption)))) (fun h => by cases h)
      · rw [← hsg, List.append_assoc]; rfl
    · have hs0 : s = 0 := by simpa using h38
      refine Tr.exit ?_
      refine Tr.seq ?_
      subst hs0
      obtain ⟨f, rfl⟩ : ∃ f', f = f' + 1 := ⟨f - 1, by omega⟩
      rw [showG, if_pos rfl, List.append_nil] at hsg
      subst hsg
      obtain ⟨mn, hmm⟩ := Int.eq_ofNat_of_zero_le hm1
      have hml : gs.length ≤ mn := by
        have : lst c ≤ mn := by rw [← hmm]; exact hm2
        have hl : (readW c).least.getD (2 ^ (blocksOf c).length - 1) 0 = lst c := rfl
        omega
      have hmb : mn ≤ (blocksOf c).length := by omega
      refine Tr.reg [6, 8, 9, 12] (by
          simp only [↓sxd, sxu, ↓zE, ↓exq, St.keep, Nat.reduceBEq, Nat.reduceLT]
          (repeat' (first | rfl | exact trivial | exact fun h => h | exact fun h => (by rw [h]; rfl) | apply And.intro | omega | exact Nat.le_of_ble_eq_true rfl))) ?_
      refine Tr.imp (st' := ⟨[(6, .ptr 1 0 0), (8, I (c.manyS most)), (9, .ptr 2 0 0), (12, I 0)], [(3, .arr 1 (rU gs)), (2, .arr 1 [[.slc 3 1 0 gs.length gs.length]]), (1, .arr 1 [[.dp (readW c).d]])], 5, 130, [0], 0⟩) (Imp.go (fun i => i) [(3, _), (2, _), (1, _)] rfl rfl (.cons _ (.refl _)) (fun _ _ => rfl) (fun _ h => h) (by repeat' (first | exact TmT.cons rfl (TnS.d _) ?_ | exact trivial | exact F2.nil | refine F2.append ?_ ?_ | refine F2.map fun _ _ => ?_ | refine F2.cons ?_ ?_ | refine TmT.cons rfl ?_ ?_ | exact TnS.d _ | exact TnS.dx _ | exact TnS.dp _ | exact TnS.slc rfl | exact TnS.ptr rfl | refine TnS.frzf rfl (by simp) (by simp) (by simp) ?_ | refine TnS.frz0 rfl (by simp) (by simp) (by simp) ?_ | refine TnS.frzm rfl (by simp) ?_ | exact TnS.mapr rfl | exact TnS.yld rfl | refine ⟨rfl, ?_⟩ | refine TnO.arr ?_ | refine TnO.map ?_ | exact TnO.raw _ | exact TnO.iter _ _ | refine TnS.agg ?_ | refine TnS.tup ?_ | exact TnS.pure (Pure.clo (by assumption) (by assumption)) | refine TnS.clo ?_ ?_ | exact TnS.unk _ | exact TnS.pure (Pure.clo (by assumption) (by assumption)))) (by repeat' (first | exact TmT.cons rfl (TnS.d _) ?_ | exact trivial | exact F2.nil | refine F2.append ?_ ?_ | refine F2.map fun _ _ => ?_ | refine F2.cons ?_ ?_ | refine TmT.cons rfl ?_ ?_ | exact TnS.d _ | exact TnS.dx _ | exact TnS.dp _ | exact TnS.slc rfl | exact TnS.ptr rfl | refine TnS.frzf rfl (by simp) (by simp) (by simp) ?_ | refine TnS.frz0 rfl (by simp) (by simp) (by simp) ?_ | refine TnS.frzm rfl (by simp) ?_ | exact TnS.mapr rfl | exact TnS.yld rfl | refine ⟨rfl, ?_⟩ | refine TnO.arr ?_ | refine TnO.map ?_ | exact TnO.raw _ | exact TnO.iter _ _ | refine TnS.agg ?_ | refine TnS.tup ?_ | exact TnS.pure (Pure.clo (by assumption) (by assumption)) | refine TnS.clo ?_ ?_ | exact TnS.unk _ | exact TnS.pure (Pure.clo (by assumption) (by assumption)))) (fun h => by cases h)) (Tr.block (Tr.loopI (fun mm ss => ∃ (i : Nat) (qs : List Nat), (SplitOk (oneP c) (blocksOf c).length qs i ∧ qs.length ≤ mn ∧ ∃ f, splitG mn f qs i = c.groupsS most ∧ 2 * mn ≤ f + qs.length + i) ∧ 2 * mn - qs.length - i = mm ∧ ss = ⟨[(6, .ptr 1 0 0), (8, I (c.manyS most)), (9, .ptr 2 0 0), (12, I i)], [(3, .arr 1 (rU qs)), (2, .arr 1 [[.slc 3 1 0 qs.length qs.length]]), (1, .arr 1 [[.dp (readW c).d]])], 5, 130, [0], 0⟩) _ ⟨0, gs, ?_, rfl, rfl⟩ ?_))
      · exact ⟨⟨hGp, Nat.zero_le _, fun k hk => by omega⟩, hml, 20, by unfold Census.groupsS; rw [hmm, ← hG0]; rfl, by omega⟩
      rintro mm ss ⟨i, qs, hI, rfl, rfl⟩
      obtain ⟨hsp, hql, f2, hf2, hfl⟩ := hI
      refine Tr.seq ?_
      refine Tr.reg [6, 8, 9, 12, 70] (by
          simp only [↓sxd, sxu, ↓zE, ↓exq, ↓zB, St.keep, ↓zJ, ↓zD, Nat.reduceBEq, Nat.reduceLT, tysW47_57]
          (repeat' (first | rfl | exact trivial | exact fun h => h | exact fun h => (by rw [h]; rfl) | apply And.intro | omega | exact Nat.le_of_ble_eq_true rfl))) ?_
      refine Tr.cond rfl (fun h70 => ?_) (fun h70 => ?_)
      · have hlt : qs.length < mn := by have := of_decide_eq_true h70; omega
        have hi := hsp.lt hnb (by omega)
        obtain ⟨x0, x1, x2, x3⟩ := hsp.get hnb hi
        have hge := rU_get hi
        obtain ⟨f2, rfl⟩ : ∃ f', f2 = f' + 1 := ⟨f2 - 1, by omega⟩
        have hlb := (bits_le x1).1
        refine Tr.skip ?_
        refine Tr.block ?_
        refine Tr.regD [0, 1, 2, 3, 4, 5, 6, 7, 8, 9, 10] [] [] [6, 8, 9, 12, 13] mix (by kernel_rfl) (by
            simp only [↓sxd, sxu, ↓zC, zK, ↓exq, St.keep, ↓zL, ↓zD, Nat.reduceBEq, Nat.reduceLT, sxe, tysW47_57, hi, hge, lowb_u (show qs.getD i 0 < 4096 by omega)]
            (repeat' (first | rfl | exact trivial | exact fun h => h | exact fun h => (by rw [h]; rfl) | apply And.intro | omega | exact Nat.le_of_ble_eq_true rfl))) ?_
        refine Tr.seq ?_
        refine Tr.reg [6, 8, 9, 12, 13, 86] (by
            simp only [↓sxd, sxu, ↓zE, ↓exq, St.keep, ↓zD, Nat.reduceBEq, Nat.reduceLT, sxe, tysW47_57, hi, hge]
            (repeat' (first | rfl | exact trivial | exact fun h => h | exact fun h => (by rw [h]; rfl) | apply And.intro | omega | exact Nat.le_of_ble_eq_true rfl))) ?_
        refine Tr.cond rfl (fun h86 => ?_) (fun h86 => ?_)
        · have hs1 : lowb (qs.getD i 0) = qs.getD i 0 := by have := beq_iff_eq.1 h86; omega
          rw [splitG, if_pos hlt, if_pos hs1] at hf2
          have w1 : IntKind.i64.wrap ((i : Int) + 1) = ((i + 1 : Nat) : Int) := by rw [wr (by omega) (by omega)]; rfl
          refine Tr.reg [6, 8, 9, 12] (by
              simp only [↓sxd, sxu, ↓zE, ↓exq, St.keep, Nat.reduceBEq, Nat.reduceLT, w1]
              (repeat' (first | rfl | exact trivial | exact fun h => h | exact fun h => (by rw [h]; rfl) | apply And.intro | omega | exact Nat.le_of_ble_eq_true rfl))) ?_
          refine Tr.exit ?_
          first |(have hz := hs1.symm; exact ⟨_, _, by omega, Imp.keepAll, ⟨i + 1, qs, ⟨hsp.next hi hs1, hql, f2, hf2, by omega⟩, rfl, rfl⟩⟩) |(exact ⟨_, _, (by rw [cutG_len]; omega), (by rw [cutG_len, rU_cut]; exact Imp.go (fun i => if i = 3 then 5 else if i < 5 then i else i + 1) [(5, _), (2, _), (1, _)] rfl rfl (.refl _) (fun _ h => absurd h (Nat.not_lt_zero _)) (fun id h => by simp only [show ¬ id = 3 by omega, show ¬ id < 5 by omega, if_false]; omega) (by repeat' (first | exact TmT.cons rfl (TnS.d _) ?_ | exact trivial | exact F2.nil | refine F2.append ?_ ?_ | refine F2.map fun _ _ => ?_ | refine F2.cons ?_ ?_ | refine TmT.cons rfl ?_ ?_ | exact TnS.d _ | exact TnS.dx _ | exact TnS.dp _ | exact TnS.slc rfl | exact TnS.ptr rfl | refine TnS.frzf rfl (by simp) (by simp) (by simp) ?_ | refine TnS.frz0 rfl (by simp) (by simp) (by simp) ?_ | refine TnS.frzm rfl (by simp) ?_ | exact TnS.mapr rfl | exact TnS.yld rfl | refine ⟨rfl, ?_⟩ | refine TnO.arr ?_ | refine TnO.map ?_ | exact TnO.raw _ | exact TnO.iter _ _ | refine TnS.agg ?_ | refine TnS.tup ?_ | exact TnS.pure (Pure.clo (by assumption) (by assumption)) | refine TnS.clo ?_ ?_ | exact TnS.unk _ | exact TnS.pure (Pure.clo (by assumption) (by assumption)))) (.cons ⟨rfl, TnO.arr rU_cut_tn⟩ (.cons ⟨rfl, TnO.arr (by repeat' (first | exact TmT.cons rfl (TnS.d _) ?_ | exact trivial | exact F2.nil | refine F2.append ?_ ?_ | refine F2.map fun _ _ => ?_ | refine F2.cons ?_ ?_ | refine TmT.cons rfl ?_ ?_ | exact TnS.d _ | exact TnS.dx _ | exact TnS.dp _ | exact TnS.slc rfl | exact TnS.ptr rfl | refine TnS.frzf rfl (by simp) (by simp) (by simp) ?_ | refine TnS.frz0 rfl (by simp) (by simp) (by simp) ?_ | refine TnS.frzm rfl (by simp) ?_ | exact TnS.mapr rfl | exact TnS.yld rfl | refine ⟨rfl, ?_⟩ | refine TnO.arr ?_ | refine TnO.map ?_ | exact TnO.raw _ | exact TnO.iter _ _ | refine TnS.agg ?_ | refine TnS.tup ?_ | exact TnS.pure (Pure.clo (by assumption) (by assumption)) | refine TnS.clo ?_ ?_ | exact TnS.unk _ | exact TnS.pure (Pure.clo (by assumption) (by assumption))))⟩ (.cons ⟨rfl, TnO.arr (by repeat' (first | exact TmT.cons rfl (TnS.d _) ?_ | exact trivial | exact F2.nil | refine F2.append ?_ ?_ | refine F2.map fun _ _ => ?_ | refine F2.cons ?_ ?_ | refine TmT.cons rfl ?_ ?_ | exact TnS.d _ | exact TnS.dx _ | exact TnS.dp _ | exact TnS.slc rfl | exact TnS.ptr rfl | refine TnS.frzf rfl (by simp) (by simp) (by simp) ?_ | refine TnS.frz0 rfl (by simp) (by simp) (by simp) ?_ | refine TnS.frzm rfl (by simp) ?_ | exact TnS.mapr rfl | exact TnS.yld rfl | refine ⟨rfl, ?_⟩ | refine TnO.arr ?_ | refine TnO.map ?_ | exact TnO.raw _ | exact TnO.iter _ _ | refine TnS.agg ?_ | refine TnS.tup ?_ | exact TnS.pure (Pure.clo (by assumption) (by assumption)) | refine TnS.clo ?_ ?_ | exact TnS.unk _ | exact TnS.pure (Pure.clo (by assumption) (by assumption))))⟩ .nil))) (fun h => by cases h)), ⟨i, cutG qs i, ⟨hsp.cut (oneP_down ho.f.pairs ho.f.n10) hnb hi hs1, by rw [cutG_len]; omega, f2, hf2, by rw [cutG_len]; omega⟩, rfl, rfl⟩⟩)
        · have hs1 : lowb (qs.getD i 0) ≠ qs.getD i 0 := fun hc => by rw [hc] at h86; simp at h86
          rw [splitG, if_pos hlt, if_neg hs1] at hf2
          refine Tr.skip ?_
          refine Tr.reg [6, 8, 9, 12, 13] (by
              simp only [↓sxd, sxu, ↓zE, ↓exq, St.keep, ↓zD, Nat.reduceBEq, Nat.reduceLT, Nat.reduceEqDiff, sxe, tysW47_57, hi, hge, andNot_u (show qs.getD i 0 < 18446744073709551616 by omega) (show lowb (qs.getD i 0) < 18446744073709551616 by omega)]
              (repeat' (first | rfl | exact trivial | exact fun h => h | exact fun h => (by rw [h]; rfl) | apply And.intro | omega | exact Nat.le_of_ble_eq_true rfl))) ?_
          have hrl : (rU qs).length = qs.length := by simp
          have hk3 : (qs.length ≤ 1073741823) = True := eq_true (by omega)
          have hk2 : (qs.length + 1 ≤ 1073741824) = True := eq_true (by omega)
          refine Tr.reg1 [6, 8, 9, 12] (by
              simp only [↓sxd, sxu, ↓zE, ↓exq, ↓zB, St.keep, ↓zD, ↓zG, ↓zQ, Nat.reduceBEq, Nat.reduceAdd, Nat.reduceLT, Nat.reduceLeDiff, Nat.reduceEqDiff, tysW47_57, hk2, List.length_set, hrl]
              (repeat' (first | rfl | exact trivial | exact fun h => h | exact fun h => (by rw [h]; rfl) | apply And.intro | omega | exact Nat.le_of_ble_eq_true rfl))) ?_
          first |(have hz := hs1.symm; exact ⟨_, _, by omega, Imp.keepAll, ⟨i + 1, qs, ⟨hsp.next hi hs1, hql, f2, hf2, by omega⟩, rfl, rfl⟩⟩) |(exact ⟨_, _, (by rw [cutG_len]; omega), (by rw [cutG_len, rU_cut]; exact Imp.go (fun i => if i = 3 then 5 else if i < 5 then i else i + 1) [(5, _), (2, _), (1, _)] rfl rfl (.refl _) (fun _ h => absurd h (Nat.not_lt_zero _)) (fun id h => by simp only [show ¬ id = 3 by omega, show ¬ id < 5 by omega, if_false]; omega) (by repeat' (first | exact TmT.cons rfl (TnS.d _) ?_ | exact trivial | exact F2.nil | refine F2.append ?_ ?_ | refine F2.map fun _ _ => ?_ | refine F2.cons ?_ ?_ | refine TmT.cons rfl ?_ ?_ | exact TnS.d _ | exact TnS.dx _ | exact TnS.dp _ | exact TnS.slc rfl | exact TnS.ptr rfl | refine TnS.frzf rfl (by simp) (by simp) (by simp) ?_ | refine TnS.frz0 rfl (by simp) (by simp) (by simp) ?_ | refine TnS.frzm rfl (by simp) ?_ | exact TnS.mapr rfl | exact TnS.yld rfl | refine ⟨rfl, ?_⟩ | refine TnO.arr ?_ | refine TnO.map ?_ | exact TnO.raw _ | exact TnO.iter _ _ | refine TnS.agg ?_ | refine TnS.tup ?_ | exact TnS.pure (Pure.clo (by assumption) (by assumption)) | refine TnS.clo ?_ ?_ | exact TnS.unk _ | exact TnS.pure (Pure.clo (by assumption) (by assumption)))) (.cons ⟨rfl, TnO.arr rU_cut_tn⟩ (.cons ⟨rfl, TnO.arr (by repeat' (first | exact TmT.cons rfl (TnS.d _) ?_ | exact trivial | exact F2.nil | refine F2.append ?_ ?_ | refine F2.map fun _ _ => ?_ | refine F2.cons ?_ ?_ | refine TmT.cons rfl ?_ ?_ | exact TnS.d _ | exact TnS.dx _ | exact TnS.dp _ | exact TnS.slc rfl | exact TnS.ptr rfl | refine TnS.frzf rfl (by simp) (by simp) (by simp) ?_ | refine TnS.frz0 rfl (by simp) (by simp) (by simp) ?_ | refine TnS.frzm rfl (by simp) ?_ | exact TnS.mapr rfl | exact TnS.yld rfl | refine ⟨rfl, ?_⟩ | refine TnO.arr ?_ | refine TnO.map ?_ | exact TnO.raw _ | exact TnO.iter _ _ | refine TnS.agg ?_ | refine TnS.tup ?_ | exact TnS.pure (Pure.clo (by assumption) (by assumption)) | refine TnS.clo ?_ ?_ | exact TnS.unk _ | exact TnS.pure (Pure.clo (by assumption) (by assumption))))⟩ (.cons ⟨rfl, TnO.arr (by repeat' (first | exact TmT.cons rfl (TnS.d _) ?_ | exact trivial | exact F2.nil | refine F2.append ?_ ?_ | refine F2.map fun _ _ => ?_ | refine F2.cons ?_ ?_ | refine TmT.cons rfl ?_ ?_ | exact TnS.d _ | exact TnS.dx _ | exact TnS.dp _ | exact TnS.slc rfl | exact TnS.ptr rfl | refine TnS.frzf rfl (by simp) (by simp) (by simp) ?_ | refine TnS.frz0 rfl (by simp) (by simp) (by simp) ?_ | refine TnS.frzm rfl (by simp) ?_ | exact TnS.mapr rfl | exact TnS.yld rfl | refine ⟨rfl, ?_⟩ | refine TnO.arr ?_ | refine TnO.map ?_ | exact TnO.raw _ | exact TnO.iter _ _ | refine TnS.agg ?_ | refine TnS.tup ?_ | exact TnS.pure (Pure.clo (by assumption) (by assumption)) | refine TnS.clo ?_ ?_ | exact TnS.unk _ | exact TnS.pure (Pure.clo (by assumption) (by assumption))))⟩ .nil))) (fun h => by cases h)), ⟨i, cutG qs i, ⟨hsp.cut (oneP_down ho.f.pairs ho.f.n10) hnb hi hs1, by rw [cutG_len]; omega, f2, hf2, by rw [cutG_len]; omega⟩, rfl, rfl⟩⟩)
      · have hqe : qs.length = mn := by have := of_decide_eq_false h70; omega
        have hqs : qs = c.groupsS most := by
          rw [← hf2]
          cases f2 with
          | zero => rfl
          | succ f2 => rw [splitG, if_neg (by omega)]
        rw [← hqs]
        refine Tr.exit ?_
        refine Tr.reg [6, 9, 14] (by
            simp only [↓sxd, sxu, ↓zE, ↓exq, St.keep, Nat.reduceBEq, Nat.reduceLT]
            (repeat' (first | rfl | exact trivial | exact fun h => h | exact fun h => (by rw [h]; rfl) | apply And.intro | omega | exact Nat.le_of_ble_eq_true rfl))) ?_
        refine Tr.seq ?_
        refine Tr.reg [6, 14, 100, 101, 102] (by
            simp only [↓sxd, sxu, ↓zE, ↓exq, ↓zB, St.keep, ↓zJ, ↓zD, Nat.reduceBEq, Nat.reduceLT, tysW47_57]
            (repeat' (first | rfl | exact trivial | exact fun h => h | exact fun h => (by rw [h]; rfl) | apply And.intro | omega | exact Nat.le_of_ble_eq_true rfl))) ?_
        refine Tr.imp (st' := ⟨[(6, .ptr 1 0 0), (14, .slc 5 1 0 0 0), (100, .d (.sl (dU qs))), (101, I qs.length), (102, I 0)], [(5, .arr 1 []), (1, .arr 1 [[.dp (readW c).d]])], 6, 130, [0], 0⟩) (Imp.trans (b := ⟨[(6, .ptr 1 0 0), (14, .dx []), (100, .d (.sl (dU qs))), (101, I qs.length), (102, I 0)], [(1, .arr 1 [[.dp (readW c).d]])], 5, 130, [0], 0⟩) (Imp.go (fun i => i) [(1, _)] rfl rfl (.cons _ (.cons _ (.refl _))) (fun _ _ => rfl) (fun _ h => h) (.cons rfl (TnS.ptr rfl) (.cons rfl (TnS.dx _) (.cons rfl (TnS.frz0 (id := 3) (sz := 1) (len := qs.length) (es := rU qs) rfl (by simp) (by simp) (by simp) (rU_fz _)) (.cons rfl (TnS.d _) (.cons rfl (TnS.d _) trivial))))) (by repeat' (first | exact TmT.cons rfl (TnS.d _) ?_ | exact trivial | exact F2.nil | refine F2.append ?_ ?_ | refine F2.map fun _ _ => ?_ | refine F2.cons ?_ ?_ | refine TmT.cons rfl ?_ ?_ | exact TnS.d _ | exact TnS.dx _ | exact TnS.dp _ | exact TnS.slc rfl | exact TnS.ptr rfl | refine TnS.frzf rfl (by simp) (by simp) (by simp) ?_ | refine TnS.frz0 rfl (by simp) (by simp) (by simp) ?_ | refine TnS.frzm rfl (by simp) ?_ | exact TnS.mapr rfl | exact TnS.yld rfl | refine ⟨rfl, ?_⟩ | refine TnO.arr ?_ | refine TnO.map ?_ | exact TnO.raw _ | exact TnO.iter _ _ | refine TnS.agg ?_ | refine TnS.tup ?_ | exact TnS.pure (Pure.clo (by assumption) (by assumption)) | refine TnS.clo ?_ ?_ | exact TnS.unk _ | exact TnS.pure (Pure.clo (by assumption) (by assumption)))) (fun h => by cases h)) (Imp.goV 1 rfl rfl rfl rfl (by repeat' (first | exact trivial | exact F2.nil | refine F2.cons ?_ ?_ | refine TmV.cons rfl VnS.nil ?_ | refine TmV.cons rfl VnS.same ?_ | refine ⟨rfl, ?_⟩ | exact VnO.same _ | refine VnO.arr ?_ | exact VnS.nil | exact VnS.same | exact F2.refl fun _ _ => VnS.same)) (by repeat' (first | exact trivial | exact F2.nil | refine F2.cons ?_ ?_ | refine TmV.cons rfl VnS.nil ?_ | refine TmV.cons rfl VnS.same ?_ | refine ⟨rfl, ?_⟩ | exact VnO.same _ | refine VnO.arr ?_ | exact VnS.nil | exact VnS.same | exact F2.refl fun _ _ => VnS.same)))) ?_
        have hbl := (blocksOf_sem ho.f.pairs).ok
        have hn10 := ho.f.n10
        have hn2 : 2 ^ c.entries.length ≤ 2 ^ 10 := Nat.pow_le_pow_right (by omega) hn10
        have hbe : (readW c).blocks = blocksOf c := rfl
        refine Tr.imp (st' := ⟨[(6, .ptr 1 0 0), (14, .slc 5 1 0 0 0), (100, .d (.sl (dU qs))), (101, I qs.length), (102, I 0)], [(5, .arr 1 (uL ((qs.take 0).map fun g => nats (elems (unionB (blocksOf c) (elems g)))))), (1, .arr 1 [[.dp (readW c).d]])], 6, 130, [0], 0⟩) (Imp.keepAll) (Tr.block (Tr.loopI (fun mm ss => ∃ (k : Nat), (k ≤ qs.length) ∧ qs.length - k = mm ∧ ss = ⟨[(6, .ptr 1 0 0), (14, .slc 5 1 0 k k), (100, .d (.sl (dU qs))), (101, I qs.length), (102, I k)], [(5, .arr 1 (uL ((qs.take k).map fun g => nats (elems (unionB (blocksOf c) (elems g)))))), (1, .arr 1 [[.dp (readW c).d]])], 6, 130, [0], 0⟩) _ ⟨0, ?_, rfl, rfl⟩ ?_))
        · exact Nat.zero_le _
        rintro mm ss ⟨k, hI, rfl, rfl⟩
        refine Tr.reg [6, 14, 100, 101, 102, 103] (by
            simp only [↓sxd, sxu, ↓zE, ↓exq, St.keep, Nat.reduceBEq, Nat.reduceLT, sxe]
            (repeat' (first | rfl | exact trivial | exact fun h => h | exact fun h => (by rw [h]; rfl) | apply And.intro | omega | exact Nat.le_of_ble_eq_true rfl))) ?_
        refine Tr.seq ?_
        refine Tr.cond rfl (fun h103 => ?_) (fun h103 => ?_)
        · have hk : k < qs.length := by have := of_decide_eq_true h103; omega
          obtain ⟨x0, x1, x2, x3⟩ := hsp.get hnb hk
          generalize hgd : qs.getD k 0 = g at x0 x1 x2 x3
          refine Tr.skip ?_
          refine Tr.seq ?_
          refine Tr.block ?_
          refine Tr.reg [6, 14, 16, 100, 101, 102] (by
              simp only [↓sxd, sxu, ↓zE, ↓exq, St.keep, ↓zD, Nat.reduceBEq, Nat.reduceLT, sxe, tysW47_57, hk, hgd]
              (repeat' (first | rfl | exact trivial | exact fun h => h | exact fun h => (by rw [h]; rfl) | apply And.intro | omega | exact Nat.le_of_ble_eq_true rfl))) ?_
          refine Tr.reg [6, 14, 16, 17, 100, 101, 102] (by
              simp only [↓sxd, sxu, ↓zE, ↓exq, St.keep, Nat.reduceBEq, Nat.reduceLT]
              (repeat' (first | rfl | exact trivial | exact fun h => h | exact fun h => (by rw [h]; rfl) | apply And.intro | omega | exact Nat.le_of_ble_eq_true rfl))) ?_
          refine Tr.seq ?_
          refine Tr.reg [6, 14, 17, 100, 101, 102, 107, 108, 109] (by
              simp only [↓sxd, sxu, ↓zE, ↓exq, St.keep, Nat.reduceBEq, Nat.reduceLT]
              (repeat ((with_reducible refine And.intro ?_ ?_); (focus (first | with_reducible rfl | trivial | exact fun h => h | exact fun h => (by rw [h]; rfl) | omega | assumption))))
              refine CallO.use (list_c g (by omega)) ?_
              try simp only [↓sxd, sxu, ↓zE, ↓exq, ↓zB, ↓zJ, Nat.reduceBEq, Nat.reduceLT, sxe, tysW47_57]
              (repeat' (first | rfl | exact trivial | exact fun h => h | exact fun h => (by rw [h]; rfl) | apply And.intro | omega | exact Nat.le_of_ble_eq_true rfl))) ?_
          refine Tr.imp (st' := ⟨[(6, .ptr 1 0 0), (14, .slc 5 1 0 k k), (17, U (unionB (blocksOf c) ((elems g).take 0) : Nat)), (100, .d (.sl (dU qs))), (101, I qs.length), (102, I k), (107, SI (nats (elems g))), (108, I (elems g).length), (109, I 0)], [(5, .arr 1 (uL ((qs.take k).map fun g => nats (elems (unionB (blocksOf c) (elems g)))))), (1, .arr 1 [[.dp (readW c).d]])], 6, 130, [0], 0⟩) (by simp only [List.take_zero, nats_len]; exact Imp.keepAll) (Tr.block (Tr.loopI (fun mm ss => ∃ (j : Nat), (j ≤ (elems g).length) ∧ (elems g).length - j = mm ∧ ss = ⟨[(6, .ptr 1 0 0), (14, .slc 5 1 0 k k), (17, U (unionB (blocksOf c) ((elems g).take j) : Nat)), (100, .d (.sl (dU qs))), (101, I qs.length), (102, I k), (107, SI (nats (elems g))), (108, I (elems g).length), (109, I j)], [(5, .arr 1 (uL ((qs.take k).map fun g => nats (elems (unionB (blocksOf c) (elems g)))))), (1, .arr 1 [[.dp (readW c).d]])], 6, 130, [0], 0⟩) _ ⟨0, ?_, rfl, rfl⟩ ?_))
          · exact Nat.zero_le _
          rintro mm ss ⟨j, hI, rfl, rfl⟩
          refine Tr.reg [6, 14, 17, 100, 101, 102, 107, 108, 109, 110] (by
              simp only [↓sxd, sxu, ↓zE, ↓exq, St.keep, Nat.reduceBEq, Nat.reduceLT, sxe]
              (repeat' (first | rfl | exact trivial | exact fun h => h | exact fun h => (by rw [h]; rfl) | apply And.intro | omega | exact Nat.le_of_ble_eq_true rfl))) ?_
          refine Tr.seq ?_
          refine Tr.cond rfl (fun h110 => ?_) (fun h110 => ?_)
          · have hj : j < (elems g).length := by have := of_decide_eq_true h110; omega
            have hin : (elems g).getD j 0 < (blocksOf c).length := elems_lt (getD_mem hj) x3
            have u1 := unionB_lt hbl.lt ((elems g).take j)
            have u2 := hbl.lt _ (getD_mem (d := 0) hin)
            refine Tr.skip ?_
            refine Tr.seq ?_
            refine Tr.block ?_
            refine Tr.reg [6, 14, 17, 19, 100, 101, 102, 107, 108, 109] (by
                simp only [↓sxd, sxu, ↓zE, ↓exq, St.keep, ↓zD, Nat.reduceBEq, Nat.reduceLT, sxe, tysW47_57, nats_len, nats_get, hj]
                (repeat' (first | rfl | exact trivial | exact fun h => h | exact fun h => (by rw [h]; rfl) | apply And.intro | omega | exact Nat.le_of_ble_eq_true rfl))) ?_
            refine Tr.reg1 [6, 14, 17, 100, 101, 102, 107, 108, 109] (by
                simp only [↓sxd, sxu, ↓zE, ↓exq, St.keep, ↓zD, ↓zV, ↓zA, Nat.reduceBEq, Nat.reduceLT, Nat.reduceEqDiff, sxe, tysW47_57, hbe, hin, or_u (show unionB (blocksOf c) ((elems g).take j) < 18446744073709551616 by omega) (show (blocksOf c).getD ((elems g).getD j 0) 0 < 18446744073709551616 by omega)]
                (repeat' (first | rfl | exact trivial | exact fun h => h | exact fun h => (by rw [h]; rfl) | apply And.intro | omega | exact Nat.le_of_ble_eq_true rfl))) ?_
            have hel := elems_len g
            have w3 : IntKind.i64.wrap ((j : Int) + 1) = ((j + 1 : Nat) : Int) := by rw [wr (by omega) (by omega)]; rfl
            refine Tr.reg1 [6, 14, 17, 100, 101, 102, 107, 108, 109] (by
                simp only [↓sxd, sxu, ↓zE, ↓exq, St.keep, Nat.reduceBEq, Nat.reduceLT, w3]
                (repeat' (first | rfl | exact trivial | exact fun h => h | exact fun h => (by rw [h]; rfl) | apply And.intro | omega | exact Nat.le_of_ble_eq_true rfl))) ?_
            refine ⟨_, _, ?_, ?_, ⟨j + 1, hj, rfl, rfl⟩⟩
            · omega
            · have : unionB (blocksOf c) ((elems g).take (j + 1)) = unionB (blocksOf c) ((elems g).take j) ||| (blocksOf c).getD ((elems g).getD j 0) 0 := by
                rw [List.take_succ_eq_append_getElem hj, unionB_snoc, List.getD_eq_getElem?_getD (l := elems g), List.getElem?_eq_getElem hj]; rfl
              rw [this]; exact Imp.keepAll
          · have hje : j = (elems g).length := by have := of_decide_eq_false h110; omega
            subst hje
            have u3 := unionB_lt hbl.lt (elems g)
            refine Tr.exit ?_
            have htl : (qs.take k).length = k := by rw [List.length_take]; omega
            have hkk3 : (k ≤ 1073741823) = True := eq_true (by omega)
            have hkk : (k + 1 ≤ 1073741824) = True := eq_true (by omega)
            refine Tr.reg1 [6, 14, 100, 101, 102] (by
                simp only [↓sxd, sxu, ↓zE, ↓exq, St.keep, Nat.reduceBEq, Nat.reduceLT, List.take_length]
                (repeat ((with_reducible refine And.intro ?_ ?_); (focus (first | with_reducible rfl | trivial | exact fun h => h | exact fun h => (by rw [h]; rfl) | omega | assumption))))
                refine CallO.use (list_c (unionB (blocksOf c) (elems g)) (by omega)) ?_
                try simp only [↓sxd, sxu, ↓zE, ↓exq, ↓zB, ↓zG, ↓zQ, Nat.reduceBEq, Nat.reduceAdd, Nat.reduceLT, Nat.reduceLeDiff, Nat.reduceEqDiff, tysW47_57, hkk, htl]
                (repeat' (first | rfl | exact trivial | exact fun h => h | exact fun h => (by rw [h]; rfl) | apply And.intro | omega | exact Nat.le_of_ble_eq_true rfl))) ?_
            have w4 : IntKind.i64.wrap ((k : Int) + 1) = ((k + 1 : Nat) : Int) := by rw [wr (by omega) (by omega)]; rfl
            refine Tr.reg1 [6, 14, 100, 101, 102] (by
                simp only [↓sxd, sxu, ↓zE, ↓exq, St.keep, Nat.reduceBEq, Nat.reduceLT, w4]
                (repeat' (first | rfl | exact trivial | exact fun h => h | exact fun h => (by rw [h]; rfl) | apply And.intro | omega | exact Nat.le_of_ble_eq_true rfl))) ?_
            refine ⟨_, _, ?_, ?_, ⟨k + 1, hk, rfl, rfl⟩⟩
            · omega
            · have e : ((qs.take (k + 1)).map fun g => nats (elems (unionB (blocksOf c) (elems g)))) = ((qs.take k).map fun g => nats (elems (unionB (blocksOf c) (elems g)))) ++ [nats (elems (unionB (blocksOf c) (elems g)))] := by
                rw [List.take_succ_eq_append_getElem hk, List.map_append, ← hgd, List.getD_eq_getElem?_getD (l := qs), List.getElem?_eq_getElem hk]; rfl
              rw [e, uL_snoc]
              exact Imp.go (fun i => if i = 5 then 6 else if i < 5 then i else i + 1) [(6, _), (1, _)] rfl rfl (.refl _) (fun _ h => absurd h (Nat.not_lt_zero _)) (fun id h => by simp only [show ¬ id = 5 by omega, show ¬ id < 5 by omega, if_false]; omega) (by repeat' (first | exact TmT.cons rfl (TnS.d _) ?_ | exact trivial | exact F2.nil | refine F2.append ?_ ?_ | refine F2.map fun _ _ => ?_ | refine F2.cons ?_ ?_ | refine TmT.cons rfl ?_ ?_ | exact TnS.d _ | exact TnS.dx _ | exact TnS.dp _ | exact TnS.slc rfl | exact TnS.ptr rfl | refine TnS.frzf rfl (by simp) (by simp) (by simp) ?_ | refine TnS.frz0 rfl (by simp) (by simp) (by simp) ?_ | refine TnS.frzm rfl (by simp) ?_ | exact TnS.mapr rfl | exact TnS.yld rfl | refine ⟨rfl, ?_⟩ | refine TnO.arr ?_ | refine TnO.map ?_ | exact TnO.raw _ | exact TnO.iter _ _ | refine TnS.agg ?_ | refine TnS.tup ?_ | exact TnS.pure (Pure.clo (by assumption) (by assumption)) | refine TnS.clo ?_ ?_ | exact TnS.unk _ | exact TnS.pure (Pure.clo (by assumption) (by assumption)))) (by repeat' (first | exact TmT.cons rfl (TnS.d _) ?_ | exact trivial | exact F2.nil | refine F2.append ?_ ?_ | refine F2.map fun _ _ => ?_ | refine F2.cons ?_ ?_ | refine TmT.cons rfl ?_ ?_ | exact TnS.d _ | exact TnS.dx _ | exact TnS.dp _ | exact TnS.slc rfl | exact TnS.ptr rfl | refine TnS.frzf rfl (by simp) (by simp) (by simp) ?_ | refine TnS.frz0 rfl (by simp) (by simp) (by simp) ?_ | refine TnS.frzm rfl (by simp) ?_ | exact TnS.mapr rfl | exact TnS.yld rfl | refine ⟨rfl, ?_⟩ | refine TnO.arr ?_ | refine TnO.map ?_ | exact TnO.raw _ | exact TnO.iter _ _ | refine TnS.agg ?_ | refine TnS.tup ?_ | exact TnS.pure (Pure.clo (by assumption) (by assumption)) | refine TnS.clo ?_ ?_ | exact TnS.unk _ | exact TnS.pure (Pure.clo (by assumption) (by assumption)))) (fun h => by cases h)
        · have hke : k = qs.length := by have := of_decide_eq_false h103; omega
          subst hke
          rw [List.take_length]
          refine Tr.exit ?_
          refine Tr.reg [4, 5] (by
              simp only [↓sxd, sxu, ↓zE, ↓exq, St.keep, Nat.reduceBEq, Nat.reduceLT]
              (repeat' (first | rfl | exact trivial | exact fun h => h | exact fun h => (by rw [h]; rfl) | apply And.intro | omega | exact Nat.le_of_ble_eq_true rfl))) ?_
          refine Tr.imp (Imp.fin (tm' := [(4, SL (qs.map fun g => nats (elems (unionB (blocksOf c) (elems g))))), (5, I 0)]) ?_) ?_
          · exact .cons rfl (TnS.frz0 (es := uL _) rfl (by simp) (by simp) (by simp) (uL_fz _)) (.cons rfl (TnS.d _) trivial)
          refine Tr.ret ?_
          (refine ⟨.inr rfl, ?_⟩; first | rfl | exact ⟨rfl, rfl, trivial⟩ | exact ⟨rfl, rfl, rfl, trivial⟩ | (simp only [Res, ResL, ResOK, ↓sxd, sxu, ↓zE, ↓zC, zK, ↓exP, ↓exq, ↓zB, St.keep, ↓zL, ↓zJ, ↓zD, ↓zN, ↓zV, ↓zM, ↓zI, ↓zG, ↓zQ, ↓z7, ↓zA, Nat.reduceBEq, Nat.reduceAdd, Nat.reduceLT, Nat.reduceMul, Nat.reduceSub, Nat.reduceLeDiff, Nat.reduceEqDiff, Int.reduceLE, Int.reduceLT, Int.reduceToNat, reduceIte, implies_true, sxe, tysW47_57]; (repeat' (first | rfl | exact trivial | exact fun h => h | exact fun h => (by rw [h]; rfl) | apply And.intro | omega | exact Nat.le_of_ble_eq_true rfl))))
end Go.Proofs.YtcnkbdfkjhlbiaaDoor
namespace Go.Proofs.YtcnkbdfkjhlbiaaDoor
open Go.Sy
set_option maxRecDepth 8000
theorem sorted_get {l : List Nat} (h : l.Pairwise (· < ·)) {i k : Nat} (hik : i < k) (hk : k < l.length) : l.getD i 0 < l.getD k 0 := by
  have := (List.pairwise_iff_getElem.1 h) i k (by omega) hk hik
  simpa only [List.getD_eq_getElem?_getD, List.getElem?_eq_getElem hk, List.getElem?_eq_getElem (show i < l.length by omega), Option.getD_some] using this
theorem asgOne_law {n u sn : Nat} (hu : u < 2 ^ n) (hd : ∀ e, u.testBit e = true → sn.testBit e = false) : ∀ i, i ≤ (elems u).length →
    ∃ own s2, asgOne n (nats (elems u)) sn i = some (own, s2) ∧ (∀ e, own.testBit e = true ↔ ∃ k, k < i ∧ (elems u).getD k 0 = e) ∧ (∀ e, s2.testBit e = true ↔ sn.testBit e = true ∨ ∃ k, k < i ∧ (elems u).getD k 0 = e)
  | 0, _ => ⟨0, sn, rfl, fun e => by simp, fun e => by simp⟩
  | i + 1, hi => by
    obtain ⟨own, s2, h1, h2, h3⟩ := asgOne_law hu hd i (by omega)
    have hm := getD_mem (d := 0) (show i < (elems u).length by omega)
    have hx := (mem_elems.1 hm).2
    have hxn := elems_lt hm hu
    rw [asgOne_step h1, nats_get]
    generalize hxd : (elems u).getD i 0 = x at hm hx hxn
    have e1 : within (x : Int) 0 (n - 1) = true := by simp only [within, Bool.and_eq_true, decide_eq_true_eq]; omega
    have e2 : s2.testBit x = false := by
      cases h : s2.testBit x
      · rfl
      · rcases (h3 x).1 h with h | ⟨k, hk, h⟩
        · rw [hd x hx] at h; cases h
        · have := sorted_get (elems_sorted u) hk (show i < (elems u).length by omega)
          omega
    have e3 : (decide (0 < i) && decide ((x : Int) ≤ (nats (elems u)).getD (i - 1) 0)) = false := by
      rw [nats_get]
      by_cases h0 : 0 < i
      · have := sorted_get (elems_sorted u) (show i - 1 < i by omega) (show i < (elems u).length by omega)
        rw [decide_eq_false (show ¬ (x : Int) ≤ (((elems u).getD (i - 1) 0 : Nat) : Int) by omega), Bool.and_false]
      · rw [decide_eq_false h0, Bool.false_and]
    rw [e1, e3, Int.toNat_natCast, e2]
    have key : ∀ e, (∃ k, k < i + 1 ∧ (elems u).getD k 0 = e) ↔ ((∃ k, k < i ∧ (elems u).getD k 0 = e) ∨ e = x) := fun e => by
      constructor
      · rintro ⟨k, hk, h⟩
        rcases Nat.lt_or_ge k i with h' | h'
        · exact .inl ⟨k, h', h⟩
        · obtain rfl : k = i := by omega
          exact .inr (by rw [← h, hxd])
      · rintro (⟨k, hk, h⟩ | rfl)
        · exact ⟨k, by omega, h⟩
        · exact ⟨i, by omega, hxd⟩
    refine ⟨own ||| 2 ^ x, s2 ||| 2 ^ x, rfl, fun e => ?_, fun e => ?_⟩
    · rw [or_pow, h2, key]
    · rw [or_pow, h3, key, or_assoc]
theorem asgOne_all {n u sn : Nat} (hn : n ≤ 10) (hu : u < 2 ^ n) (hd : ∀ e, u.testBit e = true → sn.testBit e = false) :
    ∃ s2, asgOne n (nats (elems u)) sn (nats (elems u)).length = some (u, s2) ∧ ∀ e, s2.testBit e = true ↔ sn.testBit e = true ∨ u.testBit e = true := by
  obtain ⟨own, s2, h1, h2, h3⟩ := asgOne_law hu hd (elems u).length (Nat.le_refl _)
  have key : ∀ e, (∃ k, k < (elems u).length ∧ (elems u).getD k 0 = e) ↔ u.testBit e = true := fun e => by
    rw [← mem_getD, mem_elems]
    exact ⟨fun h => h.2, fun h => ⟨by have := testBit_lt h hu; omega, h⟩⟩
  have ho : own = u := Nat.eq_of_testBit_eq fun e => by
    rw [Bool.eq_iff_iff, h2, key]
  subst ho
  exact ⟨s2, by rw [nats_len]; exact h1, fun e => by rw [h3, key]⟩
def uni (c : Census) (g : Nat) : Nat := unionB (blocksOf c) (elems g)
theorem uni_test {c : Census} (h : Fine c) {g e : Nat} : (uni c g).testBit e = true ↔ e < c.entries.length ∧ g.testBit (blk (blocksOf c) e) = true := union_test (blocksOf_sem h.pairs) h.n10
theorem asgTo_parts {c : Census} (h : Fine c) {gs : List Nat} (hp : Parts (oneP c) (2 ^ (blocksOf c).length - 1) gs) : ∀ k, k ≤ gs.length →
    ∃ sn, c.asgTo (gs.map fun g => nats (elems (uni c g))) k = some sn ∧ ∀ e, sn.testBit e = true ↔ ∃ j, j < k ∧ (uni c (gs.getD j 0)).testBit e = true
  | 0, _ => ⟨0, rfl, fun e => by simp⟩
  | k + 1, hk => by
    obtain ⟨sn, h1, h2⟩ := asgTo_parts h hp k (by omega)
    have hm := getD_mem (d := 0) (show k < gs.length by omega)
    have hl : (gs.map fun g => nats (elems (uni c g))).getD k [] = nats (elems (uni c (gs.getD k 0))) := by
      simp [List.getD_eq_getElem?_getD, show k < gs.length by omega]
    have hu : uni c (gs.getD k 0) < 2 ^ c.entries.length := union_lt h.pairs _
    have hd : ∀ e, (uni c (gs.getD k 0)).testBit e = true → sn.testBit e = false := fun e he => by
      cases hs : sn.testBit e
      · rfl
      · obtain ⟨j, hj, hje⟩ := (h2 e).1 hs
        have := hp.idx (show j < gs.length by omega) (show k < gs.length by omega) ((uni_test h).1 hje).2 ((uni_test h).1 he).2
        omega
    obtain ⟨s2, h3, h4⟩ := asgOne_all h.n10 hu hd
    obtain ⟨g0, g1⟩ := hp.ok _ hm
    have hne : uni c (gs.getD k 0) ≠ 0 := fun hc => by
      obtain ⟨b, hb⟩ := nz_bit g0
      have hbl : b < (blocksOf c).length := testBit_lt (sub_test (hp.mem_sub hm) hb) (Nat.sub_lt (Nat.two_pow_pos _) (by omega))
      obtain ⟨e, he1, he2⟩ := nz_bit ((blocksOf_sem h.pairs).nz b hbl) |>.imp fun e he => And.intro ((blocksOf_sem h.pairs).lt hbl he) he
      have hbe := (blocksOf_sem h.pairs).eq he1 hbl he2
      have := (uni_test h (g := gs.getD k 0)).2 ⟨he1, by rw [hbe]; exact hb⟩
      rw [hc, Nat.zero_testBit] at this
      cases this
    have hfit : c.fitsSet (uni c (gs.getD k 0)) = true := g1
    have hkeep : c.keeps (uni c (gs.getD k 0)) = true := by
      unfold Census.keeps
      rw [List.all_eq_true]
      intro p hpp
      obtain ⟨q1, q2⟩ := h.pairs.ns p hpp
      rw [beq_iff_eq, Bool.eq_iff_iff, uni_test h, uni_test h, blk_same h.pairs hpp]
      exact ⟨fun x => ⟨q2, x.2⟩, fun x => ⟨q1, x.2⟩⟩
    refine ⟨s2, ?_, fun e => ?_⟩
    · rw [Census.asgTo, h1]
      show (match asgOne c.entries.length ((gs.map fun g => nats (elems (uni c g))).getD k []) sn ((gs.map fun g => nats (elems (uni c g))).getD k []).length with
        | none => none
        | some x => if x.1 = 0 ∨ c.fitsSet x.1 = false ∨ c.keeps x.1 = false then none else some x.2) = some s2
      rw [hl, h3]
      show (if uni c (gs.getD k 0) = 0 ∨ c.fitsSet (uni c (gs.getD k 0)) = false ∨ c.keeps (uni c (gs.getD k 0)) = false then none else some s2) = some s2
      rw [hfit, hkeep, if_neg (fun hc => by
        rcases hc with hc | hc | hc
        · exact hne hc
        · cases hc
        · cases hc)]
    · rw [h4, h2]
      constructor
      · rintro (⟨j, hj, hje⟩ | he)
        · exact ⟨j, by omega, hje⟩
        · exact ⟨k, by omega, he⟩
      · rintro ⟨j, hj, hje⟩
        rcases Nat.lt_or_ge j k with h' | h'
        · exact .inl ⟨j, h', hje⟩
        · obtain rfl : j = k := by omega
          exact .inr hje
theorem parts_asg {c : Census} (h : Fine c) {gs : List Nat} (hp : Parts (oneP c) (2 ^ (blocksOf c).length - 1) gs) (hs : c.sumsB gs.length = true) : c.isAsg (gs.map fun g => nats (elems (uni c g))) = true := by
  obtain ⟨sn, h1, h2⟩ := asgTo_parts h hp gs.length (Nat.le_refl _)
  have hw : within ((gs.map fun g => nats (elems (uni c g))).length : Int) c.limits.lo c.limits.hi = c.sumsB (gs.map fun g => nats (elems (uni c g))).length := by rw [limits_eq h.lims]; rfl
  rw [← asg_law h]
  unfold Census.asg
  rw [if_pos (fine_iff.2 h), hw]
  rw [List.length_map, h1]
  have hlt : sn < 2 ^ c.entries.length := Nat.lt_pow_two_of_testBit _ fun e he => by
    cases ht : sn.testBit e
    · rfl
    · obtain ⟨j, _, hj⟩ := (h2 e).1 ht
      have := ((uni_test h).1 hj).1
      omega
  have hf := (elems_full h.n10 hlt).2 fun e he => by
    obtain ⟨a, b⟩ := personOf_at h.pairs hp he
    exact (h2 e).2 ⟨_, a, (uni_test h).2 ⟨he, b⟩⟩
  show (decide ((elems sn).length = c.entries.length) && c.sumsB gs.length) = true
  rw [decide_eq_true hf, hs]; rfl
theorem show_law {c : Census} (h0 : c.tried true = 0) (most : Bool) : Fine c ∧ (c.showS most).2 = 0 ∧ c.isAsg (c.showS most).1 = true ∧ ((c.showS most).1.length : Int) = c.manyS most ∧ (c.showS most).1.length ≤ 10 ∧ ∀ l ∈ (c.showS most).1, l.length ≤ 10 := by
  have ho := show_ok h0
  have h := ho.f
  obtain ⟨m1, m2, m3⟩ := ho.m most
  have hnb := ho.t.nb
  have hp0 := Nat.two_pow_pos (blocksOf c).length
  have hp10 : 2 ^ (blocksOf c).length ≤ 2 ^ 10 := Nat.pow_le_pow_right (by omega) hnb
  obtain ⟨hGp, hGl⟩ := ho.t.show 1024 (2 ^ (blocksOf c).length - 1) (by omega) (by omega) ho.l
  have hl : (readW c).least.getD (2 ^ (blocksOf c).length - 1) 0 = lst c := rfl
  obtain ⟨hp, hlen⟩ := SplitOk.all (oneP_down h.pairs h.n10) hnb (most := (c.manyS most).toNat) (by omega) 20 _ 0 ⟨hGp, Nat.zero_le _, fun k hk => by omega⟩ (by omega) (by omega)
  have hS : c.showS most = ((c.groupsS most).map fun g => nats (elems (unionB (blocksOf c) (elems g))), 0) := if_pos h0
  have hlen : (c.groupsS most).length = (c.manyS most).toNat := hlen
  have hp : Parts (oneP c) (2 ^ (blocksOf c).length - 1) (c.groupsS most) := hp
  rw [hS]
  refine ⟨h, rfl, parts_asg h hp ?_, ?_, ?_, fun l hl => ?_⟩
  · rw [sumsB_iff h.lims, hlen]
    refine ((pers_iff h.pairs h.n10 h.lims).2 ?_).2
    have hle : (pers c).lo ≤ (pers c).hi := by
      unfold Census.tried at h0
      rw [if_neg (fun hc => hc (fine_iff.2 h))] at h0
      simp only [Bool.not_true, Bool.false_eq_true, if_false] at h0
      split at h0
      · cases h0
      · rename_i h'
        have h' : ¬ (pers c).lo > (pers c).hi := h'
        omega
    have : c.manyS most = if most = true then (pers c).hi else (pers c).lo := rfl
    rw [this] at m1 ⊢
    cases most
    · simp only [Bool.false_eq_true, if_false] at m1 ⊢; omega
    · simp only [if_true] at m1 ⊢; omega
  · show (((c.groupsS most).map fun g => nats (elems (unionB (blocksOf c) (elems g)))).length : Int) = _
    rw [List.length_map, hlen]; omega
  · show ((c.groupsS most).map fun g => nats (elems (unionB (blocksOf c) (elems g)))).length ≤ 10
    rw [List.length_map, hlen]; omega
  · obtain ⟨g, _, rfl⟩ := List.mem_map.1 hl
    rw [nats_len]
    have hnd : (elems (uni c g)).Nodup := (elems_sorted _).imp fun h => Nat.ne_of_lt h
    have hsub : elems (uni c g) ⊆ List.range c.entries.length := fun x hx => List.mem_range.2 (elems_lt hx (union_lt h.pairs g))
    have := hnd.length_le_of_subset hsub
    rw [List.length_range] at this
    have h10 := h.n10
    exact Nat.le_trans this h10
end Go.Proofs.YtcnkbdfkjhlbiaaDoor
namespace Go.Proofs.YtcnkbdfkjhlbiaaDoor
open Go.Sy
set_option maxRecDepth 8000
def endsX (c : Census) (n o : Int) : Census := ⟨c.entries, c.same, c.apart, ⟨o, o⟩, ⟨n + o, n + o⟩⟩
theorem ends_law {c : Census} (h : Fine c) {n : Nat} (h1 : (pers c).lo ≤ n) (h2 : (n : Int) ≤ (pers c).hi) {o : Int} (ho : o = max c.omitted.lo (c.number.lo - n)) :
    0 ≤ o ∧ o ≤ 100 ∧ Fine (endsX c n o) ∧ (endsX c n o).tried true = 0 ∧ pers (endsX c n o) = ⟨n, n⟩ ∧ ∀ ls : List (List Int), (endsX c n o).isAsg ls = true → (ls.length : Int) = n → c.isAsg ls = true := by
  obtain ⟨⟨f, ha, he⟩, k, k1, k2, k3, k4⟩ := (pers_iff h.pairs h.n10 h.lims).2 ⟨h1, h2⟩
  have hom := h.om
  have hnu := h.nu
  have hfx : Fine (endsX c n o) := ⟨h.n10, h.s6, h.a6, h.ents, h.ps, h.pa, by show 0 ≤ o ∧ o ≤ o ∧ o ≤ 100; omega, by show 0 ≤ (n : Int) + o ∧ (n : Int) + o ≤ n + o ∧ (n : Int) + o ≤ 200; omega⟩
  have hx := fun m : Nat => pers_iff hfx.pairs hfx.n10 hfx.lims (m := m)
  have hlo := pers_lo hfx.pairs hfx.n10
  have hs : ∀ m : Nat, Sums (endsX c n o) m → m = n := fun m ⟨k, a, b, d, e⟩ => by
    have a : o ≤ k := a
    have b : k ≤ o := b
    have d : (n : Int) + o ≤ k + m := d
    have e : k + m ≤ (n : Int) + o := e
    omega
  have hsem : Sem (endsX c n o) n := ⟨f, ⟨ha.fits, ha.same, ha.apart⟩, he⟩
  have hsum : Sums (endsX c n o) n := ⟨o, Int.le_refl _, Int.le_refl _, by show (n : Int) + o ≤ o + n; omega, by show o + (n : Int) ≤ n + o; omega⟩
  obtain ⟨a, b⟩ := (hx n).1 ⟨hsem, hsum⟩
  have ea : (pers (endsX c n o)).lo = n := by
    have := hs (pers (endsX c n o)).lo.toNat ((hx (pers (endsX c n o)).lo.toNat).2 ⟨by omega, by omega⟩).2
    omega
  have eb : (pers (endsX c n o)).hi = n := by
    have := hs (pers (endsX c n o)).hi.toNat ((hx (pers (endsX c n o)).hi.toNat).2 ⟨by omega, by omega⟩).2
    omega
  have hcons : (endsX c n o).cons = true := decide_eq_true (show (pers (endsX c n o)).lo ≤ (pers (endsX c n o)).hi by omega)
  refine ⟨by omega, by omega, hfx, by rw [fine_tried hfx, hcons]; rfl, ?_, fun ls hl hn => ?_⟩
  · have : pers (endsX c n o) = ⟨(pers (endsX c n o)).lo, (pers (endsX c n o)).hi⟩ := rfl
    rw [this, ea, eb]
  · unfold Census.isAsg at hl ⊢
    have e1 : ofS (endsX c n o).entries.length ls = ofS c.entries.length ls := rfl
    rw [e1] at hl
    cases ho : ofS c.entries.length ls with
    | none => rw [ho] at hl; cases hl
    | some v =>
      rw [ho] at hl
      have hl : (c.allowB (v.map Int.toNat) && (endsX c n o).sumsB ls.length) = true := hl
      rw [Bool.and_eq_true] at hl
      show (c.allowB (v.map Int.toNat) && c.sumsB ls.length) = true
      rw [hl.1, Bool.true_and]
      exact (sumsB_iff h.lims).2 ⟨k, k1, k2, by omega, by omega⟩
end Go.Proofs.YtcnkbdfkjhlbiaaDoor
namespace Go.Proofs.YtcnkbdfkjhlbiaaDoor
set_option maxRecDepth 8000
inductive Conn (l : List Pair) : Nat → Nat → Prop
  | refl (a : Nat) : Conn l a a
  | fwd {a : Nat} {p : Pair} (hp : p ∈ l) (h : Conn l a p.fst.toNat) : Conn l a p.snd.toNat
  | bwd {a : Nat} {p : Pair} (hp : p ∈ l) (h : Conn l a p.snd.toNat) : Conn l a p.fst.toNat
end Go.Proofs.YtcnkbdfkjhlbiaaDoor
namespace Go.Proofs.YtcnkbdfkjhlbiaaDoor
open Go.Sy
set_option maxRecDepth 8000
structure Seen (l : List Pair) (a : Nat) (o : List Nat) : Prop where
  nd : o.Nodup
  has : a ∈ o
  conn : ∀ x ∈ o, Conn l a x
  sub : ∀ x ∈ o, x = a ∨ ∃ p ∈ l, x = p.fst.toNat ∨ x = p.snd.toNat
theorem vv_getD {o : List Nat} {j : Nat} (h : j < o.length) : (vv o).getD j [] = [I (o.getD j 0 : Nat)] := by
  simp [vv, List.getD_eq_getElem?_getD, h]
theorem vv_len (o : List Nat) : (vv o).length = o.length := by simp
theorem fine_both {c : Census} {i k : Nat} (hi : i < c.entries.length) (hk : k < c.entries.length) : c.both i k = true := by
  rw [both_iff]; omega
end Go.Proofs.YtcnkbdfkjhlbiaaDoor
namespace Go.Sy
theorem Imp.perm {st : St} {hp' : HpT} (h : hp'.Perm st.hp) : Imp st ⟨st.tm, hp', st.nx, st.nt, st.df, st.nb⟩ := by
  intro G O₀ M pb pl a w hR
  have own : ownOf pl hp' = ownOf pl st.hp := funext fun B => propext ⟨fun ⟨p, h1, h2⟩ => ⟨p, h.mem_iff.1 h1, h2⟩, fun ⟨p, h1, h2⟩ => ⟨p, h.mem_iff.2 h1, h2⟩⟩
  have ok : okOf (Ox O₀ a) pl hp' = okOf (Ox O₀ a) pl st.hp := by funext B; simp only [okOf, own]
  refine ⟨pl, ⟨⟨fun p hp => ?_, ?_, hR.hs.fresh, hR.hs.old, hR.hs.base, fun g cs hg => ?_⟩, ?_, hR.nt, hR.df, hR.bd⟩, fun B hB => ?_⟩
  · rw [ok]; exact hR.hs.obj p (h.mem_iff.1 hp)
  · refine (List.Perm.pairwise_iff ?_ h).2 hR.hs.apart
    intro p p' hpp
    exact ⟨hpp.1.symm, fun q q' h1 h2 t1 t2 => (hpp.2 q' q h2 h1 t2 t1).symm⟩
  · rw [ok]; exact hR.hs.glob g cs hg
  · show TmR pl (okOf (Ox O₀ a) pl hp') w st.tm a.tmps
    rw [ok]; exact hR.tm
  · show ownOf pl st.hp B
    rw [← own]; exact hB
end Go.Sy
namespace Go.Proofs.YtcnkbdfkjhlbiaaDoor
open Go.Sy
set_option maxRecDepth 8000
def firstAt (v : List Nat) (i k : Nat) : Bool := (List.range k).all fun j => v.getD j 0 != v.getD i 0
def countTo (v : List Nat) : Nat → Nat
  | 0 => 0
  | i + 1 => countTo v i + if firstAt v i i then 1 else 0
theorem countTo_le (v : List Nat) : ∀ n, countTo v n ≤ n
  | 0 => Nat.le_refl _
  | n + 1 => by have := countTo_le v n; simp only [countTo]; split <;> omega
theorem firstAt_succ {v : List Nat} {i k : Nat} : firstAt v i (k + 1) = (firstAt v i k && (v.getD k 0 != v.getD i 0)) := by
  unfold firstAt; rw [List.range_succ, List.all_append]; simp
abbrev tysW43_55 := And.intro ty.sz0 <| And.intro ty.agg0 <| And.intro ty.elem0 <| And.intro ty.sz3 <| And.intro ty.agg3 <| And.intro ty.elem3 <| And.intro ty.zero3 <| And.intro ty.und3 <| And.intro ty.sz4 <| And.intro ty.agg4 <| And.intro ty.elem4 <| And.intro ty.zero4 <| And.intro ty.und4 <| And.intro ty.sz43 <| And.intro ty.agg43 <| And.intro ty.elem43 <| And.intro ty.by43 <| And.intro ty.ez43 <| And.intro ty.zero43 <| ty.und43
set_option maxHeartbeats 4000000 in
theorem persons_count (v : List Nat) (hl : v.length ≤ 1000) : CallP Tryd.prog G0 55 [SI (nats v)] (I (countTo v v.length : Nat)) := by
  refine CallP.body 34 [.tmp 2] Tryd.func55 (by kernel_rfl) rfl rfl rfl (by repeat' (first | exact Pure.d _ | exact Pure.dx _ | exact Pure.dp _ | exact fa_nil | refine fa_cons ?_ ?_ | refine Pure.agg ?_ | refine Pure.tup ?_ | refine Pure.clo ?_ ?_ | refine Pure.fp ?_ | exact Pure.mapd _ | assumption)) (by repeat' (first | exact Pure.d _ | exact Pure.dx _ | exact Pure.dp _ | exact fa_nil | refine fa_cons ?_ ?_ | refine Pure.agg ?_ | refine Pure.tup ?_ | refine Pure.clo ?_ ?_ | refine Pure.fp ?_ | exact Pure.mapd _ | assumption)) ?_
  refine Tr.reg [0] (by
      simp only [↓sxd, sxu, ↓zE, ↓exq, St.keep, Nat.reduceBEq, Nat.reduceLT]
      (repeat' (first | rfl | exact trivial | exact fun h => h | exact fun h => (by rw [h]; rfl) | apply And.intro | omega | exact Nat.le_of_ble_eq_true rfl))) ?_
  refine Tr.reg [0, 3] (by
      simp only [↓sxd, sxu, ↓zE, ↓exq, St.keep, Nat.reduceBEq, Nat.reduceLT]
      (repeat' (first | rfl | exact trivial | exact fun h => h | exact fun h => (by rw [h]; rfl) | apply And.intro | omega | exact Nat.le_of_ble_eq_true rfl))) ?_
  refine Tr.seq ?_
  refine Tr.reg [0, 3, 4] (by
      simp only [↓sxd, sxu, ↓zE, ↓exq, St.keep, Nat.reduceBEq, Nat.reduceLT]
      (repeat' (first | rfl | exact trivial | exact fun h => h | exact fun h => (by rw [h]; rfl) | apply And.intro | omega | exact Nat.le_of_ble_eq_true rfl))) ?_
  refine Tr.imp (st' := ⟨[(0, SI (nats v)), (3, I (countTo v 0 : Nat)), (4, I 0)], [], 0, 34, [], 0⟩) (Imp.keepAll) (Tr.block (Tr.loopI (fun mm ss => ∃ (i : Nat), (i ≤ v.length) ∧ v.length - i = mm ∧ ss = ⟨[(0, SI (nats v)), (3, I (countTo v i : Nat)), (4, I i)], [], 0, 34, [], 0⟩) _ ⟨0, ?_, rfl, rfl⟩ ?_))
  · exact Nat.zero_le _
  rintro mm ss ⟨i, hI, rfl, rfl⟩
  refine Tr.seq ?_
  refine Tr.reg [0, 3, 4, 10] (by
      simp only [↓sxd, sxu, ↓zE, ↓exq, ↓zB, St.keep, ↓zJ, Nat.reduceBEq, Nat.reduceLT, sxe, tysW43_55, nats_len]
      (repeat' (first | rfl | exact trivial | exact fun h => h | exact fun h => (by rw [h]; rfl) | apply And.intro | omega | exact Nat.le_of_ble_eq_true rfl))) ?_
  refine Tr.cond rfl (fun h10 => ?_) (fun h10 => ?_)
  · have hlt : i < v.length := by have := of_decide_eq_true h10; omega
    have hcl := countTo_le v i
    refine Tr.skip ?_
    refine Tr.seq ?_
    refine Tr.block ?_
    refine Tr.reg [0, 3, 4, 5] (by
        simp only [↓sxd, sxu, ↓zE, ↓exq, St.keep, Nat.reduceBEq, Nat.reduceLT]
        (repeat' (first | rfl | exact trivial | exact fun h => h | exact fun h => (by rw [h]; rfl) | apply And.intro | omega | exact Nat.le_of_ble_eq_true rfl))) ?_
    refine Tr.seq ?_
    refine Tr.reg [0, 3, 4, 5, 6] (by
        simp only [↓sxd, sxu, ↓zE, ↓exq, St.keep, Nat.reduceBEq, Nat.reduceLT]
        (repeat' (first | rfl | exact trivial | exact fun h => h | exact fun h => (by rw [h]; rfl) | apply And.intro | omega | exact Nat.le_of_ble_eq_true rfl))) ?_
    refine Tr.imp (st' := ⟨[(0, SI (nats v)), (3, I (countTo v i : Nat)), (4, I i), (5, B (firstAt v i 0)), (6, I 0)], [], 0, 34, [], 0⟩) (Imp.keepAll) (Tr.block (Tr.loopI (fun mm ss => ∃ (k : Nat), (k ≤ i) ∧ i - k = mm ∧ ss = ⟨[(0, SI (nats v)), (3, I (countTo v i : Nat)), (4, I i), (5, B (firstAt v i k)), (6, I k)], [], 0, 34, [], 0⟩) _ ⟨0, ?_, rfl, rfl⟩ ?_))
    · exact Nat.zero_le _
    rintro mm ss ⟨k, hI, rfl, rfl⟩
    refine Tr.seq ?_
    refine Tr.reg [0, 3, 4, 5, 6, 15] (by
        simp only [↓sxd, sxu, ↓zE, ↓exq, St.keep, Nat.reduceBEq, Nat.reduceLT, sxe]
        (repeat' (first | rfl | exact trivial | exact fun h => h | exact fun h => (by rw [h]; rfl) | apply And.intro | omega | exact Nat.le_of_ble_eq_true rfl))) ?_
    refine Tr.cond rfl (fun h15 => ?_) (fun h15 => ?_)
    · have hk : k < i := by have := of_decide_eq_true h15; omega
      have hkv : k < v.length := by omega
      refine Tr.skip ?_
      refine Tr.seq ?_
      refine Tr.block ?_
      refine Tr.regV1 [] [] [0, 3, 4, 5, 6] mix (by kernel_rfl) (by
          try simp only
          simp only [↓yB, ↓yG, addA, sxu, zK, ↓exq, St.keep, Nat.reduceBEq, Nat.reduceAdd, Nat.reduceLT]
          iterate 9
            (repeat ((with_reducible refine And.intro ?_ ?_); (focus (first | with_reducible rfl | trivial | exact fun h => h | exact fun h => (by rw [h]; rfl) | omega | assumption))))
            refine GdV.mk _ (fun hg => by simp only [↓sxd, sxu, ↓exP, ↓exq, ↓zD, Nat.reduceBEq, Nat.reduceLT, sxe, tysW43_55, nats_len, nats_at, hkv, hlt, hg]; (repeat' (first | rfl | exact trivial | exact fun h => h | exact fun h => (by rw [h]; rfl) | apply And.intro | omega | exact Nat.le_of_ble_eq_true rfl))) ?_
            simp only [↓yB, ↓yE, ↓yG, addA, sxu, zK, ↓exq, ↓zH, Nat.reduceBEq, Nat.reduceAdd, Nat.reduceLT]
          (repeat' (first | rfl | exact trivial | exact fun h => h | exact fun h => (by rw [h]; rfl) | apply And.intro | omega | exact Nat.le_of_ble_eq_true rfl))) ?_
      have w1 : IntKind.i64.wrap ((k : Int) + 1) = ((k + 1 : Nat) : Int) := by rw [wr (by omega) (by omega)]; rfl
      refine Tr.reg1 [0, 3, 4, 5, 6] (by
          simp only [↓sxd, sxu, ↓zE, ↓exq, St.keep, Nat.reduceBEq, Nat.reduceLT, w1]
          (repeat' (first | rfl | exact trivial | exact fun h => h | exact fun h => (by rw [h]; rfl) | apply And.intro | omega | exact Nat.le_of_ble_eq_true rfl))) ?_
      refine ⟨_, _, ?_, ?_, ⟨k + 1, hk, rfl, rfl⟩⟩
      · omega
      · rw [firstAt_succ, ← ibn]
        exact Imp.keepAll
    · have hke : k = i := by have := of_decide_eq_false h15; omega
      subst hke
      refine Tr.exit ?_
      refine Tr.reg [0, 3, 4, 30] (by
          simp only [↓sxd, sxu, ↓zE, ↓exq, St.keep, Nat.reduceBEq, Nat.reduceLT]
          (repeat' (first | rfl | exact trivial | exact fun h => h | exact fun h => (by rw [h]; rfl) | apply And.intro | omega | exact Nat.le_of_ble_eq_true rfl))) ?_
      refine Tr.cond rfl (fun h30 => ?_) (fun h30 => ?_)
      · have hc : countTo v (k + 1) = countTo v k + 1 := by rw [countTo, if_pos h30]
        have w2 : IntKind.i64.wrap (((countTo v k : Nat) : Int) + 1) = ((countTo v k + 1 : Nat) : Int) := by rw [wr (by omega) (by omega)]; rfl
        refine Tr.reg1 [0, 3, 4] (by
            simp only [↓sxd, sxu, ↓zE, ↓exq, St.keep, Nat.reduceBEq, Nat.reduceLT, w2]
            (repeat' (first | rfl | exact trivial | exact fun h => h | exact fun h => (by rw [h]; rfl) | apply And.intro | omega | exact Nat.le_of_ble_eq_true rfl))) ?_
        have w3 : IntKind.i64.wrap ((k : Int) + 1) = ((k + 1 : Nat) : Int) := by rw [wr (by omega) (by omega)]; rfl
        refine Tr.reg1 [0, 3, 4] (by
            simp only [↓sxd, sxu, ↓zE, ↓exq, St.keep, Nat.reduceBEq, Nat.reduceLT, w3]
            (repeat' (first | rfl | exact trivial | exact fun h => h | exact fun h => (by rw [h]; rfl) | apply And.intro | omega | exact Nat.le_of_ble_eq_true rfl))) ?_
        refine ⟨_, _, ?_, ?_, ⟨k + 1, hlt, rfl, rfl⟩⟩
        · omega
        · rw [hc]; exact Imp.keepAll
      · have hc : countTo v (k + 1) = countTo v k := by
          have h30 : firstAt v k k = false := h30
          rw [countTo, h30]; rfl
        refine Tr.skip ?_
        have w3 : IntKind.i64.wrap ((k : Int) + 1) = ((k + 1 : Nat) : Int) := by rw [wr (by omega) (by omega)]; rfl
        refine Tr.reg1 [0, 3, 4] (by
            simp only [↓sxd, sxu, ↓zE, ↓exq, St.keep, Nat.reduceBEq, Nat.reduceLT, w3]
            (repeat' (first | rfl | exact trivial | exact fun h => h | exact fun h => (by rw [h]; rfl) | apply And.intro | omega | exact Nat.le_of_ble_eq_true rfl))) ?_
        refine ⟨_, _, ?_, ?_, ⟨k + 1, hlt, rfl, rfl⟩⟩
        · omega
        · rw [hc]; exact Imp.keepAll
  · have hge : i = v.length := by have := of_decide_eq_false h10; omega
    subst hge
    refine Tr.exit ?_
    refine Tr.reg [2] (by
        simp only [↓sxd, sxu, ↓zE, ↓exq, St.keep, Nat.reduceBEq, Nat.reduceLT]
        (repeat' (first | rfl | exact trivial | exact fun h => h | exact fun h => (by rw [h]; rfl) | apply And.intro | omega | exact Nat.le_of_ble_eq_true rfl))) ?_
    refine Tr.ret ?_
    (refine ⟨.inr rfl, ?_⟩; first | rfl | exact ⟨rfl, rfl, trivial⟩ | exact ⟨rfl, rfl, rfl, trivial⟩ | (simp only [Res, ResL, ResOK, ↓sxd, sxu, ↓zE, ↓zC, zK, ↓exP, ↓exq, ↓zB, St.keep, ↓zH, ↓zL, ↓zJ, ↓zD, Nat.reduceBEq, Nat.reduceAdd, Nat.reduceLT, Nat.reduceMul, Nat.reduceSub, Nat.reduceLeDiff, Nat.reduceEqDiff, Int.reduceLE, Int.reduceLT, Int.reduceToNat, reduceIte, implies_true, sxe, tysW43_55, nats_len, nats_at]; (repeat' (first | rfl | exact trivial | exact fun h => h | exact fun h => (by rw [h]; rfl) | apply And.intro | omega | exact Nat.le_of_ble_eq_true rfl))))
def freeTo (E : List Entry) (o : List Nat) (p s : Nat) (k : Nat) : Bool := (List.range k).all fun j => (o.getD j 0 != p) || ((E.getD j default).sched != (s : Int))
theorem freeTo_succ {E : List Entry} {o : List Nat} {p s k : Nat} : freeTo E o p s (k + 1) = (freeTo E o p s k && ((o.getD k 0 != p) || ((E.getD k default).sched != (s : Int)))) := by
  unfold freeTo; rw [List.range_succ, List.all_append]; simp
def ageTo (E : List Entry) (o : List Nat) (p a0 : Nat) : Nat → Int
  | 0 => (a0 : Int)
  | j + 1 => if o.getD j 0 = p then (E.getD j default).ages.lo else ageTo E o p a0 j
def newE (E : List Entry) (o : List Nat) (w : Nat) : Entry :=
  ⟨((w / 5 % 10 : Nat) : Int), ((w % 5 % 2 : Nat) : Int), ((w % 5 / 3 : Nat) : Int), ⟨ageTo E o (w % 5) (30 + w % 5 * w / 64 % 2) o.length, ageTo E o (w % 5) (30 + w % 5 * w / 64 % 2) o.length + ((w / 128 % 3 : Nat) : Int)⟩⟩
def tStep (x : List Entry × List Nat) (w : Nat) : List Entry × List Nat := if freeTo x.1 x.2 (w % 5) (w / 5 % 10) x.2.length then (x.1 ++ [newE x.1 x.2 w], x.2 ++ [w % 5]) else x
def tTo (ws : List Nat) : Nat → List Entry × List Nat
  | 0 => ([], [])
  | i + 1 => tStep (tTo ws i) (ws.getD i 0)
structure TOk (i : Nat) (x : List Entry × List Nat) : Prop where
  len : x.1.length = x.2.length
  le : x.2.length ≤ i
  age : ∀ j, j < x.2.length → 30 ≤ (x.1.getD j default).ages.lo ∧ (x.1.getD j default).ages.lo ≤ 31
theorem age_bd {E : List Entry} {o : List Nat} {p a0 : Nat} (h0 : 30 ≤ a0 ∧ a0 ≤ 31) : ∀ n, (∀ j, j < n → 30 ≤ (E.getD j default).ages.lo ∧ (E.getD j default).ages.lo ≤ 31) → 30 ≤ ageTo E o p a0 n ∧ ageTo E o p a0 n ≤ 31
  | 0, _ => by simp only [ageTo]; omega
  | n + 1, h => by
    simp only [ageTo]
    split
    · exact h n (by omega)
    · exact age_bd h0 n fun j hj => h j (by omega)
theorem tTo_ok (ws : List Nat) : ∀ i, TOk i (tTo ws i)
  | 0 => ⟨rfl, Nat.le_refl _, fun j hj => absurd hj (Nat.not_lt_zero _)⟩
  | i + 1 => by
    have ih := tTo_ok ws i
    rw [tTo]
    generalize tTo ws i = x at ih
    unfold tStep
    split
    · refine ⟨by simp [ih.len], by simp; exact ih.le, fun j hj => ?_⟩
      by_cases hjl : j < x.2.length
      · have e : (x.1 ++ [newE x.1 x.2 (ws.getD i 0)]).getD j default = x.1.getD j default := getD_app_l (by rw [ih.len]; exact hjl)
        show 30 ≤ ((x.1 ++ [newE x.1 x.2 (ws.getD i 0)]).getD j default).ages.lo ∧ _
        rw [e]; exact ih.age j hjl
      · have hj2 : j = x.1.length := by simp at hj; have := ih.len; omega
        subst hj2
        have e : (x.1 ++ [newE x.1 x.2 (ws.getD i 0)]).getD x.1.length default = newE x.1 x.2 (ws.getD i 0) := by rw [getD_app_r (Nat.le_refl _), Nat.sub_self]; rfl
        show 30 ≤ ((x.1 ++ [newE x.1 x.2 (ws.getD i 0)]).getD x.1.length default).ages.lo ∧ _
        rw [e]
        exact age_bd (by omega) _ ih.age
    · exact ⟨ih.len, by have := ih.le; omega, ih.age⟩
theorem tmod5 (n : Nat) : (n : Int).tmod 5 = ((n % 5 : Nat) : Int) := tmod_n n 5
theorem tmod7 (n : Nat) : (n : Int).tmod 7 = ((n % 7 : Nat) : Int) := tmod_n n 7
theorem tdiv5 (n : Nat) : (n : Int).tdiv 5 = ((n / 5 : Nat) : Int) := by
  rw [Int.natCast_ediv, Int.tdiv_eq_ediv_of_nonneg (Int.natCast_nonneg _)]; rfl
theorem tdiv3 (n : Nat) : (n : Int).tdiv 3 = ((n / 3 : Nat) : Int) := by
  rw [Int.natCast_ediv, Int.tdiv_eq_ediv_of_nonneg (Int.natCast_nonneg _)]; rfl
theorem tdiv128 (n : Nat) : (n : Int).tdiv 128 = ((n / 128 : Nat) : Int) := by
  rw [Int.natCast_ediv, Int.tdiv_eq_ediv_of_nonneg (Int.natCast_nonneg _)]; rfl
theorem ee_snoc (l : List Entry) (e : Entry) : ee (l ++ [e]) = ee l ++ [[I e.sched, I e.sex, I e.key, I e.ages.lo, I e.ages.hi]] := by simp [ee, dE]
theorem vv_snoc2 (v : List Nat) (n : Nat) : vv (v ++ [n]) = vv v ++ [[I n]] := by simp [vv]
theorem vv_tn {r : Nat → Nat} {hp hp' : HpT} (v : List Nat) : F2 (F2 (TnS r hp hp')) (vv v) (vv v) := F2.map fun n _ => .cons (TnS.d _) .nil
def pStep (ws o : List Nat) (x : List Pair × List Pair) (i : Nat) : List Pair × List Pair :=
  if wordOf ws (i + 5) % 3 > 0 then x
  else if o.getD i 0 = o.getD (wordOf ws (i + 3) % i) 0 ∧ x.1.length < 5 then (x.1 ++ [⟨(i : Nat), (wordOf ws (i + 3) % i : Nat)⟩], x.2)
  else if o.getD i 0 ≠ o.getD (wordOf ws (i + 3) % i) 0 ∧ x.2.length < 5 then (x.1, x.2 ++ [⟨(i : Nat), (wordOf ws (i + 3) % i : Nat)⟩])
  else x
def pTo (ws o : List Nat) : Nat → List Pair × List Pair
  | 0 => ([], [])
  | j + 1 => pStep ws o (pTo ws o j) (j + 1)
theorem pTo_le (ws o : List Nat) : ∀ j, (pTo ws o j).1.length ≤ 5 ∧ (pTo ws o j).2.length ≤ 5
  | 0 => ⟨by simp [pTo], by simp [pTo]⟩
  | j + 1 => by
    have ih := pTo_le ws o j
    rw [pTo]
    generalize pTo ws o j = x at ih
    unfold pStep
    split
    · exact ih
    · split
      · rename_i h
        exact ⟨by show (x.1 ++ [_]).length ≤ 5; rw [List.length_append, List.length_singleton]; omega, ih.2⟩
      · split
        · rename_i h
          exact ⟨ih.1, by show (x.2 ++ [_]).length ≤ 5; rw [List.length_append, List.length_singleton]; omega⟩
        · exact ih
def trulyE (ws : List Nat) : List Entry := (tTo ws (min ws.length 9)).1
def trulyV (ws : List Nat) : List Nat := (tTo ws (min ws.length 9)).2
def missedW (ws : List Nat) : Nat := wordOf ws 2 % 7
def totalW (ws : List Nat) : Nat := missedW ws + countTo (trulyV ws) (trulyV ws).length
def trulyC (ws : List Nat) : Census :=
  ⟨trulyE ws, (pTo ws (trulyV ws) ((trulyV ws).length - 1)).1, (pTo ws (trulyV ws) ((trulyV ws).length - 1)).2, ⟨((missedW ws - missedW ws % 3 : Nat) : Int), ((missedW ws + wordOf ws 1 % 4 : Nat) : Int)⟩, ⟨max 0 ((totalW ws : Int) - ((wordOf ws 4 % 4 : Nat) : Int)), ((totalW ws + wordOf ws 6 % 3 : Nat) : Int)⟩⟩
theorem pp_snoc (l : List Pair) (p : Pair) : pp (l ++ [p]) = pp l ++ [[I p.fst, I p.snd]] := by simp [pp, dP]
abbrev zer : List SV := [.dx [], .dx [], .dx [], I 0, I 0, I 0, I 0]
theorem append0 {ws : List Nat} {i w : Nat} {E : List Entry} {o : List Nat} (hEo : E.length = o.length) : Imp ⟨[(0, SW ws), (2, .ptr 0 0 0), (4, .ptr 1 0 0), (5, .slc 5 1 0 (o.length + 1) (o.length + 1)), (6, I (i + 1 : Nat))], [(5, .arr 1 (vv o ++ [[I (w % 5 : Nat)]])), (4, .arr 5 (ee E ++ [[I (w / 5 % 10 : Nat), I (w % 5 % 2 : Nat), I (w % 5 / 3 : Nat), I (ageTo E o (w % 5) (30 + w % 5 * w / 64 % 2) o.length), I (ageTo E o (w % 5) (30 + w % 5 * w / 64 % 2) o.length + ((w / 128 % 3 : Nat) : Int))]])), (1, .arr 7 [[.slc 4 5 0 (E.length + 1) (E.length + 1), .dx [], .dx [], I 0, I 0, I 0, I 0]]), (0, .arr 7 [zer])], 6, 212, [], 0⟩
    ⟨[(0, SW ws), (2, .ptr 0 0 0), (4, .ptr 1 0 0), (5, .slc 3 1 0 (o ++ [w % 5]).length (o ++ [w % 5]).length), (6, I (i + 1 : Nat))], [(3, .arr 1 (vv (o ++ [w % 5]))), (2, .arr 5 (ee (E ++ [newE E o w]))), (1, .arr 7 [[.slc 2 5 0 (E ++ [newE E o w]).length (E ++ [newE E o w]).length, .dx [], .dx [], I 0, I 0, I 0, I 0]]), (0, .arr 7 [zer])], 4, 212, [], 0⟩ := by
  rw [List.length_append, List.length_append, List.length_singleton, List.length_singleton, ee_snoc, vv_snoc2]
  exact Imp.go (fun i => if i = 2 then 4 else if i = 3 then 5 else if i < 2 then i else i + 2) [(5, _), (4, _), (1, _), (0, _)] rfl rfl (.refl _) (fun _ h => absurd h (Nat.not_lt_zero _)) (fun id h => by simp only [show ¬ id = 2 by omega, show ¬ id = 3 by omega, show ¬ id < 2 by omega, if_false]; omega) (.cons rfl (TnS.d _) (.cons rfl (TnS.ptr rfl) (.cons rfl (TnS.ptr rfl) (.cons rfl (TnS.slc rfl) (.cons rfl (TnS.d _) trivial))))) (.cons ⟨rfl, TnO.arr (F2.append (vv_tn _) (.cons (.cons (TnS.d _) .nil) .nil))⟩ (.cons ⟨rfl, TnO.arr (F2.append (ee_tn _) (.cons (.cons (TnS.d _) (.cons (TnS.d _) (.cons (TnS.d _) (.cons (TnS.d _) (.cons (TnS.d _) .nil))))) .nil))⟩ (.cons ⟨rfl, TnO.arr (.cons (.cons (TnS.slc (r := fun i => if i = 2 then 4 else if i = 3 then 5 else if i < 2 then i else i + 2) (id := 4) (id' := 2) rfl) (.cons (TnS.dx _) (.cons (TnS.dx _) (.cons (TnS.d _) (.cons (TnS.d _) (.cons (TnS.d _) (.cons (TnS.d _) .nil))))))) .nil)⟩ (.cons ⟨rfl, TnO.arr (.cons (.cons (TnS.dx _) (.cons (TnS.dx _) (.cons (TnS.dx _) (.cons (TnS.d _) (.cons (TnS.d _) (.cons (TnS.d _) (.cons (TnS.d _) .nil))))))) .nil)⟩ .nil)))) (fun h => h)
theorem appendS {ws o : List Nat} {j : Nat} {E : List Entry} {S A : List Pair} {x y : Int} : Imp ⟨[(0, SW ws), (2, .ptr 0 0 0), (4, .ptr 1 0 0), (5, SI (nats o)), (14, I (j + 1 + 1 : Nat))], [(7, .arr 2 (pp S ++ [[I x, I y]])), (6, .arr 2 [[I x, I y]]), (5, .arr 2 (pp A)), (1, .arr 7 [[SE E, .slc 7 2 0 (S.length + 1) (S.length + 1), .slc 5 2 0 A.length A.length, I 0, I 0, I 0, I 0]]), (0, .arr 7 [zer])], 8, 212, [], 0⟩
    ⟨[(0, SW ws), (2, .ptr 0 0 0), (4, .ptr 1 0 0), (5, SI (nats o)), (14, I (j + 1 + 1 : Nat))], [(5, .arr 2 (pp A)), (4, .arr 2 (pp (S ++ [Pair.mk x y]))), (1, .arr 7 [[SE E, .slc 4 2 0 (S ++ [Pair.mk x y]).length (S ++ [Pair.mk x y]).length, .slc 5 2 0 A.length A.length, I 0, I 0, I 0, I 0]]), (0, .arr 7 [zer])], 6, 212, [], 0⟩ := by
  rw [List.length_append, List.length_singleton, pp_snoc]
  refine Imp.trans (b := ⟨[(0, SW ws), (2, .ptr 0 0 0), (4, .ptr 1 0 0), (5, SI (nats o)), (14, I (j + 1 + 1 : Nat))], [(4, .arr 2 (pp S ++ [[I x, I y]])), (5, .arr 2 (pp A)), (1, .arr 7 [[SE E, .slc 4 2 0 (S.length + 1) (S.length + 1), .slc 5 2 0 A.length A.length, I 0, I 0, I 0, I 0]]), (0, .arr 7 [zer])], 6, 212, [], 0⟩) (Imp.go (fun i => if i = 4 then 7 else if i < 6 then i else i + 2) [(7, _), (5, _), (1, _), (0, _)] rfl rfl (.cons_cons _ (.cons _ (.refl _))) (fun _ h => absurd h (Nat.not_lt_zero _)) (fun id h => by simp only [show ¬ id = 4 by omega, show ¬ id < 6 by omega, if_false]; omega) (.cons rfl (TnS.d _) (.cons rfl (TnS.ptr rfl) (.cons rfl (TnS.ptr rfl) (.cons rfl (TnS.d _) (.cons rfl (TnS.d _) trivial))))) (.cons ⟨rfl, TnO.arr (F2.append (pp_tn _) (.cons (.cons (TnS.d _) (.cons (TnS.d _) .nil)) .nil))⟩ (.cons ⟨rfl, TnO.arr (pp_tn _)⟩ (.cons ⟨rfl, TnO.arr (.cons (.cons (TnS.d _) (.cons (TnS.slc (r := fun i => if i = 4 then 7 else if i < 6 then i else i + 2) (id := 7) (id' := 4) rfl) (.cons (TnS.slc (r := fun i => if i = 4 then 7 else if i < 6 then i else i + 2) (id := 5) (id' := 5) rfl) (.cons (TnS.d _) (.cons (TnS.d _) (.cons (TnS.d _) (.cons (TnS.d _) .nil))))))) .nil)⟩ (.cons ⟨rfl, TnO.arr (.cons (.cons (TnS.dx _) (.cons (TnS.dx _) (.cons (TnS.dx _) (.cons (TnS.d _) (.cons (TnS.d _) (.cons (TnS.d _) (.cons (TnS.d _) .nil))))))) .nil)⟩ .nil)))) (fun h => h)) (Imp.perm (.swap _ _ _))
theorem appendA {ws o : List Nat} {j : Nat} {E : List Entry} {S A : List Pair} {x y : Int} : Imp ⟨[(0, SW ws), (2, .ptr 0 0 0), (4, .ptr 1 0 0), (5, SI (nats o)), (14, I (j + 1 + 1 : Nat))], [(7, .arr 2 (pp A ++ [[I x, I y]])), (6, .arr 2 [[I x, I y]]), (4, .arr 2 (pp S)), (1, .arr 7 [[SE E, .slc 4 2 0 S.length S.length, .slc 7 2 0 (A.length + 1) (A.length + 1), I 0, I 0, I 0, I 0]]), (0, .arr 7 [zer])], 8, 212, [], 0⟩
    ⟨[(0, SW ws), (2, .ptr 0 0 0), (4, .ptr 1 0 0), (5, SI (nats o)), (14, I (j + 1 + 1 : Nat))], [(5, .arr 2 (pp (A ++ [Pair.mk x y]))), (4, .arr 2 (pp S)), (1, .arr 7 [[SE E, .slc 4 2 0 S.length S.length, .slc 5 2 0 (A ++ [Pair.mk x y]).length (A ++ [Pair.mk x y]).length, I 0, I 0, I 0, I 0]]), (0, .arr 7 [zer])], 6, 212, [], 0⟩ := by
  rw [List.length_append, List.length_singleton, pp_snoc]
  exact Imp.go (fun i => if i = 5 then 7 else if i < 6 then i else i + 2) [(7, _), (4, _), (1, _), (0, _)] rfl rfl (.cons_cons _ (.cons _ (.refl _))) (fun _ h => absurd h (Nat.not_lt_zero _)) (fun id h => by simp only [show ¬ id = 5 by omega, show ¬ id < 6 by omega, if_false]; omega) (.cons rfl (TnS.d _) (.cons rfl (TnS.ptr rfl) (.cons rfl (TnS.ptr rfl) (.cons rfl (TnS.d _) (.cons rfl (TnS.d _) trivial))))) (.cons ⟨rfl, TnO.arr (F2.append (pp_tn _) (.cons (.cons (TnS.d _) (.cons (TnS.d _) .nil)) .nil))⟩ (.cons ⟨rfl, TnO.arr (pp_tn _)⟩ (.cons ⟨rfl, TnO.arr (.cons (.cons (TnS.d _) (.cons (TnS.slc (r := fun i => if i = 5 then 7 else if i < 6 then i else i + 2) (id := 4) (id' := 4) rfl) (.cons (TnS.slc (r := fun i => if i = 5 then 7 else if i < 6 then i else i + 2) (id := 7) (id' := 5) rfl) (.cons (TnS.d _) (.cons (TnS.d _) (.cons (TnS.d _) (.cons (TnS.d _) .nil))))))) .nil)⟩ (.cons ⟨rfl, TnO.arr (.cons (.cons (TnS.dx _) (.cons (TnS.dx _) (.cons (TnS.dx _) (.cons (TnS.d _) (.cons (TnS.d _) (.cons (TnS.d _) (.cons (TnS.d _) .nil))))))) .nil)⟩ .nil)))) (fun h => h)
theorem appendN {ws o : List Nat} {j : Nat} {E : List Entry} {S A : List Pair} {x y : Int} : Imp ⟨[(0, SW ws), (2, .ptr 0 0 0), (4, .ptr 1 0 0), (5, SI (nats o)), (14, I (j + 1 + 1 : Nat))], [(6, .arr 2 [[I x, I y]]), (5, .arr 2 (pp A)), (4, .arr 2 (pp S)), (1, .arr 7 [[SE E, .slc 4 2 0 S.length S.length, .slc 5 2 0 A.length A.length, I 0, I 0, I 0, I 0]]), (0, .arr 7 [zer])], 7, 212, [], 0⟩
    ⟨[(0, SW ws), (2, .ptr 0 0 0), (4, .ptr 1 0 0), (5, SI (nats o)), (14, I (j + 1 + 1 : Nat))], [(5, .arr 2 (pp A)), (4, .arr 2 (pp S)), (1, .arr 7 [[SE E, .slc 4 2 0 S.length S.length, .slc 5 2 0 A.length A.length, I 0, I 0, I 0, I 0]]), (0, .arr 7 [zer])], 6, 212, [], 0⟩ :=
  Imp.go (fun i => if i < 6 then i else i + 1) [(5, _), (4, _), (1, _), (0, _)] rfl rfl (.cons _ (.refl _)) (fun _ h => absurd h (Nat.not_lt_zero _)) (fun id h => by simp only [show ¬ id < 6 by omega, if_false]; omega) (.cons rfl (TnS.d _) (.cons rfl (TnS.ptr rfl) (.cons rfl (TnS.ptr rfl) (.cons rfl (TnS.d _) (.cons rfl (TnS.d _) trivial))))) (.cons ⟨rfl, TnO.arr (pp_tn _)⟩ (.cons ⟨rfl, TnO.arr (pp_tn _)⟩ (.cons ⟨rfl, TnO.arr (.cons (.cons (TnS.d _) (.cons (TnS.slc (r := fun i => if i < 6 then i else i + 1) (id := 4) (id' := 4) rfl) (.cons (TnS.slc (r := fun i => if i < 6 then i else i + 1) (id := 5) (id' := 5) rfl) (.cons (TnS.d _) (.cons (TnS.d _) (.cons (TnS.d _) (.cons (TnS.d _) .nil))))))) .nil)⟩ (.cons ⟨rfl, TnO.arr (.cons (.cons (TnS.dx _) (.cons (TnS.dx _) (.cons (TnS.dx _) (.cons (TnS.d _) (.cons (TnS.d _) (.cons (TnS.d _) (.cons (TnS.d _) .nil))))))) .nil)⟩ .nil)))) (fun h => h)
abbrev tysW43_54 := And.intro ty.sz0 <| And.intro ty.agg0 <| And.intro ty.elem0 <| And.intro ty.sz3 <| And.intro ty.agg3 <| And.intro ty.elem3 <| And.intro ty.zero3 <| And.intro ty.und3 <| And.intro ty.sz4 <| And.intro ty.agg4 <| And.intro ty.elem4 <| And.intro ty.zero4 <| And.intro ty.und4 <| And.intro ty.sz22 <| And.intro ty.agg22 <| And.intro ty.elem22 <| And.intro ty.by22 <| And.intro ty.ez22 <| And.intro ty.zero22 <| And.intro ty.und22 <| And.intro ty.sz23 <| And.intro ty.agg23 <| And.intro ty.elem23 <| And.intro ty.by23 <| And.intro ty.ez23 <| And.intro ty.zero23 <| And.intro ty.und23 <| And.intro ty.sz25 <| And.intro ty.agg25 <| And.intro ty.fld25_0 <| And.intro ty.fld25_1 <| And.intro ty.elem25 <| And.intro ty.zero25 <| And.intro ty.pl25 <| And.intro ty.sz27 <| And.intro ty.agg27 <| And.intro ty.fld27_0 <| And.intro ty.fld27_1 <| And.intro ty.fld27_2 <| And.intro ty.fld27_3 <| And.intro ty.fld27_4 <| And.intro ty.elem27 <| And.intro ty.zero27 <| And.intro ty.pl27 <| And.intro ty.sz43 <| And.intro ty.agg43 <| And.intro ty.elem43 <| And.intro ty.by43 <| And.intro ty.ez43 <| And.intro ty.zero43 <| And.intro ty.und43 <| And.intro ty.sz71 <| And.intro ty.agg71 <| And.intro ty.fld71_0 <| And.intro ty.fld71_1 <| And.intro ty.fld71_2 <| And.intro ty.fld71_3 <| And.intro ty.elem71 <| And.intro ty.zero71 <| And.intro ty.pl71 <| And.intro ty.sz73 <| And.intro ty.agg73 <| And.intro ty.fld73_0 <| And.intro ty.fld73_1 <| And.intro ty.elem73 <| And.intro ty.zero73 <| And.intro ty.pl73 <| And.intro ty.sz77 <| And.intro ty.agg77 <| And.intro ty.elem77 <| And.intro ty.zero77 <| And.intro ty.und77 <| And.intro ty.sz79 <| And.intro ty.agg79 <| And.intro ty.elem79 <| And.intro ty.by79 <| And.intro ty.ez79 <| And.intro ty.zero79 <| ty.und79
set_option maxHeartbeats 4000000 in
theorem Truly_c (ws : List Nat) (hw : ∀ n ∈ ws, n < 65536) : CallP Tryd.prog G0 54 [SW ws] (.tup [(trulyC ws).s, SI (nats (trulyV ws))]) := by
  refine CallP.body 212 [.cell 2 27, .tmp 3] Tryd.func54 (by kernel_rfl) rfl rfl rfl (by repeat' (first | exact Pure.d _ | exact Pure.dx _ | exact Pure.dp _ | exact fa_nil | refine fa_cons ?_ ?_ | refine Pure.agg ?_ | refine Pure.tup ?_ | refine Pure.clo ?_ ?_ | refine Pure.fp ?_ | exact Pure.mapd _ | assumption)) (by repeat' (first | exact Pure.d _ | exact Pure.dx _ | exact Pure.dp _ | exact fa_nil | refine fa_cons ?_ ?_ | refine Pure.agg ?_ | refine Pure.tup ?_ | refine Pure.clo ?_ ?_ | refine Pure.fp ?_ | exact Pure.mapd _ | assumption)) ?_
  refine Tr.reg [0, 2] (by
      simp only [↓sxd, sxu, ↓zE, ↓exq, St.keep, ↓zM, Nat.reduceBEq, Nat.reduceAdd, Nat.reduceLT, Nat.reduceEqDiff, tysW43_54]
      (repeat' (first | rfl | exact trivial | exact fun h => h | exact fun h => (by rw [h]; rfl) | apply And.intro | omega | exact Nat.le_of_ble_eq_true rfl))) ?_
  refine Tr.reg [0, 2, 4] (by
      simp only [↓sxd, sxu, ↓zE, ↓exq, St.keep, ↓zM, Nat.reduceBEq, Nat.reduceAdd, Nat.reduceLT, Nat.reduceEqDiff, tysW43_54]
      (repeat' (first | rfl | exact trivial | exact fun h => h | exact fun h => (by rw [h]; rfl) | apply And.intro | omega | exact Nat.le_of_ble_eq_true rfl))) ?_
  refine Tr.reg [0, 2, 4, 5] (by
      simp only [↓sxd, sxu, ↓zE, ↓exq, St.keep, Nat.reduceBEq, Nat.reduceLT]
      (repeat' (first | rfl | exact trivial | exact fun h => h | exact fun h => (by rw [h]; rfl) | apply And.intro | omega | exact Nat.le_of_ble_eq_true rfl))) ?_
  refine Tr.seq ?_
  refine Tr.reg [0, 2, 4, 5, 6] (by
      simp only [↓sxd, sxu, ↓zE, ↓exq, St.keep, Nat.reduceBEq, Nat.reduceLT]
      (repeat' (first | rfl | exact trivial | exact fun h => h | exact fun h => (by rw [h]; rfl) | apply And.intro | omega | exact Nat.le_of_ble_eq_true rfl))) ?_
  refine Tr.imp (st' := ⟨[(0, SW ws), (2, .ptr 0 0 0), (4, .ptr 1 0 0), (5, .slc 3 1 0 [].length [].length), (6, I 0)], [(3, .arr 1 (vv [])), (2, .arr 5 (ee [])), (1, .arr 7 [[.slc 2 5 0 [].length [].length, .dx [], .dx [], I 0, I 0, I 0, I 0]]), (0, .arr 7 [[.dx [], .dx [], .dx [], I 0, I 0, I 0, I 0]])], 4, 212, [], 0⟩) (Imp.trans (b := ⟨[(0, SW ws), (2, .ptr 0 0 0), (4, .ptr 1 0 0), (5, .dx []), (6, I 0)], [(2, .arr 5 []), (1, .arr 7 [[.slc 2 5 0 0 0, .dx [], .dx [], I 0, I 0, I 0, I 0]]), (0, .arr 7 [[.dx [], .dx [], .dx [], I 0, I 0, I 0, I 0]])], 3, 212, [], 0⟩) (Imp.goV 5 rfl rfl rfl rfl (by repeat' (first | exact trivial | exact F2.nil | refine F2.cons ?_ ?_ | refine TmV.cons rfl VnS.nil ?_ | refine TmV.cons rfl VnS.same ?_ | refine ⟨rfl, ?_⟩ | exact VnO.same _ | refine VnO.arr ?_ | exact VnS.nil | exact VnS.same | exact F2.refl fun _ _ => VnS.same)) (by repeat' (first | exact trivial | exact F2.nil | refine F2.cons ?_ ?_ | refine TmV.cons rfl VnS.nil ?_ | refine TmV.cons rfl VnS.same ?_ | refine ⟨rfl, ?_⟩ | exact VnO.same _ | refine VnO.arr ?_ | exact VnS.nil | exact VnS.same | exact F2.refl fun _ _ => VnS.same))) (Imp.goV 1 rfl rfl rfl rfl (by repeat' (first | exact trivial | exact F2.nil | refine F2.cons ?_ ?_ | refine TmV.cons rfl VnS.nil ?_ | refine TmV.cons rfl VnS.same ?_ | refine ⟨rfl, ?_⟩ | exact VnO.same _ | refine VnO.arr ?_ | exact VnS.nil | exact VnS.same | exact F2.refl fun _ _ => VnS.same)) (by repeat' (first | exact trivial | exact F2.nil | refine F2.cons ?_ ?_ | refine TmV.cons rfl VnS.nil ?_ | refine TmV.cons rfl VnS.same ?_ | refine ⟨rfl, ?_⟩ | exact VnO.same _ | refine VnO.arr ?_ | exact VnS.nil | exact VnS.same | exact F2.refl fun _ _ => VnS.same)))) (Tr.block (Tr.loopI (fun mm ss => ∃ (i : Nat) (E : List Entry) (o : List Nat), (i ≤ 9 ∧ i ≤ ws.length ∧ tTo ws i = (E, o)) ∧ 9 - i = mm ∧ ss = ⟨[(0, SW ws), (2, .ptr 0 0 0), (4, .ptr 1 0 0), (5, .slc 3 1 0 o.length o.length), (6, I i)], [(3, .arr 1 (vv o)), (2, .arr 5 (ee E)), (1, .arr 7 [[.slc 2 5 0 E.length E.length, .dx [], .dx [], I 0, I 0, I 0, I 0]]), (0, .arr 7 [[.dx [], .dx [], .dx [], I 0, I 0, I 0, I 0]])], 4, 212, [], 0⟩) _ ⟨0, [], [], ?_, rfl, rfl⟩ ?_))
  · exact ⟨Nat.zero_le _, Nat.zero_le _, rfl⟩
  rintro mm ss ⟨i, E, o, hI, rfl, rfl⟩
  obtain ⟨hI, hIw, hx⟩ := hI
  have hok := tTo_ok ws i
  rw [hx] at hok
  obtain ⟨hEo, hoi, hag⟩ := hok
  have hEo : E.length = o.length := hEo
  have hoi : o.length ≤ i := hoi
  have hag : ∀ j, j < o.length → 30 ≤ (E.getD j default).ages.lo ∧ (E.getD j default).ages.lo ≤ 31 := hag
  refine Tr.seq ?_
  refine Tr.reg [0, 2, 4, 5, 6, 26] (by
      simp only [↓sxd, sxu, ↓zE, ↓exq, ↓zB, St.keep, ↓zJ, Nat.reduceBEq, Nat.reduceLT, sxe, tysW43_54]
      iterate 2
        (repeat ((with_reducible refine And.intro ?_ ?_); (focus (first | with_reducible rfl | trivial | exact fun h => h | exact fun h => (by rw [h]; rfl) | omega | assumption))))
        refine GdO.mk _ (fun hg => by simp only [↓sxd, sxu, ↓exq, Nat.reduceBEq, hg]; (repeat' (first | rfl | exact trivial | exact fun h => h | exact fun h => (by rw [h]; rfl) | apply And.intro | omega | exact Nat.le_of_ble_eq_true rfl))) ?_
        simp only [↓sxd, sxu, ↓zE, ↓exq, ↓zH, Nat.reduceBEq, Nat.reduceLT]
      (repeat' (first | rfl | exact trivial | exact fun h => h | exact fun h => (by rw [h]; rfl) | apply And.intro | omega | exact Nat.le_of_ble_eq_true rfl))) ?_
  refine Tr.cond rfl (fun h26 => ?_) (fun h26 => ?_)
  · have hlt : i < ws.length ∧ i < 9 := by
      simp only [Bool.and_eq_true, decide_eq_true_eq] at h26; omega
    obtain ⟨hiw, hi9⟩ := hlt
    have hwb := hw _ (getD_mem (d := 0) hiw)
    have hst : tTo ws (i + 1) = tStep (E, o) (ws.getD i 0) := by rw [tTo, hx]
    generalize hwd : ws.getD i 0 = w at hwb hst
    have hstd : tStep (E, o) w = if freeTo E o (w % 5) (w / 5 % 10) o.length then (E ++ [newE E o w], o ++ [w % 5]) else (E, o) := rfl
    have hpw : w % 5 * w ≤ 4 * 65535 := Nat.mul_le_mul (by omega) (by omega)
    have wpw : IntKind.i64.wrap (((w % 5 : Nat) : Int) * (w : Int)) = ((w % 5 * w : Nat) : Int) := by
      rw [← Int.natCast_mul]; exact wi (by omega)
    refine Tr.skip ?_
    refine Tr.seq ?_
    refine Tr.block ?_
    refine Tr.reg [0, 2, 4, 5, 6, 7] (by
        simp only [↓sxd, sxu, ↓zE, ↓exq, St.keep, ↓xB, ↓zD, Nat.reduceBEq, Nat.reduceLT, sxe, tysW43_54, hiw, hwd, wi (show w < 9223372036854775808 by omega)]
        (repeat' (first | rfl | exact trivial | exact fun h => h | exact fun h => (by rw [h]; rfl) | apply And.intro | omega | exact Nat.le_of_ble_eq_true rfl))) ?_
    refine Tr.reg [0, 2, 4, 5, 6, 7, 8, 9] (by
        simp only [↓sxd, sxu, ↓zE, ↓exq, St.keep, Nat.reduceBEq, Nat.reduceLT, tmod5, tdiv5, wi (show w / 5 < 9223372036854775808 by omega), tmod10]
        (repeat' (first | rfl | exact trivial | exact fun h => h | exact fun h => (by rw [h]; rfl) | apply And.intro | omega | exact Nat.le_of_ble_eq_true rfl))) ?_
    refine Tr.reg [0, 2, 4, 5, 6, 7, 8, 9, 10] (by
        simp only [↓sxd, sxu, ↓zE, ↓exq, St.keep, Nat.reduceBEq, Nat.reduceLT]
        (repeat' (first | rfl | exact trivial | exact fun h => h | exact fun h => (by rw [h]; rfl) | apply And.intro | omega | exact Nat.le_of_ble_eq_true rfl))) ?_
    refine Tr.seq ?_
    refine Tr.reg [0, 2, 4, 5, 6, 7, 8, 9, 10, 11] (by
        simp only [↓sxd, sxu, ↓zE, ↓exq, St.keep, Nat.reduceBEq, Nat.reduceLT]
        (repeat' (first | rfl | exact trivial | exact fun h => h | exact fun h => (by rw [h]; rfl) | apply And.intro | omega | exact Nat.le_of_ble_eq_true rfl))) ?_
    refine Tr.imp (st' := ⟨[(0, SW ws), (2, .ptr 0 0 0), (4, .ptr 1 0 0), (5, .slc 3 1 0 o.length o.length), (6, I i), (7, I w), (8, I (w % 5 : Nat)), (9, I (w / 5 % 10 : Nat)), (10, B (freeTo E o (w % 5) (w / 5 % 10) 0)), (11, I 0)], [(3, .arr 1 (vv o)), (2, .arr 5 (ee E)), (1, .arr 7 [[.slc 2 5 0 E.length E.length, .dx [], .dx [], I 0, I 0, I 0, I 0]]), (0, .arr 7 [[.dx [], .dx [], .dx [], I 0, I 0, I 0, I 0]])], 4, 212, [], 0⟩) (Imp.keepAll) (Tr.block (Tr.loopI (fun mm ss => ∃ (k : Nat), (k ≤ o.length) ∧ o.length - k = mm ∧ ss = ⟨[(0, SW ws), (2, .ptr 0 0 0), (4, .ptr 1 0 0), (5, .slc 3 1 0 o.length o.length), (6, I i), (7, I w), (8, I (w % 5 : Nat)), (9, I (w / 5 % 10 : Nat)), (10, B (freeTo E o (w % 5) (w / 5 % 10) k)), (11, I k)], [(3, .arr 1 (vv o)), (2, .arr 5 (ee E)), (1, .arr 7 [[.slc 2 5 0 E.length E.length, .dx [], .dx [], I 0, I 0, I 0, I 0]]), (0, .arr 7 [[.dx [], .dx [], .dx [], I 0, I 0, I 0, I 0]])], 4, 212, [], 0⟩) _ ⟨0, ?_, rfl, rfl⟩ ?_))
    · exact Nat.zero_le _
    rintro mm ss ⟨k, hI, rfl, rfl⟩
    refine Tr.seq ?_
    refine Tr.reg [0, 2, 4, 5, 6, 7, 8, 9, 10, 11, 42] (by
        simp only [↓sxd, sxu, ↓zE, ↓exq, ↓zB, St.keep, ↓zJ, Nat.reduceBEq, Nat.reduceLT, sxe, tysW43_54]
        (repeat' (first | rfl | exact trivial | exact fun h => h | exact fun h => (by rw [h]; rfl) | apply And.intro | omega | exact Nat.le_of_ble_eq_true rfl))) ?_
    refine Tr.cond rfl (fun h42 => ?_) (fun h42 => ?_)
    · have hko : k < o.length := by have := of_decide_eq_true h42; omega
      have hkE : k < E.length := by omega
      refine Tr.skip ?_
      refine Tr.seq ?_
      refine Tr.block ?_
      refine Tr.reg1 [0, 2, 4, 5, 6, 7, 8, 9, 10, 11] (by
          simp only [↓sxd, sxu, ↓zE, ↓exq, St.keep, Nat.reduceBEq, Nat.reduceLT, hko]
          iterate 15
            (repeat ((with_reducible refine And.intro ?_ ?_); (focus (first | with_reducible rfl | trivial | exact fun h => h | exact fun h => (by rw [h]; rfl) | omega | assumption))))
            refine GdO.mk _ (fun hg => by simp only [↓sxd, sxu, ↓exq, ↓zD, ↓zA, Nat.reduceBEq, Nat.reduceAdd, Nat.reduceLT, Nat.reduceEqDiff, sxe, tysW43_54, hko, vv_getD hko, ee_len, hkE, ee_get hkE, hg]; (repeat' (first | rfl | exact trivial | exact fun h => h | exact fun h => (by rw [h]; rfl) | apply And.intro | omega | exact Nat.le_of_ble_eq_true rfl))) ?_
            simp only [↓sxd, sxu, ↓zE, Nat.reduceBEq, Nat.reduceLT]
          (repeat ((with_reducible refine And.intro ?_ ?_); (focus (first | with_reducible rfl | trivial | exact fun h => h | exact fun h => (by rw [h]; rfl) | omega | assumption))))
          first | refine GdO.or (fun hg => by simp only [sxu, Nat.reduceBEq, pickArgs, hg]; (repeat' (first | rfl | exact trivial | exact fun h => h | exact fun h => (by rw [h]; rfl) | apply And.intro | omega | exact Nat.le_of_ble_eq_true rfl))) ?_ | refine GdO.mk _ (fun hg => by simp only [↓sxd, sxu, ↓zE, ↓zC, zK, ↓exP, ↓exq, ↓zB, St.keep, ↓zH, ↓xB, ↓zL, ↓zJ, ↓zD, ↓zM, ↓zO, ↓zG, ↓zQ, ↓zA, Nat.reduceBEq, Nat.reduceAdd, Nat.reduceLT, Nat.reduceMul, Nat.reduceSub, Nat.reduceLeDiff, Nat.reduceEqDiff, Int.reduceLE, Int.reduceLT, Int.reduceToNat, reduceIte, implies_true, sxe, tysW43_54, vv_len, hko, vv_getD hko, ee_len, hkE, ee_get hkE, hg, if_true]; (repeat' (first | rfl | exact trivial | exact fun h => h | exact fun h => (by rw [h]; rfl) | apply And.intro | omega | exact Nat.le_of_ble_eq_true rfl))) ?_
          simp only [↓sxd, sxu, ↓zE, ↓exq, ↓zH, Nat.reduceBEq, Nat.reduceLT]
          (repeat' (first | rfl | exact trivial | exact fun h => h | exact fun h => (by rw [h]; rfl) | apply And.intro | omega | exact Nat.le_of_ble_eq_true rfl))) ?_
      have w1 : IntKind.i64.wrap ((k : Int) + 1) = ((k + 1 : Nat) : Int) := by rw [wr (by omega) (by omega)]; rfl
      refine Tr.reg1 [0, 2, 4, 5, 6, 7, 8, 9, 10, 11] (by
          simp only [↓sxd, sxu, ↓zE, ↓exq, St.keep, Nat.reduceBEq, Nat.reduceLT, w1]
          (repeat' (first | rfl | exact trivial | exact fun h => h | exact fun h => (by rw [h]; rfl) | apply And.intro | omega | exact Nat.le_of_ble_eq_true rfl))) ?_
      refine ⟨_, _, ?_, ?_, ⟨k + 1, hko, rfl, rfl⟩⟩
      · omega
      · rw [freeTo_succ, ← ibn]
        exact Imp.keepAll
    · have hke : k = o.length := by have := of_decide_eq_false h42; omega
      subst hke
      refine Tr.exit ?_
      refine Tr.seq ?_
      refine Tr.reg [0, 2, 4, 5, 6, 7, 8, 9, 65] (by
          simp only [↓sxd, sxu, ↓zE, ↓exq, St.keep, ↓zL, Nat.reduceBEq, Nat.reduceLT]
          (repeat' (first | rfl | exact trivial | exact fun h => h | exact fun h => (by rw [h]; rfl) | apply And.intro | omega | exact Nat.le_of_ble_eq_true rfl))) ?_
      refine Tr.cond rfl (fun h65 => ?_) (fun h65 => ?_)
      · have hfr : freeTo E o (w % 5) (w / 5 % 10) o.length = false := by simpa using h65
        have hnx : tTo ws (i + 1) = (E, o) := by rw [hst, hstd, hfr]; rfl
        refine Tr.exit ?_
        have w3 : IntKind.i64.wrap ((i : Int) + 1) = ((i + 1 : Nat) : Int) := by rw [wr (by omega) (by omega)]; rfl
        refine Tr.reg1 [0, 2, 4, 5, 6] (by
            simp only [↓sxd, sxu, ↓zE, ↓exq, St.keep, Nat.reduceBEq, Nat.reduceLT, w3]
            (repeat' (first | rfl | exact trivial | exact fun h => h | exact fun h => (by rw [h]; rfl) | apply And.intro | omega | exact Nat.le_of_ble_eq_true rfl))) ?_
        first |(have hq := hab; exact ⟨_, _, by omega, append0 hEo, ⟨i + 1, E ++ [newE E o w], o ++ [w % 5], ⟨by omega, by omega, hnx⟩, rfl, rfl⟩⟩) |(exact ⟨_, _, by omega, Imp.keepAll, ⟨i + 1, E, o, ⟨by omega, by omega, hnx⟩, rfl, rfl⟩⟩)
      · have hfr : freeTo E o (w % 5) (w / 5 % 10) o.length = true := by simpa using h65
        have hnx : tTo ws (i + 1) = (E ++ [newE E o w], o ++ [w % 5]) := by rw [hst, hstd, hfr]; rfl
        have hab := age_bd (E := E) (o := o) (p := w % 5) (a0 := 30 + w % 5 * w / 64 % 2) (by omega) o.length hag
        have wa := wadd (k := w / 128 % 3) (show 0 ≤ ageTo E o (w % 5) (30 + w % 5 * w / 64 % 2) o.length by omega) (by omega) (by omega)
        refine Tr.skip ?_
        have w30 : IntKind.i64.wrap ((30 : Int) + ((w % 5 * w / 64 % 2 : Nat) : Int)) = ((30 + w % 5 * w / 64 % 2 : Nat) : Int) := by
          have : w % 5 * w / 64 % 2 < 2 := Nat.mod_lt _ (by omega)
          generalize w % 5 * w / 64 % 2 = z at this ⊢
          rw [wr (by omega) (by omega)]; rfl
        refine Tr.reg [0, 2, 4, 5, 6, 7, 8, 9, 12] (by
            simp only [↓sxd, sxu, ↓zE, ↓exq, St.keep, Nat.reduceBEq, Nat.reduceLT, wpw, tdiv64, tmod2n, wi (show w % 5 * w / 64 < 9223372036854775808 by omega), w30]
            (repeat' (first | rfl | exact trivial | exact fun h => h | exact fun h => (by rw [h]; rfl) | apply And.intro | omega | exact Nat.le_of_ble_eq_true rfl))) ?_
        refine Tr.seq ?_
        refine Tr.reg [0, 2, 4, 5, 6, 7, 8, 9, 12, 13] (by
            simp only [↓sxd, sxu, ↓zE, ↓exq, St.keep, Nat.reduceBEq, Nat.reduceLT]
            (repeat' (first | rfl | exact trivial | exact fun h => h | exact fun h => (by rw [h]; rfl) | apply And.intro | omega | exact Nat.le_of_ble_eq_true rfl))) ?_
        refine Tr.imp (st' := ⟨[(0, SW ws), (2, .ptr 0 0 0), (4, .ptr 1 0 0), (5, .slc 3 1 0 o.length o.length), (6, I i), (7, I w), (8, I (w % 5 : Nat)), (9, I (w / 5 % 10 : Nat)), (12, I (ageTo E o (w % 5) (30 + w % 5 * w / 64 % 2) 0)), (13, I 0)], [(3, .arr 1 (vv o)), (2, .arr 5 (ee E)), (1, .arr 7 [[.slc 2 5 0 E.length E.length, .dx [], .dx [], I 0, I 0, I 0, I 0]]), (0, .arr 7 [[.dx [], .dx [], .dx [], I 0, I 0, I 0, I 0]])], 4, 212, [], 0⟩) (Imp.keepAll) (Tr.block (Tr.loopI (fun mm ss => ∃ (j : Nat), (j ≤ o.length) ∧ o.length - j = mm ∧ ss = ⟨[(0, SW ws), (2, .ptr 0 0 0), (4, .ptr 1 0 0), (5, .slc 3 1 0 o.length o.length), (6, I i), (7, I w), (8, I (w % 5 : Nat)), (9, I (w / 5 % 10 : Nat)), (12, I (ageTo E o (w % 5) (30 + w % 5 * w / 64 % 2) j)), (13, I j)], [(3, .arr 1 (vv o)), (2, .arr 5 (ee E)), (1, .arr 7 [[.slc 2 5 0 E.length E.length, .dx [], .dx [], I 0, I 0, I 0, I 0]]), (0, .arr 7 [[.dx [], .dx [], .dx [], I 0, I 0, I 0, I 0]])], 4, 212, [], 0⟩) _ ⟨0, ?_, rfl, rfl⟩ ?_))
        · exact Nat.zero_le _
        rintro mm ss ⟨j, hI, rfl, rfl⟩
        refine Tr.seq ?_
        refine Tr.reg [0, 2, 4, 5, 6, 7, 8, 9, 12, 13, 75] (by
            simp only [↓sxd, sxu, ↓zE, ↓exq, ↓zB, St.keep, ↓zJ, Nat.reduceBEq, Nat.reduceLT, sxe, tysW43_54]
            (repeat' (first | rfl | exact trivial | exact fun h => h | exact fun h => (by rw [h]; rfl) | apply And.intro | omega | exact Nat.le_of_ble_eq_true rfl))) ?_
        refine Tr.cond rfl (fun h75 => ?_) (fun h75 => ?_)
        · have hjo : j < o.length := by have := of_decide_eq_true h75; omega
          have hjE : j < E.length := by omega
          refine Tr.skip ?_
          refine Tr.seq ?_
          refine Tr.block ?_
          refine Tr.reg [0, 2, 4, 5, 6, 7, 8, 9, 12, 13, 83] (by
              simp only [↓sxd, sxu, ↓zE, ↓exq, St.keep, ↓zD, Nat.reduceBEq, Nat.reduceLT, sxe, tysW43_54, hjo, vv_getD hjo]
              (repeat' (first | rfl | exact trivial | exact fun h => h | exact fun h => (by rw [h]; rfl) | apply And.intro | omega | exact Nat.le_of_ble_eq_true rfl))) ?_
          refine Tr.cond rfl (fun h83 => ?_) (fun h83 => ?_)
          · have hq : o.getD j 0 = w % 5 := by have := beq_iff_eq.1 h83; omega
            have hat : ageTo E o (w % 5) (30 + w % 5 * w / 64 % 2) (j + 1) = (E.getD j default).ages.lo := by rw [ageTo, if_pos hq]
            refine Tr.reg1 [0, 2, 4, 5, 6, 7, 8, 9, 12, 13] (by
                simp only [↓sxd, sxu, ↓zE, ↓exq, St.keep, ↓zD, ↓zA, Nat.reduceBEq, Nat.reduceAdd, Nat.reduceLT, Nat.reduceEqDiff, sxe, tysW43_54, ee_len, hjE, ee_get hjE]
                (repeat' (first | rfl | exact trivial | exact fun h => h | exact fun h => (by rw [h]; rfl) | apply And.intro | omega | exact Nat.le_of_ble_eq_true rfl))) ?_
            have w2 : IntKind.i64.wrap ((j : Int) + 1) = ((j + 1 : Nat) : Int) := by rw [wr (by omega) (by omega)]; rfl
            refine Tr.reg1 [0, 2, 4, 5, 6, 7, 8, 9, 12, 13] (by
                simp only [↓sxd, sxu, ↓zE, ↓exq, St.keep, Nat.reduceBEq, Nat.reduceLT, w2]
                (repeat' (first | rfl | exact trivial | exact fun h => h | exact fun h => (by rw [h]; rfl) | apply And.intro | omega | exact Nat.le_of_ble_eq_true rfl))) ?_
            refine ⟨_, _, ?_, ?_, ⟨j + 1, hjo, rfl, rfl⟩⟩
            · omega
            · rw [hat]; exact Imp.keepAll
          · have hq : ¬ o.getD j 0 = w % 5 := fun hc => by rw [hc] at h83; simp at h83
            have hat : ageTo E o (w % 5) (30 + w % 5 * w / 64 % 2) (j + 1) = ageTo E o (w % 5) (30 + w % 5 * w / 64 % 2) j := by rw [ageTo, if_neg hq]
            refine Tr.skip ?_
            have w2 : IntKind.i64.wrap ((j : Int) + 1) = ((j + 1 : Nat) : Int) := by rw [wr (by omega) (by omega)]; rfl
            refine Tr.reg1 [0, 2, 4, 5, 6, 7, 8, 9, 12, 13] (by
                simp only [↓sxd, sxu, ↓zE, ↓exq, St.keep, Nat.reduceBEq, Nat.reduceLT, w2]
                (repeat' (first | rfl | exact trivial | exact fun h => h | exact fun h => (by rw [h]; rfl) | apply And.intro | omega | exact Nat.le_of_ble_eq_true rfl))) ?_
            refine ⟨_, _, ?_, ?_, ⟨j + 1, hjo, rfl, rfl⟩⟩
            · omega
            · rw [hat]; exact Imp.keepAll
        · have hje : j = o.length := by have := of_decide_eq_false h75; omega
          subst hje
          refine Tr.exit ?_
          have hk5 : (E.length + 1 ≤ 1073741824) = True := eq_true (by omega)
          refine Tr.reg [0, 2, 4, 5, 6, 8] (by
              simp only [↓sxd, sxu, ↓zE, ↓exq, ↓zB, St.keep, ↓zD, ↓zO, ↓zG, ↓zQ, ↓zA, Nat.reduceBEq, Nat.reduceAdd, Nat.reduceLT, Nat.reduceLeDiff, Nat.reduceEqDiff, tysW43_54, ee_len, tmod2n, tdiv3, tdiv128, tmod3, wi (show w / 128 < 9223372036854775808 by omega), wi (show w % 5 / 3 < 9223372036854775808 by omega), wa, hk5]
              (repeat' (first | rfl | exact trivial | exact fun h => h | exact fun h => (by rw [h]; rfl) | apply And.intro | omega | exact Nat.le_of_ble_eq_true rfl))) ?_
          have hk6 : (o.length + 1 ≤ 1073741824) = True := eq_true (by omega)
          refine Tr.reg1 [0, 2, 4, 5, 6] (by
              simp only [↓sxd, sxu, ↓zE, ↓exq, ↓zB, St.keep, ↓zG, ↓zQ, Nat.reduceBEq, Nat.reduceAdd, Nat.reduceLT, Nat.reduceLeDiff, Nat.reduceEqDiff, tysW43_54, hk6]
              (repeat' (first | rfl | exact trivial | exact fun h => h | exact fun h => (by rw [h]; rfl) | apply And.intro | omega | exact Nat.le_of_ble_eq_true rfl))) ?_
          have w3 : IntKind.i64.wrap ((i : Int) + 1) = ((i + 1 : Nat) : Int) := by rw [wr (by omega) (by omega)]; rfl
          refine Tr.reg1 [0, 2, 4, 5, 6] (by
              simp only [↓sxd, sxu, ↓zE, ↓exq, St.keep, Nat.reduceBEq, Nat.reduceLT, w3]
              (repeat' (first | rfl | exact trivial | exact fun h => h | exact fun h => (by rw [h]; rfl) | apply And.intro | omega | exact Nat.le_of_ble_eq_true rfl))) ?_
          first |(have hq := hab; exact ⟨_, _, by omega, append0 hEo, ⟨i + 1, E ++ [newE E o w], o ++ [w % 5], ⟨by omega, by omega, hnx⟩, rfl, rfl⟩⟩) |(exact ⟨_, _, by omega, Imp.keepAll, ⟨i + 1, E, o, ⟨by omega, by omega, hnx⟩, rfl, rfl⟩⟩)
  · have hend : i = ws.length ∨ i = 9 := by
      simp only [Bool.and_eq_false_iff, decide_eq_false_iff_not] at h26; omega
    refine Tr.exit ?_
    refine Tr.seq ?_
    have hmin : i = min ws.length 9 := by omega
    have hE : trulyE ws = E := by unfold trulyE; rw [← hmin, hx]
    have hV : trulyV ws = o := by unfold trulyV; rw [← hmin, hx]
    have hwo := wordOf_lt hw
    have ho9 : o.length ≤ 9 := by omega
    refine Tr.imp (st' := ⟨[(0, SW ws), (2, .ptr 0 0 0), (4, .ptr 1 0 0), (5, SI (nats o))], [(1, .arr 7 [[SE E, .dx [], .dx [], I 0, I 0, I 0, I 0]]), (0, .arr 7 [[.dx [], .dx [], .dx [], I 0, I 0, I 0, I 0]])], 4, 212, [], 0⟩) (Imp.go (fun i => i) [(1, _), (0, _)] rfl rfl (.cons _ (.cons _ (.refl _))) (fun _ _ => rfl) (fun _ h => h) (.cons rfl (TnS.d _) (.cons rfl (TnS.ptr rfl) (.cons rfl (TnS.ptr rfl) (.cons rfl (TnS.frz0 (id := 3) (sz := 1) (es := vv o) rfl (by simp) (by simp) (by rw [vv_len]) (vv_fz o)) trivial)))) (.cons ⟨rfl, TnO.arr (.cons (.cons (efz (id := 2) (es := ee E) (l := E) rfl rfl (by simp) rfl) (by repeat' (first | exact TmT.cons rfl (TnS.d _) ?_ | exact trivial | exact F2.nil | refine F2.append ?_ ?_ | refine F2.map fun _ _ => ?_ | refine F2.cons ?_ ?_ | refine TmT.cons rfl ?_ ?_ | exact TnS.d _ | exact TnS.dx _ | exact TnS.dp _ | exact TnS.slc rfl | exact TnS.ptr rfl | refine TnS.frzf rfl (by simp) (by simp) (by simp) ?_ | refine TnS.frz0 rfl (by simp) (by simp) (by simp) ?_ | refine TnS.frzm rfl (by simp) ?_ | exact TnS.mapr rfl | exact TnS.yld rfl | refine ⟨rfl, ?_⟩ | refine TnO.arr ?_ | refine TnO.map ?_ | exact TnO.raw _ | exact TnO.iter _ _ | refine TnS.agg ?_ | refine TnS.tup ?_ | exact TnS.pure (Pure.clo (by assumption) (by assumption)) | refine TnS.clo ?_ ?_ | exact TnS.unk _ | exact TnS.pure (Pure.clo (by assumption) (by assumption))))) .nil)⟩ (.cons ⟨rfl, TnO.arr (by repeat' (first | exact TmT.cons rfl (TnS.d _) ?_ | exact trivial | exact F2.nil | refine F2.append ?_ ?_ | refine F2.map fun _ _ => ?_ | refine F2.cons ?_ ?_ | refine TmT.cons rfl ?_ ?_ | exact TnS.d _ | exact TnS.dx _ | exact TnS.dp _ | exact TnS.slc rfl | exact TnS.ptr rfl | refine TnS.frzf rfl (by simp) (by simp) (by simp) ?_ | refine TnS.frz0 rfl (by simp) (by simp) (by simp) ?_ | refine TnS.frzm rfl (by simp) ?_ | exact TnS.mapr rfl | exact TnS.yld rfl | refine ⟨rfl, ?_⟩ | refine TnO.arr ?_ | refine TnO.map ?_ | exact TnO.raw _ | exact TnO.iter _ _ | refine TnS.agg ?_ | refine TnS.tup ?_ | exact TnS.pure (Pure.clo (by assumption) (by assumption)) | refine TnS.clo ?_ ?_ | exact TnS.unk _ | exact TnS.pure (Pure.clo (by assumption) (by assumption))))⟩ .nil)) (fun _ => rfl)) ?_
    refine Tr.reg [0, 2, 4, 5, 14] (by
        simp only [↓sxd, sxu, ↓zE, ↓exq, St.keep, Nat.reduceBEq, Nat.reduceLT]
        (repeat' (first | rfl | exact trivial | exact fun h => h | exact fun h => (by rw [h]; rfl) | apply And.intro | omega | exact Nat.le_of_ble_eq_true rfl))) ?_
    refine Tr.imp (st' := ⟨[(0, SW ws), (2, .ptr 0 0 0), (4, .ptr 1 0 0), (5, SI (nats o)), (14, I (0 + 1 : Nat))], [(5, .arr 2 (pp [])), (4, .arr 2 (pp [])), (1, .arr 7 [[SE E, .slc 4 2 0 [].length [].length, .slc 5 2 0 [].length [].length, I 0, I 0, I 0, I 0]]), (0, .arr 7 [[.dx [], .dx [], .dx [], I 0, I 0, I 0, I 0]])], 6, 212, [], 0⟩) (Imp.trans (b := ⟨[(0, SW ws), (2, .ptr 0 0 0), (4, .ptr 1 0 0), (5, SI (nats o)), (14, I 1)], [(4, .arr 2 []), (1, .arr 7 [[SE E, .slc 4 2 0 0 0, .dx [], I 0, I 0, I 0, I 0]]), (0, .arr 7 [[.dx [], .dx [], .dx [], I 0, I 0, I 0, I 0]])], 5, 212, [], 0⟩) (Imp.goV 2 rfl rfl rfl rfl (by repeat' (first | exact trivial | exact F2.nil | refine F2.cons ?_ ?_ | refine TmV.cons rfl VnS.nil ?_ | refine TmV.cons rfl VnS.same ?_ | refine ⟨rfl, ?_⟩ | exact VnO.same _ | refine VnO.arr ?_ | exact VnS.nil | exact VnS.same | exact F2.refl fun _ _ => VnS.same)) (by repeat' (first | exact trivial | exact F2.nil | refine F2.cons ?_ ?_ | refine TmV.cons rfl VnS.nil ?_ | refine TmV.cons rfl VnS.same ?_ | refine ⟨rfl, ?_⟩ | exact VnO.same _ | refine VnO.arr ?_ | exact VnS.nil | exact VnS.same | exact F2.refl fun _ _ => VnS.same))) (Imp.goV 2 rfl rfl rfl rfl (by repeat' (first | exact trivial | exact F2.nil | refine F2.cons ?_ ?_ | refine TmV.cons rfl VnS.nil ?_ | refine TmV.cons rfl VnS.same ?_ | refine ⟨rfl, ?_⟩ | exact VnO.same _ | refine VnO.arr ?_ | exact VnS.nil | exact VnS.same | exact F2.refl fun _ _ => VnS.same)) (by repeat' (first | exact trivial | exact F2.nil | refine F2.cons ?_ ?_ | refine TmV.cons rfl VnS.nil ?_ | refine TmV.cons rfl VnS.same ?_ | refine ⟨rfl, ?_⟩ | exact VnO.same _ | refine VnO.arr ?_ | exact VnS.nil | exact VnS.same | exact F2.refl fun _ _ => VnS.same)))) (Tr.block (Tr.loopI (fun mm ss => ∃ (j : Nat) (S A : List Pair), (j ≤ o.length - 1 ∧ pTo ws o j = (S, A)) ∧ o.length - j = mm ∧ ss = ⟨[(0, SW ws), (2, .ptr 0 0 0), (4, .ptr 1 0 0), (5, SI (nats o)), (14, I (j + 1 : Nat))], [(5, .arr 2 (pp A)), (4, .arr 2 (pp S)), (1, .arr 7 [[SE E, .slc 4 2 0 S.length S.length, .slc 5 2 0 A.length A.length, I 0, I 0, I 0, I 0]]), (0, .arr 7 [[.dx [], .dx [], .dx [], I 0, I 0, I 0, I 0]])], 6, 212, [], 0⟩) _ ⟨0, [], [], ?_, rfl, rfl⟩ ?_))
    · exact ⟨Nat.zero_le _, rfl⟩
    rintro mm ss ⟨j, S, A, hI, rfl, rfl⟩
    obtain ⟨hJ, hp⟩ := hI
    have hp5 := pTo_le ws o j
    rw [hp] at hp5
    obtain ⟨hS5, hA5⟩ := hp5
    have hS5 : S.length ≤ 5 := hS5
    have hA5 : A.length ≤ 5 := hA5
    refine Tr.seq ?_
    refine Tr.reg [0, 2, 4, 5, 14, 116] (by
        simp only [↓sxd, sxu, ↓zE, ↓exq, ↓zB, St.keep, ↓zJ, Nat.reduceBEq, Nat.reduceLT, sxe, tysW43_54, nats_len]
        (repeat' (first | rfl | exact trivial | exact fun h => h | exact fun h => (by rw [h]; rfl) | apply And.intro | omega | exact Nat.le_of_ble_eq_true rfl))) ?_
    refine Tr.cond rfl (fun h116 => ?_) (fun h116 => ?_)
    · have hjl : j + 1 < o.length := by have := of_decide_eq_true h116; omega
      obtain ⟨q, hq⟩ : ∃ q, q = wordOf ws (j + 1 + 3) % (j + 1) := ⟨_, rfl⟩
      have hql : q < j + 1 := by rw [hq]; exact Nat.mod_lt _ (by omega)
      have hqo : q < o.length := by omega
      have hne : (((j + 1 : Nat) : Int) = 0) = False := eq_false (by omega)
      have wj3 : IntKind.i64.wrap (((j + 1 : Nat) : Int) + 3) = ((j + 1 + 3 : Nat) : Int) := by rw [wr (by omega) (by omega)]; rfl
      have wj5 : IntKind.i64.wrap (((j + 1 : Nat) : Int) + 5) = ((j + 1 + 5 : Nat) : Int) := by rw [wr (by omega) (by omega)]; rfl
      have hps : pTo ws o (j + 1) = pStep ws o (S, A) (j + 1) := by rw [pTo, hp]
      unfold pStep at hps
      rw [← hq] at hps
      have hps : pTo ws o (j + 1) = if wordOf ws (j + 1 + 5) % 3 > 0 then (S, A) else if o.getD (j + 1) 0 = o.getD q 0 ∧ S.length < 5 then (S ++ [⟨((j + 1 : Nat) : Int), (q : Int)⟩], A) else if o.getD (j + 1) 0 ≠ o.getD q 0 ∧ A.length < 5 then (S, A ++ [⟨((j + 1 : Nat) : Int), (q : Int)⟩]) else (S, A) := hps
      refine Tr.skip ?_
      refine Tr.seq ?_
      refine Tr.block ?_
      refine Tr.reg [0, 2, 4, 5, 14, 15] (by
          simp only [↓sxd, sxu, ↓zE, ↓exq, St.keep, Nat.reduceBEq, Nat.reduceLT, wj3]
          (repeat ((with_reducible refine And.intro ?_ ?_); (focus (first | with_reducible rfl | trivial | exact fun h => h | exact fun h => (by rw [h]; rfl) | omega | assumption))))
          refine CallO.use (word_c ws hw (j + 1 + 3)) ?_
          try simp only [↓sxd, sxu, ↓zE, ↓exq, Nat.reduceBEq, Nat.reduceLT, tmod_n, hne, ← hq]
          (repeat' (first | rfl | exact trivial | exact fun h => h | exact fun h => (by rw [h]; rfl) | apply And.intro | omega | exact Nat.le_of_ble_eq_true rfl))) ?_
      refine Tr.reg [0, 2, 4, 5, 14, 15, 16] (by
          simp only [↓sxd, sxu, ↓zE, ↓exq, St.keep, ↓zM, ↓zO, Nat.reduceBEq, Nat.reduceAdd, Nat.reduceLT, Nat.reduceLeDiff, Nat.reduceEqDiff, tysW43_54]
          (repeat' (first | rfl | exact trivial | exact fun h => h | exact fun h => (by rw [h]; rfl) | apply And.intro | omega | exact Nat.le_of_ble_eq_true rfl))) ?_
      refine Tr.block ?_
      refine Tr.reg [0, 2, 4, 5, 14, 15, 16, 128] (by
          simp only [↓sxd, sxu, ↓zE, ↓exq, St.keep, Nat.reduceBEq, Nat.reduceLT, wj5]
          (repeat ((with_reducible refine And.intro ?_ ?_); (focus (first | with_reducible rfl | trivial | exact fun h => h | exact fun h => (by rw [h]; rfl) | omega | assumption))))
          refine CallO.use (word_c ws hw (j + 1 + 5)) ?_
          try simp only [↓sxd, sxu, ↓zE, ↓exq, Nat.reduceBEq, Nat.reduceLT, tmod3]
          (repeat' (first | rfl | exact trivial | exact fun h => h | exact fun h => (by rw [h]; rfl) | apply And.intro | omega | exact Nat.le_of_ble_eq_true rfl))) ?_
      refine Tr.cond rfl (fun h128 => ?_) (fun h128 => ?_)
      · have h3 : wordOf ws (j + 1 + 5) % 3 > 0 := by have := of_decide_eq_true h128; omega
        rw [if_pos h3] at hps
        refine Tr.skip ?_
        have w4 : IntKind.i64.wrap (((j + 1 : Nat) : Int) + 1) = ((j + 1 + 1 : Nat) : Int) := by rw [wr (by omega) (by omega)]; rfl
        refine Tr.reg1 [0, 2, 4, 5, 14] (by
            simp only [↓sxd, sxu, ↓zE, ↓exq, St.keep, Nat.reduceBEq, Nat.reduceLT, w4]
            (repeat' (first | rfl | exact trivial | exact fun h => h | exact fun h => (by rw [h]; rfl) | apply And.intro | omega | exact Nat.le_of_ble_eq_true rfl))) ?_
        first |(have hz := hqS; exact ⟨_, _, by omega, appendS, ⟨j + 1, S ++ [⟨((j + 1 : Nat) : Int), (q : Int)⟩], A, ⟨by omega, hps⟩, rfl, rfl⟩⟩) |(have hz := hqA; exact ⟨_, _, by omega, appendA, ⟨j + 1, S, A ++ [⟨((j + 1 : Nat) : Int), (q : Int)⟩], ⟨by omega, hps⟩, rfl, rfl⟩⟩) |(exact ⟨_, _, by omega, appendN, ⟨j + 1, S, A, ⟨by omega, hps⟩, rfl, rfl⟩⟩)
      · have h3 : ¬ wordOf ws (j + 1 + 5) % 3 > 0 := by have := of_decide_eq_false h128; omega
        rw [if_neg h3] at hps
        refine Tr.regD [0, 1, 2, 3, 4, 5, 6, 7, 8, 9, 10, 11, 12, 13, 14, 15] [] [] [0, 2, 4, 5, 14, 15, 16, 135] mix (by kernel_rfl) (by
            simp only [↓sxd, sxu, ↓zC, zK, ↓exq, St.keep, ↓zD, Nat.reduceBEq, Nat.reduceLT, sxe, tysW43_54, nats_len, nats_at, hjl, hqo]
            iterate 4
              (repeat ((with_reducible refine And.intro ?_ ?_); (focus (first | with_reducible rfl | trivial | exact fun h => h | exact fun h => (by rw [h]; rfl) | omega | assumption))))
              refine GdD.mk _ (fun hg => by simp only [↓sxd, sxu, ↓exP, ↓exq, ↓zB, ↓zJ, ↓zD, ↓zA, Nat.reduceBEq, Nat.reduceAdd, Nat.reduceLT, Nat.reduceEqDiff, tysW43_54, hg]; (repeat' (first | rfl | exact trivial | exact fun h => h | exact fun h => (by rw [h]; rfl) | apply And.intro | omega | exact Nat.le_of_ble_eq_true rfl))) ?_
              simp only [↓sxd, sxu, ↓zC, zK, ↓exq, ↓zH, Nat.reduceBEq, Nat.reduceLT]
            (repeat' (first | rfl | exact trivial | exact fun h => h | exact fun h => (by rw [h]; rfl) | apply And.intro | omega | exact Nat.le_of_ble_eq_true rfl))) ?_
        refine Tr.cond rfl (fun h135 => ?_) (fun h135 => ?_)
        · have hc : o.getD (j + 1) 0 = o.getD q 0 ∧ S.length < 5 := by
            rw [Bool.and_eq_true, decide_eq_true_eq, beq_iff_eq] at h135; omega
          rw [if_pos hc] at hps
          have hqS : S.length < 5 := hc.2
          have hk7 : (S.length + 1 ≤ 1073741824) = True := eq_true (by omega)
          refine Tr.reg1 [0, 2, 4, 5, 14] (by
              simp only [↓sxd, sxu, ↓zE, ↓exq, ↓zB, St.keep, ↓zD, ↓zG, ↓zQ, ↓zA, Nat.reduceBEq, Nat.reduceAdd, Nat.reduceLT, Nat.reduceLeDiff, Nat.reduceEqDiff, tysW43_54, pp_len, hk7]
              (repeat' (first | rfl | exact trivial | exact fun h => h | exact fun h => (by rw [h]; rfl) | apply And.intro | omega | exact Nat.le_of_ble_eq_true rfl))) ?_
          have w4 : IntKind.i64.wrap (((j + 1 : Nat) : Int) + 1) = ((j + 1 + 1 : Nat) : Int) := by rw [wr (by omega) (by omega)]; rfl
          refine Tr.reg1 [0, 2, 4, 5, 14] (by
              simp only [↓sxd, sxu, ↓zE, ↓exq, St.keep, Nat.reduceBEq, Nat.reduceLT, w4]
              (repeat' (first | rfl | exact trivial | exact fun h => h | exact fun h => (by rw [h]; rfl) | apply And.intro | omega | exact Nat.le_of_ble_eq_true rfl))) ?_
          first |(have hz := hqS; exact ⟨_, _, by omega, appendS, ⟨j + 1, S ++ [⟨((j + 1 : Nat) : Int), (q : Int)⟩], A, ⟨by omega, hps⟩, rfl, rfl⟩⟩) |(have hz := hqA; exact ⟨_, _, by omega, appendA, ⟨j + 1, S, A ++ [⟨((j + 1 : Nat) : Int), (q : Int)⟩], ⟨by omega, hps⟩, rfl, rfl⟩⟩) |(exact ⟨_, _, by omega, appendN, ⟨j + 1, S, A, ⟨by omega, hps⟩, rfl, rfl⟩⟩)
        · have hc : ¬ (o.getD (j + 1) 0 = o.getD q 0 ∧ S.length < 5) := fun hc => by
            rw [hc.1, beq_self_eq_true, Bool.true_and, decide_eq_false_iff_not] at h135; omega
          rw [if_neg hc] at hps
          refine Tr.regD [0, 1, 2, 3, 4, 5, 6, 7, 8, 9, 10, 11, 12, 13, 14, 15] [] [] [0, 2, 4, 5, 14, 16, 157] mix (by kernel_rfl) (by
              simp only [↓sxd, sxu, ↓zC, zK, ↓exq, St.keep, ↓zD, Nat.reduceBEq, Nat.reduceLT, sxe, tysW43_54, nats_len, nats_at, hjl, hqo]
              iterate 4
                (repeat ((with_reducible refine And.intro ?_ ?_); (focus (first | with_reducible rfl | trivial | exact fun h => h | exact fun h => (by rw [h]; rfl) | omega | assumption))))
                refine GdD.mk _ (fun hg => by simp only [↓sxd, sxu, ↓exP, ↓exq, ↓zB, ↓zJ, ↓zD, ↓zA, Nat.reduceBEq, Nat.reduceAdd, Nat.reduceLT, Nat.reduceEqDiff, tysW43_54, hg]; (repeat' (first | rfl | exact trivial | exact fun h => h | exact fun h => (by rw [h]; rfl) | apply And.intro | omega | exact Nat.le_of_ble_eq_true rfl))) ?_
                simp only [↓sxd, sxu, ↓zC, zK, ↓exq, ↓zH, Nat.reduceBEq, Nat.reduceLT]
              (repeat' (first | rfl | exact trivial | exact fun h => h | exact fun h => (by rw [h]; rfl) | apply And.intro | omega | exact Nat.le_of_ble_eq_true rfl))) ?_
          refine Tr.cond rfl (fun h157 => ?_) (fun h157 => ?_)
          · have hd : o.getD (j + 1) 0 ≠ o.getD q 0 ∧ A.length < 5 := by
              rw [Bool.and_eq_true, decide_eq_true_eq, bne_iff_ne] at h157; omega
            rw [if_pos hd] at hps
            have hqA : A.length < 5 := hd.2
            have hk8 : (A.length + 1 ≤ 1073741824) = True := eq_true (by omega)
            refine Tr.reg1 [0, 2, 4, 5, 14] (by
                simp only [↓sxd, sxu, ↓zE, ↓exq, ↓zB, St.keep, ↓zD, ↓zG, ↓zQ, ↓zA, Nat.reduceBEq, Nat.reduceAdd, Nat.reduceLT, Nat.reduceLeDiff, Nat.reduceEqDiff, tysW43_54, pp_len, hk8]
                (repeat' (first | rfl | exact trivial | exact fun h => h | exact fun h => (by rw [h]; rfl) | apply And.intro | omega | exact Nat.le_of_ble_eq_true rfl))) ?_
            have w4 : IntKind.i64.wrap (((j + 1 : Nat) : Int) + 1) = ((j + 1 + 1 : Nat) : Int) := by rw [wr (by omega) (by omega)]; rfl
            refine Tr.reg1 [0, 2, 4, 5, 14] (by
                simp only [↓sxd, sxu, ↓zE, ↓exq, St.keep, Nat.reduceBEq, Nat.reduceLT, w4]
                (repeat' (first | rfl | exact trivial | exact fun h => h | exact fun h => (by rw [h]; rfl) | apply And.intro | omega | exact Nat.le_of_ble_eq_true rfl))) ?_
            first |(have hz := hqS; exact ⟨_, _, by omega, appendS, ⟨j + 1, S ++ [⟨((j + 1 : Nat) : Int), (q : Int)⟩], A, ⟨by omega, hps⟩, rfl, rfl⟩⟩) |(have hz := hqA; exact ⟨_, _, by omega, appendA, ⟨j + 1, S, A ++ [⟨((j + 1 : Nat) : Int), (q : Int)⟩], ⟨by omega, hps⟩, rfl, rfl⟩⟩) |(exact ⟨_, _, by omega, appendN, ⟨j + 1, S, A, ⟨by omega, hps⟩, rfl, rfl⟩⟩)
          · have hd : ¬ (o.getD (j + 1) 0 ≠ o.getD q 0 ∧ A.length < 5) := fun hd => by
              have h1 : (((o.getD (j + 1) 0 : Nat) : Int) != ((o.getD q 0 : Nat) : Int)) = true := by rw [bne_iff_ne]; omega
              rw [h1, Bool.true_and, decide_eq_false_iff_not] at h157; omega
            rw [if_neg hd] at hps
            refine Tr.skip ?_
            have w4 : IntKind.i64.wrap (((j + 1 : Nat) : Int) + 1) = ((j + 1 + 1 : Nat) : Int) := by rw [wr (by omega) (by omega)]; rfl
            refine Tr.reg1 [0, 2, 4, 5, 14] (by
                simp only [↓sxd, sxu, ↓zE, ↓exq, St.keep, Nat.reduceBEq, Nat.reduceLT, w4]
                (repeat' (first | rfl | exact trivial | exact fun h => h | exact fun h => (by rw [h]; rfl) | apply And.intro | omega | exact Nat.le_of_ble_eq_true rfl))) ?_
            first |(have hz := hqS; exact ⟨_, _, by omega, appendS, ⟨j + 1, S ++ [⟨((j + 1 : Nat) : Int), (q : Int)⟩], A, ⟨by omega, hps⟩, rfl, rfl⟩⟩) |(have hz := hqA; exact ⟨_, _, by omega, appendA, ⟨j + 1, S, A ++ [⟨((j + 1 : Nat) : Int), (q : Int)⟩], ⟨by omega, hps⟩, rfl, rfl⟩⟩) |(exact ⟨_, _, by omega, appendN, ⟨j + 1, S, A, ⟨by omega, hps⟩, rfl, rfl⟩⟩)
    · have hje : j = o.length - 1 := by have := of_decide_eq_false h116; omega
      subst hje
      refine Tr.exit ?_
      obtain ⟨ms, hms⟩ : ∃ ms, ms = wordOf ws 2 % 7 := ⟨_, rfl⟩
      have hm7 : ms < 7 := by rw [hms]; exact Nat.mod_lt _ (by omega)
      have hM : missedW ws = ms := hms.symm
      have hcn := countTo_le o o.length
      obtain ⟨cn, hcd⟩ : ∃ cn, cn = countTo o o.length := ⟨_, rfl⟩
      rw [← hcd] at hcn
      have hTot : totalW ws = ms + cn := by unfold totalW; rw [hM, hV, hcd]
      have m1 : IntKind.i64.wrap ((ms : Int) - ((ms % 3 : Nat) : Int)) = ((ms - ms % 3 : Nat) : Int) := by rw [wr (by omega) (by omega)]; omega
      have m2 : IntKind.i64.wrap ((ms : Int) + ((wordOf ws 1 % 4 : Nat) : Int)) = ((ms + wordOf ws 1 % 4 : Nat) : Int) := by rw [wr (by omega) (by omega)]; rfl
      have m3 : IntKind.i64.wrap ((ms : Int) + (cn : Int)) = ((ms + cn : Nat) : Int) := by rw [wr (by omega) (by omega)]; rfl
      have m4 : IntKind.i64.wrap (((ms + cn : Nat) : Int) - ((wordOf ws 4 % 4 : Nat) : Int)) = ((ms + cn : Nat) : Int) - ((wordOf ws 4 % 4 : Nat) : Int) := wr (by omega) (by omega)
      have m5 : IntKind.i64.wrap (((ms + cn : Nat) : Int) + ((wordOf ws 6 % 3 : Nat) : Int)) = ((ms + cn + wordOf ws 6 % 3 : Nat) : Int) := by rw [wr (by omega) (by omega)]; rfl
      have hC : trulyC ws = ⟨E, S, A, ⟨((ms - ms % 3 : Nat) : Int), ((ms + wordOf ws 1 % 4 : Nat) : Int)⟩, ⟨max 0 (((ms + cn : Nat) : Int) - ((wordOf ws 4 % 4 : Nat) : Int)), ((ms + cn + wordOf ws 6 % 3 : Nat) : Int)⟩⟩ := by
        unfold trulyC
        rw [hE, hV, hM, hTot, hp]
      refine Tr.reg [0, 2, 4, 5, 17] (by
          simp only [↓sxd, sxu, ↓zE, ↓exq, St.keep, Nat.reduceLT]
          (repeat ((with_reducible refine And.intro ?_ ?_); (focus (first | with_reducible rfl | trivial | exact fun h => h | exact fun h => (by rw [h]; rfl) | omega | assumption))))
          refine CallO.use (word_c ws hw 2) ?_
          try simp only [↓sxd, sxu, ↓zE, ↓exq, Nat.reduceBEq, Nat.reduceLT, tmod7]
          (repeat' (first | rfl | exact trivial | exact fun h => h | exact fun h => (by rw [h]; rfl) | apply And.intro | omega | exact Nat.le_of_ble_eq_true rfl))) ?_
      refine Tr.reg [0, 2, 4, 5, 17] (by
          simp only [↓sxd, sxu, ↓zE, ↓exq, St.keep, Nat.reduceBEq, Nat.reduceLT, ← hms, tmod3, m1]
          (repeat ((with_reducible refine And.intro ?_ ?_); (focus (first | with_reducible rfl | trivial | exact fun h => h | exact fun h => (by rw [h]; rfl) | omega | assumption))))
          refine CallO.use (word_c ws hw 1) ?_
          try simp only [↓sxd, sxu, ↓zE, ↓exq, ↓zO, ↓zA, Nat.reduceBEq, Nat.reduceAdd, Nat.reduceLT, Nat.reduceLeDiff, Nat.reduceEqDiff, tysW43_54, m2, tmod4]
          (repeat' (first | rfl | exact trivial | exact fun h => h | exact fun h => (by rw [h]; rfl) | apply And.intro | omega | exact Nat.le_of_ble_eq_true rfl))) ?_
      refine Tr.reg [0, 2, 4, 5, 18] (by
          simp only [↓sxd, sxu, ↓zE, ↓exq, St.keep, Nat.reduceBEq, Nat.reduceLT]
          (repeat ((with_reducible refine And.intro ?_ ?_); (focus (first | with_reducible rfl | trivial | exact fun h => h | exact fun h => (by rw [h]; rfl) | omega | assumption))))
          refine CallO.use (persons_count o (by omega)) ?_
          try simp only [↓sxd, sxu, ↓zE, ↓exq, Nat.reduceBEq, Nat.reduceLT, m3, ← hcd]
          (repeat' (first | rfl | exact trivial | exact fun h => h | exact fun h => (by rw [h]; rfl) | apply And.intro | omega | exact Nat.le_of_ble_eq_true rfl))) ?_
      refine Tr.reg [2, 4, 5] (by
          simp only [↓sxd, sxu, ↓zE, ↓exq, St.keep, Nat.reduceBEq, Nat.reduceLT]
          (repeat ((with_reducible refine And.intro ?_ ?_); (focus (first | with_reducible rfl | trivial | exact fun h => h | exact fun h => (by rw [h]; rfl) | omega | assumption))))
          refine CallO.use (word_c ws hw 4) ?_
          try simp only [↓sxd, sxu, ↓zE, ↓exq, ↓zB, Nat.reduceBEq, Nat.reduceLT, tmod4, m4]
          (repeat ((with_reducible refine And.intro ?_ ?_); (focus (first | with_reducible rfl | trivial | exact fun h => h | exact fun h => (by rw [h]; rfl) | omega | assumption))))
          refine CallO.use (word_c ws hw 6) ?_
          try simp only [↓sxd, sxu, ↓zE, ↓exq, ↓zO, ↓zA, Nat.reduceBEq, Nat.reduceAdd, Nat.reduceLT, Nat.reduceLeDiff, Nat.reduceEqDiff, tysW43_54, tmod3, m5]
          (repeat' (first | rfl | exact trivial | exact fun h => h | exact fun h => (by rw [h]; rfl) | apply And.intro | omega | exact Nat.le_of_ble_eq_true rfl))) ?_
      refine Tr.reg [2, 3] (by
          simp only [↓sxd, sxu, ↓zE, ↓exq, St.keep, ↓zD, Nat.reduceBEq, Nat.reduceAdd, Nat.reduceLT, Nat.reduceEqDiff, tysW43_54]
          (repeat' (first | rfl | exact trivial | exact fun h => h | exact fun h => (by rw [h]; rfl) | apply And.intro | omega | exact Nat.le_of_ble_eq_true rfl))) ?_
      rw [hC, hV]
      refine Tr.imp (st' := ⟨[(2, .ptr 0 0 0), (3, SI (nats o))], [(0, .arr 7 [[SE E, SP S, SP A, I ((ms - ms % 3 : Nat) : Int), I ((ms + wordOf ws 1 % 4 : Nat) : Int), I (max 0 (((ms + cn : Nat) : Int) - ((wordOf ws 4 % 4 : Nat) : Int))), I ((ms + cn + wordOf ws 6 % 3 : Nat) : Int)]])], 6, 212, [], 0⟩) (Imp.go (fun i => i) [(0, .arr 7 [[SE E, .slc 4 2 0 S.length S.length, .slc 5 2 0 A.length A.length, I ((ms - ms % 3 : Nat) : Int), I ((ms + wordOf ws 1 % 4 : Nat) : Int), I (max 0 (((ms + cn : Nat) : Int) - ((wordOf ws 4 % 4 : Nat) : Int))), I ((ms + cn + wordOf ws 6 % 3 : Nat) : Int)]])] rfl rfl (.cons _ (.cons _ (.cons _ (.refl _)))) (fun _ _ => rfl) (fun _ h => h) (.cons rfl (TnS.ptr rfl) (.cons rfl (TnS.d _) trivial)) (.cons ⟨rfl, TnO.arr (.cons (.cons (TnS.d _) (.cons (pfz (id := 4) (l := S) rfl rfl (by simp) rfl) (.cons (pfz (id := 5) (l := A) rfl rfl (by simp) rfl) (.cons (TnS.d _) (.cons (TnS.d _) (.cons (TnS.d _) (.cons (TnS.d _) .nil))))))) .nil)⟩ .nil) (fun _ => rfl)) ?_
      refine Tr.ret ?_
      (refine ⟨.inr rfl, ?_⟩; first | rfl | exact ⟨rfl, rfl, trivial⟩ | exact ⟨rfl, rfl, rfl, trivial⟩ | (simp only [Res, ResL, ResOK, sxu, ↓zD, Nat.reduceBEq, Nat.reduceAdd, Nat.reduceLT, tysW43_54]; (repeat' (first | rfl | exact trivial | exact fun h => h | exact fun h => (by rw [h]; rfl) | apply And.intro | omega | exact Nat.le_of_ble_eq_true rfl))))
end Go.Proofs.YtcnkbdfkjhlbiaaDoor
namespace Go.Proofs.YtcnkbdfkjhlbiaaDoor
set_option maxRecDepth 8000
structure TInv (x : List Entry × List Nat) : Prop where
  len : x.1.length = x.2.length
  p5 : ∀ j, j < x.2.length → x.2.getD j 0 < 5
  val : ∀ e ∈ x.1, Entry.valid e = true
  kind : ∀ j, j < x.2.length → (x.1.getD j default).sex = ((x.2.getD j 0 % 2 : Nat) : Int) ∧ (x.1.getD j default).key = ((x.2.getD j 0 / 3 : Nat) : Int) ∧ (x.1.getD j default).ages.lo ≤ (x.1.getD j default).ages.hi
  same : ∀ j k, j < k → k < x.2.length → x.2.getD j 0 = x.2.getD k 0 → (x.1.getD j default).sched ≠ (x.1.getD k default).sched ∧ (x.1.getD j default).ages.lo = (x.1.getD k default).ages.lo
theorem freeTo_at {E : List Entry} {o : List Nat} {p s k : Nat} (h : freeTo E o p s k = true) {j : Nat} (hj : j < k) (ho : o.getD j 0 = p) : (E.getD j default).sched ≠ (s : Int) := by
  unfold freeTo at h
  have := List.all_eq_true.1 h j (List.mem_range.2 hj)
  rw [ho] at this
  simpa using this
theorem ageTo_at {x : List Entry × List Nat} (hs : ∀ j k, j < k → k < x.2.length → x.2.getD j 0 = x.2.getD k 0 → (x.1.getD j default).ages.lo = (x.1.getD k default).ages.lo) {p a0 : Nat} : ∀ n, n ≤ x.2.length → ∀ j, j < n → x.2.getD j 0 = p → (x.1.getD j default).ages.lo = ageTo x.1 x.2 p a0 n
  | 0, _, j, hj, _ => absurd hj (Nat.not_lt_zero _)
  | n + 1, hn, j, hj, hp => by
    rw [ageTo]
    by_cases hq : x.2.getD n 0 = p
    · rw [if_pos hq]
      by_cases hjn : j = n
      · rw [hjn]
      · exact hs j n (by omega) (by omega) (by rw [hp, hq])
    · rw [if_neg hq]
      have hjn : j ≠ n := fun hc => hq (by rw [← hc]; exact hp)
      exact ageTo_at hs n (by omega) j (by omega) hp
theorem TInv.step {x : List Entry × List Nat} (h : TInv x) {i : Nat} (hok : TOk i x) (w : Nat) : TInv (tStep x w) := by
  unfold tStep
  split
  · rename_i hfr
    have hl : ∀ j, j < x.2.length → (x.1 ++ [newE x.1 x.2 w]).getD j default = x.1.getD j default := fun j hj => getD_app_l (by rw [h.len]; exact hj)
    have hl2 : ∀ j, j < x.2.length → (x.2 ++ [w % 5]).getD j 0 = x.2.getD j 0 := fun j hj => getD_app_l hj
    have hr : (x.1 ++ [newE x.1 x.2 w]).getD x.2.length default = newE x.1 x.2 w := by rw [← h.len, getD_app_r (Nat.le_refl _), Nat.sub_self]; rfl
    have hr2 : (x.2 ++ [w % 5]).getD x.2.length 0 = w % 5 := by rw [getD_app_r (Nat.le_refl _), Nat.sub_self]; rfl
    have hage := age_bd (E := x.1) (o := x.2) (p := w % 5) (a0 := 30 + w % 5 * w / 64 % 2) (by omega) x.2.length hok.age
    refine ⟨by simp [h.len], fun j hj => ?_, fun e he => ?_, fun j hj => ?_, fun j k hjk hk he => ?_⟩
    · show (x.2 ++ [w % 5]).getD j 0 < 5
      by_cases hjl : j < x.2.length
      · rw [hl2 j hjl]; exact h.p5 j hjl
      · have hj : j < (x.2 ++ [w % 5]).length := hj
        have : j = x.2.length := by simp at hj; omega
        rw [this, hr2]; omega
    · rcases List.mem_append.1 he with he | he
      · exact h.val e he
      · rw [List.mem_singleton] at he
        subst he
        have e1 : w / 5 % 10 < 10 := Nat.mod_lt _ (by omega)
        have e2 : w % 5 % 2 < 2 := Nat.mod_lt _ (by omega)
        have e3 : w % 5 / 3 < 5 := by omega
        have e4 : w / 128 % 3 < 3 := Nat.mod_lt _ (by omega)
        simp only [Entry.valid, Rng.valid, within, newE, Bool.and_eq_true]
        refine ⟨⟨⟨⟨?_, ?_⟩, ?_, ?_⟩, ?_, ?_⟩, ⟨?_, ?_⟩, ?_⟩ <;> exact decide_eq_true (by omega)
    · show ((x.1 ++ [newE x.1 x.2 w]).getD j default).sex = (((x.2 ++ [w % 5]).getD j 0 % 2 : Nat) : Int) ∧ ((x.1 ++ [newE x.1 x.2 w]).getD j default).key = (((x.2 ++ [w % 5]).getD j 0 / 3 : Nat) : Int) ∧ ((x.1 ++ [newE x.1 x.2 w]).getD j default).ages.lo ≤ ((x.1 ++ [newE x.1 x.2 w]).getD j default).ages.hi
      by_cases hjl : j < x.2.length
      · rw [hl j hjl, hl2 j hjl]; exact h.kind j hjl
      · have hj : j < (x.2 ++ [w % 5]).length := hj
        have : j = x.2.length := by simp at hj; omega
        rw [this, hr, hr2]
        refine ⟨rfl, rfl, ?_⟩
        simp only [newE]; omega
    · have hk : k < (x.2 ++ [w % 5]).length := hk
      have hk2 : k < x.2.length + 1 := by simpa using hk
      have hjl : j < x.2.length := by omega
      have he : (x.2 ++ [w % 5]).getD j 0 = (x.2 ++ [w % 5]).getD k 0 := he
      show ((x.1 ++ [newE x.1 x.2 w]).getD j default).sched ≠ ((x.1 ++ [newE x.1 x.2 w]).getD k default).sched ∧ ((x.1 ++ [newE x.1 x.2 w]).getD j default).ages.lo = ((x.1 ++ [newE x.1 x.2 w]).getD k default).ages.lo
      by_cases hkl : k < x.2.length
      · rw [hl j hjl, hl k hkl]
        rw [hl2 j hjl, hl2 k hkl] at he
        exact h.same j k hjk hkl he
      · have : k = x.2.length := by omega
        subst this
        rw [hl j hjl, hr]
        rw [hl2 j hjl, hr2] at he
        exact ⟨freeTo_at hfr hjl he, ageTo_at (fun j k a b c => (h.same j k a b c).2) _ (Nat.le_refl _) j hjl he⟩
  · exact h
theorem tTo_inv (ws : List Nat) : ∀ i, TInv (tTo ws i)
  | 0 => ⟨rfl, fun j hj => absurd hj (Nat.not_lt_zero _), fun e he => (by cases he), fun j hj => absurd hj (Nat.not_lt_zero _), fun j k _ hk => absurd hk (Nat.not_lt_zero _)⟩
  | i + 1 => (tTo_inv ws i).step (tTo_ok ws i) _
theorem pTo_ok (ws o : List Nat) : ∀ n, (∀ p ∈ (pTo ws o n).1, ∃ i k : Nat, p = ⟨i, k⟩ ∧ k < i ∧ i ≤ n ∧ o.getD i 0 = o.getD k 0) ∧ (∀ p ∈ (pTo ws o n).2, ∃ i k : Nat, p = ⟨i, k⟩ ∧ k < i ∧ i ≤ n ∧ o.getD i 0 ≠ o.getD k 0)
  | 0 => ⟨fun p hp => (by cases hp), fun p hp => (by cases hp)⟩
  | n + 1 => by
    obtain ⟨h1, h2⟩ := pTo_ok ws o n
    have w1 : ∀ p ∈ (pTo ws o n).1, ∃ i k : Nat, p = ⟨i, k⟩ ∧ k < i ∧ i ≤ n + 1 ∧ o.getD i 0 = o.getD k 0 := fun p hp => by
      obtain ⟨i, k, a, b, c, d⟩ := h1 p hp; exact ⟨i, k, a, b, by omega, d⟩
    have w2 : ∀ p ∈ (pTo ws o n).2, ∃ i k : Nat, p = ⟨i, k⟩ ∧ k < i ∧ i ≤ n + 1 ∧ o.getD i 0 ≠ o.getD k 0 := fun p hp => by
      obtain ⟨i, k, a, b, c, d⟩ := h2 p hp; exact ⟨i, k, a, b, by omega, d⟩
    have hq : wordOf ws (n + 1 + 3) % (n + 1) < n + 1 := Nat.mod_lt _ (by omega)
    rw [pTo]
    generalize pTo ws o n = x at w1 w2
    unfold pStep
    split
    · exact ⟨w1, w2⟩
    · split
      · rename_i hc
        refine ⟨fun p hp => ?_, w2⟩
        rcases List.mem_append.1 hp with hp | hp
        · exact w1 p hp
        · rw [List.mem_singleton] at hp
          exact ⟨n + 1, _, hp, hq, Nat.le_refl _, hc.1⟩
      · split
        · rename_i hc
          refine ⟨w1, fun p hp => ?_⟩
          rcases List.mem_append.1 hp with hp | hp
          · exact w2 p hp
          · rw [List.mem_singleton] at hp
            exact ⟨n + 1, _, hp, hq, Nat.le_refl _, hc.1⟩
        · exact ⟨w1, w2⟩
theorem count_dist (v : List Nat) : ∀ n, countTo v n = (dist (fn v) n).length
  | 0 => rfl
  | n + 1 => by
    rw [countTo, count_dist v n]
    have hf : firstAt v n n = true ↔ ¬ fn v n ∈ dist (fn v) n := by
      rw [mem_dist]
      unfold firstAt
      rw [List.all_eq_true]
      constructor
      · rintro h ⟨i, hi, he⟩
        have := h i (List.mem_range.2 hi)
        rw [bne_iff_ne] at this
        exact this he
      · intro h i hi
        rw [bne_iff_ne]
        exact fun he => h ⟨i, List.mem_range.1 hi, he⟩
    rw [dist]
    by_cases hm : fn v n ∈ dist (fn v) n
    · rw [if_pos hm, if_neg (fun hc => (hf.1 hc) hm)]; rfl
    · rw [if_neg hm, if_pos (hf.2 hm), List.length_append]; rfl
structure EveryOk (c : Census) (v : List Nat) : Prop where
  fine : Fine c
  len : v.length = c.entries.length
  pers : ∃ P O, c.personsS = (P, O, 0) ∧ P.lo ≤ countTo v v.length ∧ (countTo v v.length : Int) ≤ P.hi ∧ c.omitted.lo ≤ O.lo ∧ O.hi ≤ c.omitted.hi ∧ O.lo ≤ O.hi
  tog : ∀ i k : Nat, i < v.length → k < v.length → ∃ can must, c.together i k = (can, must, 0) ∧ (v.getD i 0 = v.getD k 0 → can = true) ∧ (v.getD i 0 ≠ v.getD k 0 → must = false) ∧ (must = true → can = true)
theorem truly_law (ws : List Nat) : EveryOk (trulyC ws) (trulyV ws) := by
  have hti := tTo_inv ws (min ws.length 9)
  have hto := tTo_ok ws (min ws.length 9)
  have hE : trulyE ws = (tTo ws (min ws.length 9)).1 := rfl
  have hV : trulyV ws = (tTo ws (min ws.length 9)).2 := rfl
  have hle := hto.le
  rw [← hV] at hle
  obtain ⟨i1, i2, i3, i4, i5⟩ := hti
  rw [← hE, ← hV] at i1
  rw [← hV] at i2
  rw [← hE] at i3
  rw [← hE, ← hV] at i4 i5
  obtain ⟨p1, p2⟩ := pTo_ok ws (trulyV ws) ((trulyV ws).length - 1)
  obtain ⟨q1, q2⟩ := pTo_le ws (trulyV ws) ((trulyV ws).length - 1)
  have hC : trulyC ws = ⟨trulyE ws, (pTo ws (trulyV ws) ((trulyV ws).length - 1)).1, (pTo ws (trulyV ws) ((trulyV ws).length - 1)).2, ⟨((missedW ws - missedW ws % 3 : Nat) : Int), ((missedW ws + wordOf ws 1 % 4 : Nat) : Int)⟩, ⟨max 0 ((totalW ws : Int) - ((wordOf ws 4 % 4 : Nat) : Int)), ((totalW ws + wordOf ws 6 % 3 : Nat) : Int)⟩⟩ := rfl
  have hms : missedW ws < 7 := Nat.mod_lt _ (by omega)
  have htot : totalW ws = missedW ws + countTo (trulyV ws) (trulyV ws).length := rfl
  have hct := countTo_le (trulyV ws) (trulyV ws).length
  generalize pTo ws (trulyV ws) ((trulyV ws).length - 1) = SA at p1 p2 q1 q2 hC
  obtain ⟨S, A⟩ := SA
  have q1 : S.length ≤ 5 := q1
  have q2 : A.length ≤ 5 := q2
  generalize trulyV ws = v at *
  generalize trulyE ws = E at *
  generalize missedW ws = ms at *
  generalize totalW ws = tot at *
  generalize trulyC ws = c at *
  have hce : c.entries = E := by rw [hC]
  have hcn : c.entries.length = v.length := by rw [hce, i1]
  have hentry : ∀ i, c.entry i = E.getD i default := fun i => by unfold Census.entry; rw [hce]
  have hf : Fine c := by
    refine ⟨by rw [hcn]; omega, by rw [hC]; show S.length ≤ 6; have := q1; omega, by rw [hC]; show A.length ≤ 6; have := q2; omega, by rw [hce]; exact i3, fun p hp => ?_, fun p hp => ?_, by rw [hC]; dsimp only; omega, by rw [hC]; dsimp only; omega⟩
    · rw [hC] at hp
      obtain ⟨i, k, rfl, h1, h2, _⟩ := p1 p hp
      rw [pair_iff, hcn]; dsimp only; omega
    · rw [hC] at hp
      obtain ⟨i, k, rfl, h1, h2, _⟩ := p2 p hp
      rw [pair_iff, hcn]; dsimp only; omega
  have hfits : ∀ i k, i < k → k < v.length → v.getD i 0 = v.getD k 0 → (c.entry i).fits (c.entry k) = true := fun i k hik hk he => by
    obtain ⟨a1, a2⟩ := i5 i k hik hk he
    obtain ⟨b1, b2, b3⟩ := i4 i (by omega)
    obtain ⟨d1, d2, d3⟩ := i4 k hk
    rw [hentry, hentry]
    unfold Entry.fits
    rw [he] at b1 b2
    simp only [Bool.and_eq_true, bne_iff_ne, ne_eq, beq_iff_eq, decide_eq_true_eq]
    exact ⟨⟨⟨a1, by rw [b1, d1]⟩, by rw [b2, d2]⟩, by omega⟩
  have hal : Allow c (fn v) := by
    refine ⟨fun i k hi hk hik he => ?_, fun p hp => ?_, fun p hp => ?_⟩
    · rw [hcn] at hi hk
      rcases Nat.lt_or_gt_of_ne hik with h | h
      · exact hfits i k h hk he
      · rw [Efits_comm]; exact hfits k i h hi he.symm
    · rw [hC] at hp
      obtain ⟨i, k, rfl, _, _, h⟩ := p1 p hp
      exact h
    · rw [hC] at hp
      obtain ⟨i, k, rfl, _, _, h⟩ := p2 p hp
      exact h
  have hsum : Sums c (countTo v v.length) := by
    refine ⟨(ms : Int), ?_, ?_, ?_, ?_⟩ <;> rw [hC] <;> dsimp only <;> omega
  have hsem : Sem c (countTo v v.length) := ⟨fn v, hal, by rw [hcn, count_dist]; exact dist_exact (fn v) v.length⟩
  have hcons : c.cons = true := (cons_iff hf.pairs hf.n10 hf.lims).2 ⟨_, hsem, hsum⟩
  have hpr := (pers_iff hf.pairs hf.n10 hf.lims).1 ⟨hsem, hsum⟩
  obtain ⟨k0, s1, s2, s3, s4⟩ := hsum
  refine ⟨hf, hcn.symm, ⟨_, _, personsS_yes hf hcons, hpr.1, hpr.2, ?_, ?_, ?_⟩, fun i k hi hk => ?_⟩
  · simp only [Rng.cut]; omega
  · simp only [Rng.cut]; omega
  · simp only [Rng.cut]; omega
  · have ht : c.tried true = 0 := by rw [fine_tried hf, hcons]; rfl
    have hbo : c.both i k = true := fine_both (by rw [hcn]; exact hi) (by rw [hcn]; exact hk)
    have hlaw := together_law (c := c) (a := i) (b := k) (by rw [hbo]; exact ht)
    have hmem : canon (fn v) c.entries.length ∈ c.all := (mem_all hf.lims).2 ⟨canon_len _ _, canon_rgs _ _, hal.congr hf.pairs fun i k hi hk => (canon_same (fn v) hi hk).symm, by
      rw [canon_many, hcn, ← count_dist]; exact ⟨k0, s1, s2, s3, s4⟩⟩
    have hsm := canon_same (fn v) (n := c.entries.length) (i := i) (k := k) (by rw [hcn]; exact hi) (by rw [hcn]; exact hk)
    refine ⟨_, _, hlaw, fun he => ?_, fun hne => ?_, fun hm => ?_⟩
    · unfold someOf
      rw [List.any_eq_true]
      exact ⟨_, hmem, by rw [beq_iff_eq]; exact hsm.2 he⟩
    · rw [← Bool.not_eq_true]
      intro hc
      have := List.all_eq_true.1 hc _ hmem
      rw [beq_iff_eq] at this
      exact hne (hsm.1 this)
    · have := List.all_eq_true.1 hm _ hmem
      unfold someOf
      rw [List.any_eq_true]
      exact ⟨_, hmem, this⟩
end Go.Proofs.YtcnkbdfkjhlbiaaDoor
namespace Go.Proofs.YtcnkbdfkjhlbiaaDoor
open Go.Sy
set_option maxRecDepth 8000
abbrev tysW49_17 := And.intro ty.sz0 <| And.intro ty.agg0 <| And.intro ty.elem0 <| And.intro ty.sz3 <| And.intro ty.agg3 <| And.intro ty.elem3 <| And.intro ty.zero3 <| And.intro ty.und3 <| And.intro ty.sz4 <| And.intro ty.agg4 <| And.intro ty.elem4 <| And.intro ty.zero4 <| And.intro ty.und4 <| And.intro ty.sz5 <| And.intro ty.agg5 <| And.intro ty.elem5 <| And.intro ty.zero5 <| And.intro ty.und5 <| And.intro ty.sz22 <| And.intro ty.agg22 <| And.intro ty.elem22 <| And.intro ty.by22 <| And.intro ty.ez22 <| And.intro ty.zero22 <| And.intro ty.und22 <| And.intro ty.sz25 <| And.intro ty.agg25 <| And.intro ty.fld25_0 <| And.intro ty.fld25_1 <| And.intro ty.elem25 <| And.intro ty.zero25 <| And.intro ty.pl25 <| And.intro ty.sz27 <| And.intro ty.agg27 <| And.intro ty.fld27_0 <| And.intro ty.fld27_1 <| And.intro ty.fld27_2 <| And.intro ty.fld27_3 <| And.intro ty.fld27_4 <| And.intro ty.elem27 <| And.intro ty.zero27 <| And.intro ty.pl27 <| And.intro ty.sz30 <| And.intro ty.agg30 <| And.intro ty.fld30_0 <| And.intro ty.fld30_1 <| And.intro ty.elem30 <| And.intro ty.zero30 <| And.intro ty.pl30 <| And.intro ty.sz31 <| And.intro ty.agg31 <| And.intro ty.elem31 <| And.intro ty.zero31 <| And.intro ty.und31 <| And.intro ty.sz32 <| And.intro ty.agg32 <| And.intro ty.elem32 <| And.intro ty.sz37 <| And.intro ty.agg37 <| And.intro ty.fld37_0 <| And.intro ty.fld37_1 <| And.intro ty.fld37_2 <| And.intro ty.fld37_3 <| And.intro ty.fld37_4 <| And.intro ty.elem37 <| And.intro ty.zero37 <| And.intro ty.pl37 <| And.intro ty.sz39 <| And.intro ty.agg39 <| And.intro ty.elem39 <| And.intro ty.by39 <| And.intro ty.ez39 <| And.intro ty.zero39 <| And.intro ty.und39 <| And.intro ty.sz40 <| And.intro ty.agg40 <| And.intro ty.elem40 <| And.intro ty.sz43 <| And.intro ty.agg43 <| And.intro ty.elem43 <| And.intro ty.by43 <| And.intro ty.ez43 <| And.intro ty.zero43 <| And.intro ty.und43 <| And.intro ty.sz79 <| And.intro ty.agg79 <| And.intro ty.elem79 <| And.intro ty.by79 <| And.intro ty.ez79 <| And.intro ty.zero79 <| And.intro ty.und79 <| And.intro ty.sz94 <| And.intro ty.agg94 <| ty.elem94
set_option maxHeartbeats 4000000 in
theorem SheetEnds_c (ws : List Nat) (u : Nat) (hw : ∀ n ∈ ws, n < 65536) (hu : u < 256) : CallP Tryd.prog G0 17 [SW ws, .d (.lit (.int .u8 (u : Nat)))] (B true) := by
  have hT := Truly_c ws hw
  have hEv := truly_law ws
  generalize trulyC ws = c at hT hEv
  generalize trulyV ws = v at hT hEv
  obtain ⟨hf, hvl, ⟨P, O, hPS, p1, p2, _⟩, _⟩ := hEv
  have hn10 := hf.n10
  have hsm : c.small := ⟨by omega, by have := hf.s6; omega, by have := hf.a6; omega⟩
  have h0 : c.tried true = 0 := by
    by_cases h : c.tried true = 0
    · exact h
    · unfold Census.personsS at hPS
      rw [if_neg h] at hPS
      simp only [Prod.mk.injEq] at hPS
      exact hPS.2.2
  have hPe : P = pers c := by
    unfold Census.personsS at hPS
    rw [if_pos h0] at hPS
    simp only [Prod.mk.injEq] at hPS
    exact hPS.1.symm
  have hpl := pers_lo hf.pairs hf.n10
  have hP := Persons_c c hsm Census.readable
  rw [hPS] at hP
  obtain ⟨a, b⟩ := P
  have hlo : (pers c).lo = a := by rw [← hPe]
  have hhi : (pers c).hi = b := by rw [← hPe]
  have p1 : a ≤ (countTo v v.length : Int) := p1
  have p2 : (countTo v v.length : Int) ≤ b := p2
  rw [hlo, hhi] at hpl
  obtain ⟨an, rfl⟩ := Int.eq_ofNat_of_zero_le hpl.1
  obtain ⟨bn, rfl⟩ := Int.eq_ofNat_of_zero_le (show 0 ≤ b by omega)
  have hab : an ≤ bn := by omega
  have hbn : bn ≤ c.entries.length := by omega
  have hLo := Show_c c hsm false
  have hHi := Show_c c hsm true
  obtain ⟨_, l1, l2, l3, l4, l5⟩ := show_law h0 false
  obtain ⟨_, g1, g2, g3, g4, g5⟩ := show_law h0 true
  rw [l1] at hLo
  rw [g1] at hHi
  have l3 : ((c.showS false).1.length : Int) = (pers c).lo := l3
  have g3 : ((c.showS true).1.length : Int) = (pers c).hi := g3
  rw [hlo] at l3
  rw [hhi] at g3
  generalize (c.showS false).1 = sl at hLo l2 l3 l4 l5
  generalize (c.showS true).1 = sh at hHi g2 g3 g4 g5
  have hI1 := IsAssignment_c c hf sl (by omega) (fun l hl => by have := l5 l hl; omega)
  have hI2 := IsAssignment_c c hf sh (by omega) (fun l hl => by have := g5 l hl; omega)
  rw [l2] at hI1
  rw [g2] at hI2
  have hcL := lCensus_c c hsm
  obtain ⟨n, hnd⟩ : ∃ n, n = an + u % (bn - an + 1) := ⟨_, rfl⟩
  have hum := Nat.mod_lt u (show 0 < bn - an + 1 by omega)
  obtain ⟨o, hod⟩ : ∃ o, o = max c.omitted.lo (c.number.lo - n) := ⟨_, rfl⟩
  obtain ⟨o1, o2, hfx, hx0, hxp, hxa⟩ := ends_law hf (n := n) (by omega) (by omega) hod
  obtain ⟨x, hxd⟩ : ∃ x, x = endsX c n o := ⟨_, rfl⟩
  rw [← hxd] at hfx hx0 hxp hxa
  have hxm : x.small := by rw [hxd]; exact hsm
  have hXP := Persons_c x hxm Census.readable
  have hXS := Show_c x hxm true
  obtain ⟨_, y1, y2, y3, y4, y5⟩ := show_law hx0 true
  have y3 : ((x.showS true).1.length : Int) = (pers x).hi := y3
  rw [hxp] at y3
  rw [y1] at hXS
  generalize (x.showS true).1 = sx at hXS y2 y3 y4 y5
  have y9 : (sx.length : Int) = n := y3
  have hI3 := IsAssignment_c c hf sx (by omega) (fun l hl => by have := y5 l hl; omega)
  rw [hxa sx y2 y9] at hI3
  have hxL := lCensus_c x hxm
  have hxPS : ∃ O2, x.personsS = (⟨n, n⟩, O2, 0) := by
    refine ⟨x.omitted.cut (wr64 (x.number.lo - (readW x).persons.hi)) (wr64 (x.number.hi - (readW x).persons.lo)), ?_⟩
    unfold Census.personsS
    rw [if_pos hx0]
    have : (readW x).persons = ⟨n, n⟩ := hxp
    rw [this]
  obtain ⟨O2, hxPS⟩ := hxPS
  rw [hxPS] at hXP
  refine CallP.body 174 [.tmp 4] Tryd.func17 (by kernel_rfl) rfl rfl rfl (by repeat' (first | exact Pure.d _ | exact Pure.dx _ | exact Pure.dp _ | exact fa_nil | refine fa_cons ?_ ?_ | refine Pure.agg ?_ | refine Pure.tup ?_ | refine Pure.clo ?_ ?_ | refine Pure.fp ?_ | exact Pure.mapd _ | assumption)) (by repeat' (first | exact Pure.d _ | exact Pure.dx _ | exact Pure.dp _ | exact fa_nil | refine fa_cons ?_ ?_ | refine Pure.agg ?_ | refine Pure.tup ?_ | refine Pure.clo ?_ ?_ | refine Pure.fp ?_ | exact Pure.mapd _ | assumption)) ?_
  refine Tr.reg [0, 1] (by
      simp only [↓sxd, sxu, ↓zE, ↓exq, St.keep, Nat.reduceBEq, Nat.reduceAdd, Nat.reduceLT]
      (repeat' (first | rfl | exact trivial | exact fun h => h | exact fun h => (by rw [h]; rfl) | apply And.intro | omega | exact Nat.le_of_ble_eq_true rfl))) ?_
  refine Tr.reg [1, 5] (by
      simp only [↓sxd, sxu, ↓zE, ↓exq, St.keep, Nat.reduceLT]
      (repeat ((with_reducible refine And.intro ?_ ?_); (focus (first | with_reducible rfl | trivial | exact fun h => h | exact fun h => (by rw [h]; rfl) | omega | assumption))))
      refine CallO.use (hT) ?_
      try simp only [↓sxd, sxu, ↓zE, ↓exq, ↓zN, ↓zM, Nat.reduceBEq, Nat.reduceAdd, Nat.reduceLT, Nat.reduceEqDiff, tysW49_17]
      (repeat' (first | rfl | exact trivial | exact fun h => h | exact fun h => (by rw [h]; rfl) | apply And.intro | omega | exact Nat.le_of_ble_eq_true rfl))) ?_
  refine Tr.reg [1, 5, 7, 9] (by
      simp only [↓sxd, sxu, ↓zE, ↓exq, St.keep, ↓zD, Nat.reduceBEq, Nat.reduceAdd, Nat.reduceLT, tysW49_17]
      (repeat ((with_reducible refine And.intro ?_ ?_); (focus (first | with_reducible rfl | trivial | exact fun h => h | exact fun h => (by rw [h]; rfl) | omega | assumption))))
      refine CallO.use (hcL) ?_
      try simp only [↓sxd, sxu, ↓zE, Nat.reduceLT]
      (repeat ((with_reducible refine And.intro ?_ ?_); (focus (first | with_reducible rfl | trivial | exact fun h => h | exact fun h => (by rw [h]; rfl) | omega | assumption))))
      refine CallO.use (hP) ?_
      try simp only [↓sxd, sxu, ↓zE, ↓exq, ↓zN, ↓zM, Nat.reduceBEq, Nat.reduceAdd, Nat.reduceLT, Nat.reduceEqDiff, tysW49_17]
      (repeat' (first | rfl | exact trivial | exact fun h => h | exact fun h => (by rw [h]; rfl) | apply And.intro | omega | exact Nat.le_of_ble_eq_true rfl))) ?_
  refine Tr.seq ?_
  have q1 : decide (bn < an) = false := decide_eq_false (by omega)
  have q2 : decide ((an : Int) < 0) = false := decide_eq_false (by omega)
  have q3 : decide (c.entries.length < bn) = false := decide_eq_false (by omega)
  refine Tr.reg [1, 5, 7, 55] (by
      simp only [↓sxd, sxu, ↓zE, ↓exq, St.keep, Nat.reduceBEq, Nat.reduceLT, bne_self_eq_false]
      iterate 14
        (repeat ((with_reducible refine And.intro ?_ ?_); (focus (first | with_reducible rfl | trivial | exact fun h => h | exact fun h => (by rw [h]; rfl) | omega | assumption))))
        refine GdO.mk _ (fun hg => by simp only [↓sxd, sxu, ↓exq, ↓zB, ↓zJ, ↓zD, ↓zA, Nat.reduceBEq, Nat.reduceAdd, Nat.reduceLT, Nat.reduceEqDiff, sxe, tysW49_17, q1, q2, q3, hg]; (repeat' (first | rfl | exact trivial | exact fun h => h | exact fun h => (by rw [h]; rfl) | apply And.intro | omega | exact Nat.le_of_ble_eq_true rfl))) ?_
        simp only [↓sxd, sxu, ↓zE, ↓exq, ↓zH, Nat.reduceBEq, Nat.reduceLT]
      (repeat' (first |rfl |exact trivial |exact fun _ => rfl |exact fun h => h |apply And.intro |omega))) ?_
  refine Tr.cond rfl (fun h55 => ?_) (fun h55 => ?_)
  · cases h55
  · refine Tr.skip ?_
    refine Tr.reg [1, 5, 7, 10, 11] (by
        simp only [↓sxd, sxu, ↓zE, ↓exq, St.keep, ↓zD, Nat.reduceBEq, Nat.reduceAdd, Nat.reduceLT, tysW49_17]
        (repeat ((with_reducible refine And.intro ?_ ?_); (focus (first | with_reducible rfl | trivial | exact fun h => h | exact fun h => (by rw [h]; rfl) | omega | assumption))))
        refine CallO.use (hcL) ?_
        try simp only [↓sxd, sxu, ↓zE, Nat.reduceLT]
        (repeat ((with_reducible refine And.intro ?_ ?_); (focus (first | with_reducible rfl | trivial | exact fun h => h | exact fun h => (by rw [h]; rfl) | omega | assumption))))
        refine CallO.use (hLo) ?_
        try simp only [↓sxd, sxu, ↓zE, ↓exq, ↓zN, Nat.reduceBEq, Nat.reduceAdd, Nat.reduceLT]
        (repeat' (first | rfl | exact trivial | exact fun h => h | exact fun h => (by rw [h]; rfl) | apply And.intro | omega | exact Nat.le_of_ble_eq_true rfl))) ?_
    refine Tr.reg [1, 5, 7, 10, 11, 12, 13] (by
        simp only [↓sxd, sxu, ↓zE, ↓exq, St.keep, ↓zD, Nat.reduceBEq, Nat.reduceAdd, Nat.reduceLT, tysW49_17]
        (repeat ((with_reducible refine And.intro ?_ ?_); (focus (first | with_reducible rfl | trivial | exact fun h => h | exact fun h => (by rw [h]; rfl) | omega | assumption))))
        refine CallO.use (hcL) ?_
        try simp only [↓sxd, sxu, ↓zE, Nat.reduceLT]
        (repeat ((with_reducible refine And.intro ?_ ?_); (focus (first | with_reducible rfl | trivial | exact fun h => h | exact fun h => (by rw [h]; rfl) | omega | assumption))))
        refine CallO.use (hHi) ?_
        try simp only [↓sxd, sxu, ↓zE, ↓exq, ↓zN, Nat.reduceBEq, Nat.reduceAdd, Nat.reduceLT]
        (repeat' (first | rfl | exact trivial | exact fun h => h | exact fun h => (by rw [h]; rfl) | apply And.intro | omega | exact Nat.le_of_ble_eq_true rfl))) ?_
    refine Tr.seq ?_
    have q4 : (((sl.length : Nat) : Int) != (an : Int)) = false := by rw [l3]; simp
    have q5 : (((sh.length : Nat) : Int) != (bn : Int)) = false := by rw [g3]; simp
    refine Tr.reg [1, 5, 7, 99] (by
        simp only [↓sxd, sxu, ↓zE, ↓exq, St.keep, Nat.reduceBEq, Nat.reduceLT, bne_self_eq_false]
        iterate 4
          (repeat ((with_reducible refine And.intro ?_ ?_); (focus (first | with_reducible rfl | trivial | exact fun h => h | exact fun h => (by rw [h]; rfl) | omega | assumption))))
          refine GdO.mk _ (fun hg => by simp only [↓sxd, sxu, ↓exq, ↓zD, Nat.reduceBEq, Nat.reduceAdd, Nat.reduceLT, tysW49_17, bne_self_eq_false, hg]; (repeat' (first | rfl | exact trivial | exact fun h => h | exact fun h => (by rw [h]; rfl) | apply And.intro | omega | exact Nat.le_of_ble_eq_true rfl))) ?_
          simp only [↓sxd, sxu, ↓zE, ↓exq, ↓zH, Nat.reduceBEq, Nat.reduceLT]
        (repeat ((with_reducible refine And.intro ?_ ?_); (focus (first | with_reducible rfl | trivial | exact fun h => h | exact fun h => (by rw [h]; rfl) | omega | assumption))))
        refine GdO.mk _ (fun hg => by simp only [sxu, ↓exq, ↓zB, Nat.reduceBEq, hg]; (repeat ((with_reducible refine And.intro ?_ ?_); (focus (first | with_reducible rfl | trivial | exact fun h => h | exact fun h => (by rw [h]; rfl) | omega | assumption)))); exact CallP.use (hI1) ⟨rfl, rfl, rfl⟩) ?_
        simp only [↓sxd, sxu, ↓zE, Nat.reduceBEq, Nat.reduceLT]
        iterate 3
          (repeat ((with_reducible refine And.intro ?_ ?_); (focus (first | with_reducible rfl | trivial | exact fun h => h | exact fun h => (by rw [h]; rfl) | omega | assumption))))
          refine GdO.mk _ (fun hg => by simp only [sxu, ↓exq, ↓zL, ↓zD, Nat.reduceBEq, Nat.reduceAdd, Nat.reduceLT, tysW49_17, hg]; (repeat' (first | rfl | exact trivial | exact fun h => h | exact fun h => (by rw [h]; rfl) | apply And.intro | omega | exact Nat.le_of_ble_eq_true rfl))) ?_
          simp only [↓sxd, sxu, ↓zE, ↓exq, ↓zH, Nat.reduceBEq, Nat.reduceLT]
        (repeat ((with_reducible refine And.intro ?_ ?_); (focus (first | with_reducible rfl | trivial | exact fun h => h | exact fun h => (by rw [h]; rfl) | omega | assumption))))
        refine GdO.mk _ (fun hg => by simp only [sxu, ↓exq, ↓zB, Nat.reduceBEq, hg]; (repeat ((with_reducible refine And.intro ?_ ?_); (focus (first | with_reducible rfl | trivial | exact fun h => h | exact fun h => (by rw [h]; rfl) | omega | assumption)))); exact CallP.use (hI2) ⟨rfl, rfl, rfl⟩) ?_
        simp only [↓sxd, sxu, ↓zE, Nat.reduceBEq, Nat.reduceLT]
        iterate 11
          (repeat ((with_reducible refine And.intro ?_ ?_); (focus (first | with_reducible rfl | trivial | exact fun h => h | exact fun h => (by rw [h]; rfl) | omega | assumption))))
          refine GdO.mk _ (fun hg => by simp only [↓sxd, sxu, ↓exq, ↓zB, ↓zL, ↓zJ, ↓zD, ↓zA, Nat.reduceBEq, Nat.reduceAdd, Nat.reduceLT, Nat.reduceEqDiff, sxe, tysW49_17, q4, q5, hg]; (repeat' (first | rfl | exact trivial | exact fun h => h | exact fun h => (by rw [h]; rfl) | apply And.intro | omega | exact Nat.le_of_ble_eq_true rfl))) ?_
          simp only [↓sxd, sxu, ↓zE, ↓exq, ↓zH, Nat.reduceBEq, Nat.reduceLT]
        (repeat' (first |rfl |exact trivial |exact fun _ => rfl |exact fun h => h |apply And.intro |omega))) ?_
    refine Tr.cond rfl (fun h99 => ?_) (fun h99 => ?_)
    · cases h99
    · refine Tr.skip ?_
      have e1 : IntKind.i64.wrap ((bn : Int) - (an : Int)) = ((bn - an : Nat) : Int) := by rw [wr (by omega) (by omega)]; omega
      have e2 : IntKind.i64.wrap (((bn - an : Nat) : Int) + 1) = ((bn - an + 1 : Nat) : Int) := by rw [wr (by omega) (by omega)]; rfl
      have e3 : (u : Int).tmod ((bn - an + 1 : Nat) : Int) = ((u % (bn - an + 1) : Nat) : Int) := tmod_n _ _
      have e4 : IntKind.i64.wrap ((an : Int) + ((u % (bn - an + 1) : Nat) : Int)) = (n : Int) := by rw [wr (by omega) (by omega), hnd]; rfl
      refine Tr.regD [0, 1, 2, 3, 4, 5, 6, 7, 8, 9, 10, 11, 12] [] [] [5, 14] mix (by kernel_rfl) (by
          simp only [↓sxd, sxu, ↓zC, zK, ↓exq, St.keep, ↓xB, ↓zD, ↓zA, Nat.reduceBEq, Nat.reduceAdd, Nat.reduceLT, Nat.reduceEqDiff, tysW49_17, wi (show u < 9223372036854775808 by omega), e1, e2, e3, e4]
          (repeat' (first | rfl | exact trivial | exact fun h => h | exact fun h => (by rw [h]; rfl) | apply And.intro | omega | exact Nat.le_of_ble_eq_true rfl))) ?_
      have hom := hf.om
      have hnu := hf.nu
      have e5 : IntKind.i64.wrap (c.number.lo - (n : Int)) = c.number.lo - n := wr (by omega) (by omega)
      refine Tr.reg [5, 14, 15] (by
          simp only [↓sxd, sxu, ↓zE, ↓exq, ↓zB, St.keep, ↓zD, ↓zA, Nat.reduceBEq, Nat.reduceAdd, Nat.reduceLT, Nat.reduceEqDiff, tysW49_17, e5, ← hod]
          (repeat' (first | rfl | exact trivial | exact fun h => h | exact fun h => (by rw [h]; rfl) | apply And.intro | omega | exact Nat.le_of_ble_eq_true rfl))) ?_
      refine Tr.reg [5, 14, 15, 16] (by
          simp only [↓sxd, sxu, ↓zE, ↓exq, St.keep, ↓zD, ↓zM, Nat.reduceBEq, Nat.reduceAdd, Nat.reduceLT, Nat.reduceEqDiff, tysW49_17]
          (repeat' (first | rfl | exact trivial | exact fun h => h | exact fun h => (by rw [h]; rfl) | apply And.intro | omega | exact Nat.le_of_ble_eq_true rfl))) ?_
      have e6 : IntKind.i64.wrap ((n : Int) + o) = (n : Int) + o := wr (by omega) (by omega)
      refine Tr.reg [5, 14, 16] (by
          simp only [↓sxd, sxu, ↓zE, ↓exq, St.keep, ↓zO, ↓zA, Nat.reduceBEq, Nat.reduceAdd, Nat.reduceLT, Nat.reduceLeDiff, Nat.reduceEqDiff, tysW49_17, e6]
          (repeat' (first | rfl | exact trivial | exact fun h => h | exact fun h => (by rw [h]; rfl) | apply And.intro | omega | exact Nat.le_of_ble_eq_true rfl))) ?_
      subst hxd
      refine Tr.reg [5, 14, 16, 17, 19] (by
          simp only [↓sxd, sxu, ↓zE, ↓exq, St.keep, ↓zD, Nat.reduceBEq, Nat.reduceAdd, Nat.reduceLT, tysW49_17]
          (repeat ((with_reducible refine And.intro ?_ ?_); (focus (first | with_reducible rfl | trivial | exact fun h => h | exact fun h => (by rw [h]; rfl) | omega | assumption))))
          refine CallO.use (hxL) ?_
          try simp only [↓sxd, sxu, ↓zE, Nat.reduceLT]
          (repeat ((with_reducible refine And.intro ?_ ?_); (focus (first | with_reducible rfl | trivial | exact fun h => h | exact fun h => (by rw [h]; rfl) | omega | assumption))))
          refine CallO.use (hXP) ?_
          try simp only [↓sxd, sxu, ↓zE, ↓exq, ↓zN, ↓zM, Nat.reduceBEq, Nat.reduceAdd, Nat.reduceLT, Nat.reduceEqDiff, tysW49_17]
          (repeat' (first | rfl | exact trivial | exact fun h => h | exact fun h => (by rw [h]; rfl) | apply And.intro | omega | exact Nat.le_of_ble_eq_true rfl))) ?_
      refine Tr.reg [5, 14, 17, 19, 20, 21] (by
          simp only [↓sxd, sxu, ↓zE, ↓exq, St.keep, ↓zD, Nat.reduceBEq, Nat.reduceAdd, Nat.reduceLT, tysW49_17]
          (repeat ((with_reducible refine And.intro ?_ ?_); (focus (first | with_reducible rfl | trivial | exact fun h => h | exact fun h => (by rw [h]; rfl) | omega | assumption))))
          refine CallO.use (hxL) ?_
          try simp only [↓sxd, sxu, ↓zE, Nat.reduceLT]
          (repeat ((with_reducible refine And.intro ?_ ?_); (focus (first | with_reducible rfl | trivial | exact fun h => h | exact fun h => (by rw [h]; rfl) | omega | assumption))))
          refine CallO.use (hXS) ?_
          try simp only [↓sxd, sxu, ↓zE, ↓exq, ↓zN, Nat.reduceBEq, Nat.reduceAdd, Nat.reduceLT]
          (repeat' (first | rfl | exact trivial | exact fun h => h | exact fun h => (by rw [h]; rfl) | apply And.intro | omega | exact Nat.le_of_ble_eq_true rfl))) ?_
      refine Tr.regV [] [] [4] mix (by kernel_rfl) (by
          try simp only
          simp only [↓yB, ↓yG, addA, ↓sxd, sxu, zK, ↓exq, St.keep, Nat.reduceBEq, Nat.reduceAdd, Nat.reduceLT]
          iterate 3
            (repeat ((with_reducible refine And.intro ?_ ?_); (focus (first | with_reducible rfl | trivial | exact fun h => h | exact fun h => (by rw [h]; rfl) | omega | assumption))))
            refine GdV.mk _ (fun hg => by simp only [sxu, ↓exP, ↓exq, ↓zD, Nat.reduceBEq, Nat.reduceAdd, Nat.reduceLT, tysW49_17]; (repeat' (first | rfl | exact trivial | exact fun h => h | exact fun h => (by rw [h]; rfl) | apply And.intro | omega | exact Nat.le_of_ble_eq_true rfl))) ?_
            simp only [↓yB, ↓yG, addA, sxu, zK, Nat.reduceBEq, Nat.reduceAdd, Nat.reduceLT]
          (repeat ((with_reducible refine And.intro ?_ ?_); (focus (first | with_reducible rfl | trivial | exact fun h => h | exact fun h => (by rw [h]; rfl) | omega | assumption))))
          refine GdV.mk _ (fun hg => by simp only [sxu, ↓exP, Nat.reduceBEq]; first | exact between_c _ _ _ | exact ⟨between_c _ _ _, rfl, rfl⟩ | exact ⟨between_c _ _ _, trivial⟩ | exact ⟨between_c _ _ _, trivial, trivial⟩) ?_
          simp only [↓yB, ↓yG, addA, sxu, zK, Nat.reduceBEq, Nat.reduceAdd, Nat.reduceLT]
          iterate 9
            (repeat ((with_reducible refine And.intro ?_ ?_); (focus (first | with_reducible rfl | trivial | exact fun h => h | exact fun h => (by rw [h]; rfl) | omega | assumption))))
            refine GdV.mk _ (fun hg => by simp only [↓sxd, sxu, ↓exP, ↓exq, ↓zB, ↓zJ, ↓zD, Nat.reduceBEq, Nat.reduceAdd, Nat.reduceLT, sxe, tysW49_17, eqAgg30, svInts, exists_and_left, hg]; (repeat' (first | rfl | exact trivial | exact fun h => h | exact fun h => (by rw [h]; rfl) | apply And.intro | omega | exact Nat.le_of_ble_eq_true rfl))) ?_
            simp only [↓yB, ↓yG, addA, sxu, zK, ↓exq, ↓zH, Nat.reduceBEq, Nat.reduceAdd, Nat.reduceLT]
          (repeat ((with_reducible refine And.intro ?_ ?_); (focus (first | with_reducible rfl | trivial | exact fun h => h | exact fun h => (by rw [h]; rfl) | omega | assumption))))
          refine GdV.mk _ (fun hg => by simp only [sxu, ↓exP, Nat.reduceBEq, hg]; first | exact hI3 | exact ⟨hI3, rfl, rfl⟩ | exact ⟨hI3, trivial⟩ | exact ⟨hI3, trivial, trivial⟩) ?_
          simp only [↓yB, ↓yG, addA, sxu, zK, ↓exq, ↓zH, Nat.reduceBEq, Nat.reduceAdd, Nat.reduceLT]
          (repeat ((with_reducible refine And.intro ?_ ?_); (focus (first | with_reducible rfl | trivial | exact fun h => h | exact fun h => (by rw [h]; rfl) | omega | assumption))))
          refine GdV.mk _ (fun hg => by simp only [sxu, ↓exP, hg]; first | exact awake_c | exact ⟨awake_c, rfl, rfl⟩ | exact ⟨awake_c, trivial⟩ | exact ⟨awake_c, trivial, trivial⟩) ?_
          simp only [↓yB, ↓yE, ↓yG, sxu, zK, ↓exq, ↓zH, Nat.reduceBEq, Nat.reduceAdd, Nat.reduceLT]
          (repeat' (first | rfl | exact trivial | exact fun h => h | exact fun h => (by rw [h]; rfl) | apply And.intro | omega | exact Nat.le_of_ble_eq_true rfl))) ?_
      refine Tr.ret ?_
      exact ⟨.inr rfl, congrArg (fun n => some (B n)) (by
      rw [y9, beq_self_eq_true])⟩
end Go.Proofs.YtcnkbdfkjhlbiaaDoor
