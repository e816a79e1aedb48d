/- Lemmas, part YDA. Conditions: none. -/
import Derived.Test.YtcnkbdfkjhlbiaaDoorXPBB
import Derived.Carry
set_option linter.unusedVariables false
namespace Go.Proofs.YtcnkbdfkjhlbiaaDoor
open Go.Sy
theorem ty.sz148 : tsz Tryd.prog 148 = some 1 := by kernel_rfl
theorem ty.agg148 : tagg Tryd.prog 148 = some false := by kernel_rfl
theorem ty.elem148 : telem Tryd.prog 148 = none := by kernel_rfl
end Go.Proofs.YtcnkbdfkjhlbiaaDoor
namespace Go.Sy
section
variable {P : Program} {G : Nat → Option (List D)} {O : Nat → Prop} {pb pl pl' : Nat → Option Pl} {w w' : World} {hp hp' : HpT} {nx nx' : Nat} {ok ok' : Nat → Prop} {r : Nat → Nat}
theorem Imp.trans {a b c : St} (h : Imp a b) (h' : Imp b c) : Imp a c := by
  intro G O M pb pl x w hR
  obtain ⟨pl1, h1, g1⟩ := h G O M pb pl x w hR
  obtain ⟨pl2, h2, g2⟩ := h' G O M pb pl1 x w h1
  exact ⟨pl2, h2, fun B hB => g1 B (g2 B hB)⟩
end
end Go.Sy
namespace Go.Proofs.YtcnkbdfkjhlbiaaDoor
open Go.Sy
set_option maxRecDepth 8000
theorem dU_1 (l : List Nat) : (dU l).length = l.length := dU_len l
theorem tl_one {a : List Bool} {b : List Int} (h1 : a.length = 1024) {k : Nat} (h : k < 1024) : (List.drop k (a.map cB ++ b.map cI)).getD 0 default = cB (a.getD k false) := by
  rw [List.getD_eq_getElem?_getD, List.getElem?_drop, List.getElem?_append_left (by simp; omega)]
  simp [List.getD_eq_getElem?_getD, h1, h]
theorem tl_one0 {a : List Bool} {b : List Int} (h1 : a.length = 1024) {k : Nat} (h : k < 1024) : 0 < (List.drop k (a.map cB ++ b.map cI)).length := by simp; omega
end Go.Proofs.YtcnkbdfkjhlbiaaDoor
namespace Go.Sy
theorem exPick_and (a b : Bool) (K : SV → Prop) (h : K (.d (.lit (.bool (a && b))))) : zH (.d (.lit (.bool a))) (if a = true then .d (.lit (.bool b)) else .unk) (.d (.lit (.bool false))) K := by
  cases a <;> cases b <;> exact h
section
variable {P : Program} {G : Nat → Option (List D)}
theorem GdO.and {all : List Oper} {o : Oper} {os : List Oper} {st : St} {g : Bool} {K : St → Prop} {a b : Bool} (h : g = true → pickArgs o (fun x => gstrip (ev G st.tm x)) = some (.d (.lit (.bool a)), if a = true then .d (.lit (.bool b)) else .unk, .d (.lit (.bool false))))
    (k : xA P G all os ⟨putT o.dst (.whn g (.d (.lit (.bool (a && b))))) st.tm, st.hp, st.nx, st.nt, st.df, st.nb⟩ K) : GdO P G all o os st g K :=
  GdO.mk _ (fun hg => exq_pick (h hg) (exPick_and a b _ ⟨rfl, rfl, rfl⟩)) k
end
end Go.Sy
namespace Go.Proofs.YtcnkbdfkjhlbiaaDoor
open Go.Sy
set_option maxRecDepth 8000
theorem getD_memL {l : List (List Nat)} {i : Nat} (h : i < l.length) : l.getD i [] ∈ l := getD_mem h
theorem few_len {c : Census} (h : c.few = true) : c.thin = true := by
  unfold Census.few at h
  rw [Bool.and_eq_true] at h
  exact h.1
theorem small_thin {c : Census} (h : c.thin = true) : c.small := by
  obtain ⟨h1, h2, h3⟩ := thin_len h
  exact ⟨by omega, by omega, by omega⟩
end Go.Proofs.YtcnkbdfkjhlbiaaDoor
namespace Go.Proofs.YtcnkbdfkjhlbiaaDoor
open Go.Sy
set_option maxRecDepth 8000
theorem ib (p q : Nat) : ((p : Int) == (q : Int)) = (p == q) := by
  rw [Bool.eq_iff_iff, beq_iff_eq, beq_iff_eq]; omega
end Go.Proofs.YtcnkbdfkjhlbiaaDoor
namespace Go.Proofs.YtcnkbdfkjhlbiaaDoor
set_option maxRecDepth 8000
structure Says (c x : Census) : Prop where
  len : x.entries.length = c.entries.length
  ent : ∀ i, i < c.entries.length → (x.entry i).sched = (c.entry i).sched ∧ (x.entry i).sex = (c.entry i).sex ∧ (x.entry i).key = (c.entry i).key ∧ (c.entry i).ages.lo ≤ (x.entry i).ages.lo ∧ (x.entry i).ages.hi ≤ (c.entry i).ages.hi
  same : ∀ p ∈ c.same, p ∈ x.same
  apart : ∀ p ∈ c.apart, p ∈ x.apart
  om : c.omitted.lo ≤ x.omitted.lo ∧ x.omitted.hi ≤ c.omitted.hi
  nu : c.number.lo ≤ x.number.lo ∧ x.number.hi ≤ c.number.hi
structure Moves (c x : Census) (s : Nat → Nat) : Prop where
  len : x.entries.length = c.entries.length
  to : ∀ i, i < c.entries.length → s i < c.entries.length
  inj : ∀ i k, i < c.entries.length → k < c.entries.length → s i = s k → i = k
  sur : ∀ j, j < c.entries.length → ∃ i, i < c.entries.length ∧ s i = j
  ent : ∀ i, i < c.entries.length → x.entry i = c.entry (s i)
  same : ∀ p ∈ x.same, ∃ q ∈ c.same, s p.fst.toNat = q.fst.toNat ∧ s p.snd.toNat = q.snd.toNat
  apart : ∀ p ∈ x.apart, ∃ q ∈ c.apart, s p.fst.toNat = q.fst.toNat ∧ s p.snd.toNat = q.snd.toNat
end Go.Proofs.YtcnkbdfkjhlbiaaDoor
namespace Go.Proofs.YtcnkbdfkjhlbiaaDoor
open Go.Sy
set_option maxRecDepth 8000
structure Nar (c : Census) (E : List Entry) (O N : Rng) : Prop where
  len : E.length = c.entries.length
  val : ∀ e ∈ E, Entry.valid e = true
  ent : ∀ i, i < c.entries.length → (E.getD i default).sched = (c.entry i).sched ∧ (E.getD i default).sex = (c.entry i).sex ∧ (E.getD i default).key = (c.entry i).key ∧ (c.entry i).ages.lo ≤ (E.getD i default).ages.lo ∧ (E.getD i default).ages.hi ≤ (c.entry i).ages.hi
  om : c.omitted.lo ≤ O.lo ∧ O.lo ≤ O.hi ∧ O.hi ≤ c.omitted.hi
  nu : c.number.lo ≤ N.lo ∧ N.lo ≤ N.hi ∧ N.hi ≤ c.number.hi
end Go.Proofs.YtcnkbdfkjhlbiaaDoor
namespace Go.Proofs.YtcnkbdfkjhlbiaaDoor
open Go.Sy (aput)
set_option maxRecDepth 8000
def off (c : Coding) (k p : Nat) (x : Int) : Nat := if (c.codes.getD k []).getD p 0 ≠ x then 1 else 0
def errsAt (c : Coding) (k : Nat) : Nat → List Int → Nat
  | _, [] => 0
  | p, x :: w => off c k p x + errsAt c k (p + 1) w
def sumTo (f : Nat → Nat) : Nat → Nat
  | 0 => 0
  | n + 1 => sumTo f n + f n
def totAt (c : Coding) (p : Nat) (w : List Int) : Nat := sumTo (fun k => errsAt c k p w) c.codes.length
structure Comp (c : Coding) (p : Nat) (es : List Int) (w : List Int) : Prop where
  len : p + w.length = c.cols
  cod : ∀ x ∈ w, 0 ≤ x ∧ x ≤ 9
  few : ∀ k, k < c.codes.length → es.getD k 0 + errsAt c k p w ≤ c.wrong.getD k 0
structure Es (c : Coding) (p : Nat) (es : List Int) : Prop where
  len : es.length = 3
  bd : ∀ k, 0 ≤ es.getD k 0 ∧ es.getD k 0 ≤ p
def esNext (c : Coding) (p : Nat) (es : List Int) (x : Int) : List Int := (c.nextTo p es x c.codes.length).1
def OkNext (c : Coding) (p : Nat) (es : List Int) (x : Int) : Prop := ∀ k, k < c.codes.length → es.getD k 0 + off c k p x ≤ c.wrong.getD k 0
instance (c : Coding) (p : Nat) (es : List Int) (x : Int) : Decidable (OkNext c p es x) := by unfold OkNext; infer_instance
def IsBest (c : Coding) (p : Nat) (es : List Int) (n : Int) : Prop :=
  (n = -1 ∧ ∀ w, ¬ Comp c p es w) ∨ (∃ w, Comp c p es w ∧ n = totAt c p w ∧ ∀ w', Comp c p es w' → n ≤ totAt c p w')
structure MemOk (c : Coding) (m : Mem) : Prop where
  ok : ∀ p es n, p < c.cols → Es c p es → m.lookup (keyOf p es) = some n → IsBest c p es n
  shut : ∀ p es, p < c.cols → Es c p es → (m.lookup (keyOf p es)).isSome = true → ∀ x : Int, 0 ≤ x → x ≤ 9 → OkNext c p es x → p + 1 = c.cols ∨ (m.lookup (keyOf (p + 1) (esNext c p es x))).isSome = true
end Go.Proofs.YtcnkbdfkjhlbiaaDoor
namespace Go.Proofs.YtcnkbdfkjhlbiaaDoor
open Go.Sy (aput)
set_option maxRecDepth 8000
inductive Pre (c : Coding) : Nat → List Int → List Int → Prop
  | nil : Pre c 0 [] e000
  | snoc {p : Nat} {v es : List Int} {x : Int} (h : Pre c p v es) (h1 : 0 ≤ x ∧ x ≤ 9) (h2 : OkNext c p es x) : Pre c (p + 1) (v ++ [x]) (esNext c p es x)
structure CodingFine (c : Coding) : Prop where
  ok : CodingOk c
  n0 : 0 < c.codes.length
  c0 : 0 < c.cols
  wr : ∀ k, k < c.codes.length → 0 ≤ c.wrong.getD k 0 ∧ c.wrong.getD k 0 ≤ 10
  cd : ∀ k, k < c.codes.length → (c.codes.getD k []).all isCode = true
end Go.Proofs.YtcnkbdfkjhlbiaaDoor
namespace Go.Proofs.YtcnkbdfkjhlbiaaDoor
open Go.Sy
set_option maxRecDepth 8000
theorem getD_memI {l : List (List Int)} {i : Nat} (h : i < l.length) : l.getD i [] ∈ l := getD_mem h
theorem allI_getD {p : Int → Bool} {l : List Int} (h : ∀ j, j < l.length → p (l.getD j 0) = true) : l.all p = true := by
  rw [List.all_eq_true]
  intro x hx
  obtain ⟨j, hj, rfl⟩ := List.getElem_of_mem hx
  have := h j hj
  rwa [show l.getD j 0 = l[j] by simp [List.getD_eq_getElem?_getD, hj]] at this
abbrev uL (l : List (List Int)) : List (List SV) := l.map fun u => [SI u]
abbrev vI (v : List Int) : List (List SV) := v.map fun n => [I n]
theorem vI_fz {r : Nat → Nat} {hp hp' : HpT} (v : List Int) : F2 (F2 fun s x => TnS r hp hp' s (.d x)) (vI v) (dI v) := by
  rw [dI]; exact F2.map fun n _ => .cons (TnS.d _) .nil
theorem uL_fz {r : Nat → Nat} {hp hp' : HpT} (l : List (List Int)) : F2 (F2 fun s x => TnS r hp hp' s (.d x)) (uL l) (dL l) := by
  rw [dL]; exact F2.map fun n _ => .cons (TnS.d _) .nil
end Go.Proofs.YtcnkbdfkjhlbiaaDoor
namespace Go.Proofs.YtcnkbdfkjhlbiaaDoor
open Go.Sy
set_option maxRecDepth 8000
def asgOne (n : Nat) (l : List Int) (seen : Nat) : Nat → Option (Nat × Nat)
  | 0 => some (0, seen)
  | i + 1 => match asgOne n l seen i with
    | none => none
    | some x => if !(within (l.getD i 0) 0 (n - 1)) || x.2.testBit (l.getD i 0).toNat || (decide (0 < i) && decide (l.getD i 0 ≤ l.getD (i - 1) 0)) then none
      else some (x.1 ||| 2 ^ (l.getD i 0).toNat, x.2 ||| 2 ^ (l.getD i 0).toNat)
def Census.keeps (c : Census) (s : Nat) : Bool := c.same.all fun p => s.testBit p.fst.toNat == s.testBit p.snd.toNat
def Census.asgTo (c : Census) (ls : List (List Int)) : Nat → Option Nat
  | 0 => some 0
  | k + 1 => match c.asgTo ls k with
    | none => none
    | some sn => match asgOne c.entries.length (ls.getD k []) sn (ls.getD k []).length with
      | none => none
      | some x => if x.1 = 0 ∨ c.fitsSet x.1 = false ∨ c.keeps x.1 = false then none else some x.2
def Census.asg (c : Census) (ls : List (List Int)) : Bool := if c.check = 0 then (match c.asgTo ls ls.length with
    | none => false
    | some sn => decide ((elems sn).length = c.entries.length) && within ls.length c.limits.lo c.limits.hi) else false
theorem asgOne_lt {n : Nat} {l : List Int} {seen : Nat} (hs : seen < 2 ^ n) : ∀ i x, asgOne n l seen i = some x → x.1 < 2 ^ n ∧ x.2 < 2 ^ n
  | 0, x, h => by simp [asgOne] at h; subst h; exact ⟨Nat.two_pow_pos n, hs⟩
  | i + 1, x, h => by
    rw [asgOne] at h
    split at h
    · cases h
    · rename_i y hy
      obtain ⟨h1, h2⟩ := asgOne_lt hs i y hy
      split at h
      · cases h
      · rename_i g
        cases h
        have hw : within (l.getD i 0) 0 (n - 1) = true := by
          simp only [Bool.or_eq_true, not_or, Bool.not_eq_true', Bool.not_eq_false] at g
          exact g.1.1
        simp only [within, Bool.and_eq_true, decide_eq_true_eq] at hw
        have : 2 ^ (l.getD i 0).toNat < 2 ^ n := Nat.pow_lt_pow_right (by omega) (by omega)
        exact ⟨Nat.or_lt_two_pow h1 this, Nat.or_lt_two_pow h2 this⟩
theorem asgOne_step {n : Nat} {l : List Int} {seen i : Nat} {x : Nat × Nat} (h : asgOne n l seen i = some x) : asgOne n l seen (i + 1) = if !(within (l.getD i 0) 0 (n - 1)) || x.2.testBit (l.getD i 0).toNat || (decide (0 < i) && decide (l.getD i 0 ≤ l.getD (i - 1) 0)) then none
      else some (x.1 ||| 2 ^ (l.getD i 0).toNat, x.2 ||| 2 ^ (l.getD i 0).toNat) := by rw [asgOne, h]
end Go.Proofs.YtcnkbdfkjhlbiaaDoor
namespace Go.Proofs.YtcnkbdfkjhlbiaaDoor
open Go.Sy
set_option maxRecDepth 8000
abbrev cells (f : Nat → Nat → Bool) : List SV := (List.range 30).map fun q => B (f (q / 10) (q % 10))
end Go.Proofs.YtcnkbdfkjhlbiaaDoor
namespace Go.Proofs.YtcnkbdfkjhlbiaaDoor
open Go.Sy
set_option maxRecDepth 8000
theorem vI_snoc (v : List Int) (n : Int) : vI (v ++ [n]) = vI v ++ [[I n]] := by simp [vI]
theorem uL_snoc (l : List (List Int)) (x : List Int) : uL (l ++ [x]) = uL l ++ [[SI x]] := by simp [uL]
theorem vI_tn {r : Nat → Nat} {hp hp' : HpT} (v : List Int) : F2 (F2 (TnS r hp hp')) (vI v) (vI v) := F2.map fun n _ => .cons (TnS.d _) .nil
theorem vI_len (v : List Int) : (vI v).length = v.length := by simp
end Go.Proofs.YtcnkbdfkjhlbiaaDoor
namespace Go.Proofs.YtcnkbdfkjhlbiaaDoor
open Go.Sy
set_option maxRecDepth 8000
def refOne (l : List Int) (n k : Nat) (o0 : List Int) : Nat → Option (List Int)
  | 0 => some o0
  | i + 1 => match refOne l n k o0 i with
    | none => none
    | some o => if !(within (l.getD i 0) 0 (n - 1)) || decide (o.getD (l.getD i 0).toNat 0 ≥ 0) || (decide (0 < i) && decide (l.getD i 0 ≤ l.getD (i - 1) 0)) then none else some (o.set (l.getD i 0).toNat k)
def refTo (n : Nat) (ls : List (List Int)) : Nat → Option (List Int)
  | 0 => some (List.replicate n (-1))
  | k + 1 => match refTo n ls k with
    | none => none
    | some o => if (ls.getD k []).length = 0 then none else refOne (ls.getD k []) n k o (ls.getD k []).length
def ofS (n : Nat) (ls : List (List Int)) : Option (List Int) := match refTo n ls ls.length with
  | none => none
  | some o => if o.all (fun x => decide (0 ≤ x)) then some o else none
theorem refOne_none {l : List Int} {n k : Nat} {o0 : List Int} {i : Nat} (h : refOne l n k o0 i = none) : ∀ d, refOne l n k o0 (i + d) = none
  | 0 => h
  | d + 1 => by show refOne l n k o0 (i + d + 1) = none; rw [refOne, refOne_none h d]
theorem refTo_none {n : Nat} {ls : List (List Int)} {k : Nat} (h : refTo n ls k = none) : ∀ d, refTo n ls (k + d) = none
  | 0 => h
  | d + 1 => by show refTo n ls (k + d + 1) = none; rw [refTo, refTo_none h d]
theorem ofS_none {n : Nat} {ls : List (List Int)} {k : Nat} (hk : k < ls.length) (h : refTo n ls (k + 1) = none) : ofS n ls = none := by
  unfold ofS
  have := refTo_none h (ls.length - (k + 1))
  rw [show k + 1 + (ls.length - (k + 1)) = ls.length by omega] at this
  rw [this]
theorem refOne_step {l : List Int} {n k : Nat} {o0 o : List Int} {i : Nat} (h : refOne l n k o0 i = some o) : refOne l n k o0 (i + 1) = if !(within (l.getD i 0) 0 (n - 1)) || decide (o.getD (l.getD i 0).toNat 0 ≥ 0) || (decide (0 < i) && decide (l.getD i 0 ≤ l.getD (i - 1) 0)) then none else some (o.set (l.getD i 0).toNat k) := by rw [refOne, h]
theorem vI_rep (i : Nat) : vI (List.replicate (i + 1) (-1)) = vI (List.replicate i (-1)) ++ [[I (-1)]] := by
  rw [List.replicate_succ', vI_snoc]
theorem vI_getD {o : List Int} {j : Nat} (h : j < o.length) : (vI o).getD j [] = [I (o.getD j 0)] := by simp [vI, List.getD_eq_getElem?_getD, h]
theorem vI_set {o : List Int} {j : Nat} {x : Int} : (vI o).set j [I x] = vI (o.set j x) := by simp [vI, List.map_set]
abbrev tysW41_91 := And.intro ty.sz0 <| And.intro ty.agg0 <| And.intro ty.elem0 <| And.intro ty.sz3 <| And.intro ty.agg3 <| And.intro ty.elem3 <| And.intro ty.zero3 <| And.intro ty.und3 <| And.intro ty.sz4 <| And.intro ty.agg4 <| And.intro ty.elem4 <| And.intro ty.zero4 <| And.intro ty.und4 <| And.intro ty.sz22 <| And.intro ty.agg22 <| And.intro ty.elem22 <| And.intro ty.by22 <| And.intro ty.ez22 <| And.intro ty.zero22 <| And.intro ty.und22 <| And.intro ty.sz27 <| And.intro ty.agg27 <| And.intro ty.fld27_0 <| And.intro ty.fld27_1 <| And.intro ty.fld27_2 <| And.intro ty.fld27_3 <| And.intro ty.fld27_4 <| And.intro ty.elem27 <| And.intro ty.zero27 <| And.intro ty.pl27 <| And.intro ty.sz39 <| And.intro ty.agg39 <| And.intro ty.elem39 <| And.intro ty.by39 <| And.intro ty.ez39 <| And.intro ty.zero39 <| And.intro ty.und39 <| And.intro ty.sz43 <| And.intro ty.agg43 <| And.intro ty.elem43 <| And.intro ty.by43 <| And.intro ty.ez43 <| And.intro ty.zero43 <| ty.und43
set_option maxHeartbeats 4000000 in
theorem Of_c (c : Census) (hn : c.entries.length ≤ 13) (ls : List (List Int)) (hl : ls.length ≤ 13) (hls : ∀ l ∈ ls, l.length ≤ 13) : CallP Tryd.prog G0 91 [c.s, SL ls] (.tup [SI ((ofS c.entries.length ls).getD []), B (ofS c.entries.length ls).isSome]) := by
  have w0 : IntKind.i64.wrap ((c.entries.length : Int) - 1) = (c.entries.length : Int) - 1 := wr (by omega) (by omega)
  refine CallP.body 95 [.tmp 4, .tmp 5] Tryd.func91 (by kernel_rfl) rfl rfl rfl (by repeat' (first | exact Pure.d _ | exact Pure.dx _ | exact Pure.dp _ | exact fa_nil | refine fa_cons ?_ ?_ | refine Pure.agg ?_ | refine Pure.tup ?_ | refine Pure.clo ?_ ?_ | refine Pure.fp ?_ | exact Pure.mapd _ | assumption)) (by repeat' (first | exact Pure.d _ | exact Pure.dx _ | exact Pure.dp _ | exact fa_nil | refine fa_cons ?_ ?_ | refine Pure.agg ?_ | refine Pure.tup ?_ | refine Pure.clo ?_ ?_ | refine Pure.fp ?_ | exact Pure.mapd _ | assumption)) ?_
  refine Tr.reg [1, 2] (by
      simp only [↓sxd, sxu, ↓zE, ↓exq, St.keep, ↓zI, Nat.reduceBEq, Nat.reduceAdd, Nat.reduceLT, Nat.reduceEqDiff]
      (repeat' (first | rfl | exact trivial | exact fun h => h | exact fun h => (by rw [h]; rfl) | apply And.intro | omega | exact Nat.le_of_ble_eq_true rfl))) ?_
  refine Tr.reg [1, 2, 6] (by
      simp only [↓sxd, sxu, ↓zE, ↓exq, St.keep, Nat.reduceBEq, Nat.reduceLT]
      (repeat' (first | rfl | exact trivial | exact fun h => h | exact fun h => (by rw [h]; rfl) | apply And.intro | omega | exact Nat.le_of_ble_eq_true rfl))) ?_
  refine Tr.seq ?_
  refine Tr.reg [1, 2, 6, 7] (by
      simp only [↓sxd, sxu, ↓zE, ↓exq, St.keep, Nat.reduceBEq, Nat.reduceLT]
      (repeat' (first | rfl | exact trivial | exact fun h => h | exact fun h => (by rw [h]; rfl) | apply And.intro | omega | exact Nat.le_of_ble_eq_true rfl))) ?_
  refine Tr.imp (st' := ⟨[(1, SL ls), (2, .ptr 0 0 0), (6, .slc 1 1 0 0 0), (7, I 0)], [(1, .arr 1 (vI (List.replicate 0 (-1)))), (0, .arr 7 [cs c (SP c.same) (SP c.apart)])], 2, 95, [], 0⟩) (Imp.goV 1 rfl rfl rfl rfl (by repeat' (first | exact trivial | exact F2.nil | refine F2.cons ?_ ?_ | refine TmV.cons rfl VnS.nil ?_ | refine TmV.cons rfl VnS.same ?_ | refine ⟨rfl, ?_⟩ | exact VnO.same _ | refine VnO.arr ?_ | exact VnS.nil | exact VnS.same | exact F2.refl fun _ _ => VnS.same)) (by repeat' (first | exact trivial | exact F2.nil | refine F2.cons ?_ ?_ | refine TmV.cons rfl VnS.nil ?_ | refine TmV.cons rfl VnS.same ?_ | refine ⟨rfl, ?_⟩ | exact VnO.same _ | refine VnO.arr ?_ | exact VnS.nil | exact VnS.same | exact F2.refl fun _ _ => VnS.same))) (Tr.block (Tr.loopI (fun mm ss => ∃ (i : Nat), (i ≤ c.entries.length) ∧ c.entries.length - i = mm ∧ ss = ⟨[(1, SL ls), (2, .ptr 0 0 0), (6, .slc 1 1 0 i i), (7, I i)], [(1, .arr 1 (vI (List.replicate i (-1)))), (0, .arr 7 [cs c (SP c.same) (SP c.apart)])], 2, 95, [], 0⟩) _ ⟨0, ?_, rfl, rfl⟩ ?_))
  · exact Nat.zero_le _
  rintro mm ss ⟨i, hI, rfl, rfl⟩
  refine Tr.seq ?_
  refine Tr.reg [1, 2, 6, 7, 16] (by
      simp only [↓sxd, sxu, ↓zE, ↓exq, ↓zB, St.keep, ↓zJ, ↓zD, ↓zA, Nat.reduceBEq, Nat.reduceAdd, Nat.reduceLT, Nat.reduceEqDiff, sxe, tysW41_91]
      (repeat' (first | rfl | exact trivial | exact fun h => h | exact fun h => (by rw [h]; rfl) | apply And.intro | omega | exact Nat.le_of_ble_eq_true rfl))) ?_
  refine Tr.cond rfl (fun h16 => ?_) (fun h16 => ?_)
  · have hlt : i < c.entries.length := by have := of_decide_eq_true h16; omega
    refine Tr.skip ?_
    refine Tr.seq ?_
    refine Tr.block ?_
    have hk2 : (i + 1 ≤ 1073741824) = True := eq_true (by omega)
    refine Tr.reg1 [1, 2, 6, 7] (by
        simp only [↓sxd, sxu, ↓zE, ↓exq, ↓zB, St.keep, ↓zG, ↓zQ, Nat.reduceBEq, Nat.reduceAdd, Nat.reduceLT, Nat.reduceLeDiff, Nat.reduceEqDiff, tysW41_91, hk2]
        (repeat' (first | rfl | exact trivial | exact fun h => h | exact fun h => (by rw [h]; rfl) | apply And.intro | omega | exact Nat.le_of_ble_eq_true rfl))) ?_
    have w1 : IntKind.i64.wrap ((i : Int) + 1) = ((i + 1 : Nat) : Int) := by rw [wr (by omega) (by omega)]; rfl
    refine Tr.reg1 [1, 2, 6, 7] (by
        simp only [↓sxd, sxu, ↓zE, ↓exq, St.keep, Nat.reduceBEq, Nat.reduceLT, w1]
        (repeat' (first | rfl | exact trivial | exact fun h => h | exact fun h => (by rw [h]; rfl) | apply And.intro | omega | exact Nat.le_of_ble_eq_true rfl))) ?_
    refine ⟨_, _, ?_, ?_, ⟨i + 1, hlt, rfl, rfl⟩⟩
    · omega
    · rw [vI_rep]
      exact Imp.go (fun i => if i < 1 then i else i + 1) [(2, _), (0, _)] rfl rfl (.refl _) (fun _ h => absurd h (Nat.not_lt_zero _)) (fun id h => by simp only [show ¬ id < 1 by omega, if_false]; omega) (by repeat' (first | exact TmT.cons rfl (TnS.d _) ?_ | exact trivial | exact F2.nil | refine F2.append ?_ ?_ | refine F2.map fun _ _ => ?_ | refine F2.cons ?_ ?_ | refine TmT.cons rfl ?_ ?_ | exact TnS.d _ | exact TnS.dx _ | exact TnS.dp _ | exact TnS.slc rfl | exact TnS.ptr rfl | refine TnS.frzf rfl (by simp) (by simp) (by simp) ?_ | refine TnS.frz0 rfl (by simp) (by simp) (by simp) ?_ | refine TnS.frzm rfl (by simp) ?_ | exact TnS.mapr rfl | exact TnS.yld rfl | refine ⟨rfl, ?_⟩ | refine TnO.arr ?_ | refine TnO.map ?_ | exact TnO.raw _ | exact TnO.iter _ _ | refine TnS.agg ?_ | refine TnS.tup ?_ | exact TnS.pure (Pure.clo (by assumption) (by assumption)) | refine TnS.clo ?_ ?_ | exact TnS.unk _ | exact TnS.pure (Pure.clo (by assumption) (by assumption)))) (.cons ⟨rfl, TnO.arr (F2.append (vI_tn _) (.cons (.cons (TnS.d _) .nil) .nil))⟩ (.cons ⟨rfl, TnO.arr (by repeat' (first | exact TmT.cons rfl (TnS.d _) ?_ | exact trivial | exact F2.nil | refine F2.append ?_ ?_ | refine F2.map fun _ _ => ?_ | refine F2.cons ?_ ?_ | refine TmT.cons rfl ?_ ?_ | exact TnS.d _ | exact TnS.dx _ | exact TnS.dp _ | exact TnS.slc rfl | exact TnS.ptr rfl | refine TnS.frzf rfl (by simp) (by simp) (by simp) ?_ | refine TnS.frz0 rfl (by simp) (by simp) (by simp) ?_ | refine TnS.frzm rfl (by simp) ?_ | exact TnS.mapr rfl | exact TnS.yld rfl | refine ⟨rfl, ?_⟩ | refine TnO.arr ?_ | refine TnO.map ?_ | exact TnO.raw _ | exact TnO.iter _ _ | refine TnS.agg ?_ | refine TnS.tup ?_ | exact TnS.pure (Pure.clo (by assumption) (by assumption)) | refine TnS.clo ?_ ?_ | exact TnS.unk _ | exact TnS.pure (Pure.clo (by assumption) (by assumption))))⟩ .nil)) (fun h => h)
  · have hge : i = c.entries.length := by have := of_decide_eq_false h16; omega
    subst hge
    obtain ⟨n, hnd⟩ : ∃ n, n = c.entries.length := ⟨_, rfl⟩
    rw [← hnd] at hn w0 ⊢
    refine Tr.exit ?_
    refine Tr.seq ?_
    refine Tr.reg [1, 6, 8] (by
        simp only [↓sxd, sxu, ↓zE, ↓exq, St.keep, Nat.reduceBEq, Nat.reduceLT]
        (repeat' (first | rfl | exact trivial | exact fun h => h | exact fun h => (by rw [h]; rfl) | apply And.intro | omega | exact Nat.le_of_ble_eq_true rfl))) ?_
    refine Tr.imp (st' := ⟨[(1, SL ls), (6, .slc 1 1 0 n n), (8, I 0)], [(1, .arr 1 (vI ((List.replicate n (-1))))), (0, .arr 7 [cs c (SP c.same) (SP c.apart)])], 2, 95, [], 0⟩) (Imp.keepAll) (Tr.block (Tr.loopI (fun mm ss => ∃ (k : Nat) (o : List Int), (k ≤ ls.length ∧ refTo n ls k = some o ∧ o.length = n) ∧ ls.length - k = mm ∧ ss = ⟨[(1, SL ls), (6, .slc 1 1 0 n n), (8, I k)], [(1, .arr 1 (vI o)), (0, .arr 7 [cs c (SP c.same) (SP c.apart)])], 2, 95, [], 0⟩) _ ⟨0, (List.replicate n (-1)), ?_, rfl, rfl⟩ ?_))
    · exact ⟨Nat.zero_le _, rfl, List.length_replicate⟩
    rintro mm ss ⟨k, o, hI, rfl, rfl⟩
    obtain ⟨hK, hto, hol⟩ := hI
    refine Tr.seq ?_
    refine Tr.reg [1, 6, 8, 25] (by
        simp only [↓sxd, sxu, ↓zE, ↓exq, ↓zB, St.keep, ↓zJ, Nat.reduceBEq, Nat.reduceLT, sxe, tysW41_91]
        (repeat' (first | rfl | exact trivial | exact fun h => h | exact fun h => (by rw [h]; rfl) | apply And.intro | omega | exact Nat.le_of_ble_eq_true rfl))) ?_
    refine Tr.cond rfl (fun h25 => ?_) (fun h25 => ?_)
    · have hlk : k < ls.length := by have := of_decide_eq_true h25; omega
      have hll := hls _ (getD_memI hlk)
      have hnx : refTo n ls (k + 1) = if (ls.getD k []).length = 0 then none else refOne (ls.getD k []) n k o (ls.getD k []).length := by rw [refTo, hto]
      generalize hL : ls.getD k [] = L at hll hnx
      refine Tr.skip ?_
      refine Tr.seq ?_
      refine Tr.block ?_
      refine Tr.seq ?_
      refine Tr.reg [1, 6, 8, 33] (by
          simp only [↓sxd, sxu, ↓zE, ↓exq, ↓zB, St.keep, ↓zJ, ↓zD, Nat.reduceBEq, Nat.reduceLT, sxe, tysW41_91, hlk, hL]
          (repeat' (first | rfl | exact trivial | exact fun h => h | exact fun h => (by rw [h]; rfl) | apply And.intro | omega | exact Nat.le_of_ble_eq_true rfl))) ?_
      refine Tr.cond rfl (fun h33 => ?_) (fun h33 => ?_)
      · have h0 : L.length = 0 := by have := beq_iff_eq.1 h33; omega
        have hf : ofS n ls = none := ofS_none hlk (by rw [hnx, if_pos h0])
        rw [hf]
        refine Tr.reg [4, 5] (by
            simp only [↓sxd, sxu, ↓zE, ↓exq, St.keep, Nat.reduceBEq, Nat.reduceLT]
            (repeat' (first | rfl | exact trivial | exact fun h => h | exact fun h => (by rw [h]; rfl) | apply And.intro | omega | exact Nat.le_of_ble_eq_true rfl))) ?_
        refine Tr.imp (Imp.fin (tm' := [(4, SI []), (5, B false)]) ?_) ?_
        · exact .cons rfl (TnS.dxd _) (.cons rfl (TnS.d _) trivial)
        refine Tr.ret ?_
        (refine ⟨.inr rfl, ?_⟩; first | rfl | exact ⟨rfl, rfl, trivial⟩ | exact ⟨rfl, rfl, rfl, trivial⟩ | (simp only [Res, ResL, ResOK, ↓sxd, sxu, ↓zE, ↓zC, zK, ↓exP, ↓exq, ↓zB, St.keep, ↓zH, ↓zL, ↓zJ, ↓zD, ↓zI, ↓zG, ↓zQ, ↓zA, Nat.reduceBEq, Nat.reduceAdd, Nat.reduceLT, Nat.reduceMul, Nat.reduceSub, Nat.reduceLeDiff, Nat.reduceEqDiff, Int.reduceLE, Int.reduceLT, Int.reduceToNat, reduceIte, implies_true, sxe, tysW41_91]; (repeat' (first | rfl | exact trivial | exact fun h => h | exact fun h => (by rw [h]; rfl) | apply And.intro | omega | exact Nat.le_of_ble_eq_true rfl))))
      · have h0 : ¬ L.length = 0 := fun hc => by rw [hc] at h33; cases h33
        rw [if_neg h0] at hnx
        refine Tr.skip ?_
        refine Tr.reg [1, 6, 8, 9] (by
            simp only [↓sxd, sxu, ↓zE, ↓exq, St.keep, Nat.reduceBEq, Nat.reduceLT]
            (repeat' (first | rfl | exact trivial | exact fun h => h | exact fun h => (by rw [h]; rfl) | apply And.intro | omega | exact Nat.le_of_ble_eq_true rfl))) ?_
        refine Tr.imp (st' := ⟨[(1, SL ls), (6, .slc 1 1 0 n n), (8, I k), (9, I 0)], [(1, .arr 1 (vI o)), (0, .arr 7 [cs c (SP c.same) (SP c.apart)])], 2, 95, [], 0⟩) (Imp.keepAll) (Tr.block (Tr.loopI (fun mm ss => ∃ (i : Nat) (o2 : List Int), (i ≤ L.length ∧ refOne L n k o i = some o2 ∧ o2.length = n) ∧ L.length - i = mm ∧ ss = ⟨[(1, SL ls), (6, .slc 1 1 0 n n), (8, I k), (9, I i)], [(1, .arr 1 (vI o2)), (0, .arr 7 [cs c (SP c.same) (SP c.apart)])], 2, 95, [], 0⟩) _ ⟨0, o, ?_, rfl, rfl⟩ ?_))
        · exact ⟨Nat.zero_le _, rfl, hol⟩
        rintro mm ss ⟨i, o2, hI, rfl, rfl⟩
        obtain ⟨hI, hone, ho2⟩ := hI
        refine Tr.seq ?_
        refine Tr.reg [1, 6, 8, 9, 40] (by
            simp only [↓sxd, sxu, ↓zE, ↓exq, ↓zB, St.keep, ↓zJ, ↓zD, Nat.reduceBEq, Nat.reduceLT, sxe, tysW41_91, hlk, hL]
            (repeat' (first | rfl | exact trivial | exact fun h => h | exact fun h => (by rw [h]; rfl) | apply And.intro | omega | exact Nat.le_of_ble_eq_true rfl))) ?_
        refine Tr.cond rfl (fun h40 => ?_) (fun h40 => ?_)
        · have hlt : i < L.length := by have := of_decide_eq_true h40; omega
          have hi1 : i - 1 < L.length := by omega
          have hst := refOne_step hone
          refine Tr.skip ?_
          refine Tr.seq ?_
          refine Tr.block ?_
          refine Tr.reg [1, 6, 8, 9, 10] (by
              simp only [↓sxd, sxu, ↓zE, ↓exq, St.keep, ↓zD, Nat.reduceBEq, Nat.reduceLT, sxe, tysW41_91, hlk, hL, hlt]
              (repeat' (first | rfl | exact trivial | exact fun h => h | exact fun h => (by rw [h]; rfl) | apply And.intro | omega | exact Nat.le_of_ble_eq_true rfl))) ?_
          refine Tr.seq ?_
          refine Tr.reg [1, 6, 8, 9, 10, 78] (by
              simp only [↓sxd, sxu, ↓zE, ↓exq, ↓zB, St.keep, ↓zJ, Nat.reduceBEq, Nat.reduceLT, tysW41_91, w0]
              (repeat ((with_reducible refine And.intro ?_ ?_); (focus (first | with_reducible rfl | trivial | exact fun h => h | exact fun h => (by rw [h]; rfl) | omega | assumption))))
              refine CallO.use (In_c _ _ _ _) ?_
              try simp only [↓sxd, sxu, ↓zE, ↓exq, ↓zL, Nat.reduceLT]
              iterate 2
                (repeat ((with_reducible refine And.intro ?_ ?_); (focus (first | with_reducible rfl | trivial | exact fun h => h | exact fun h => (by rw [h]; rfl) | omega | assumption))))
                refine GdO.mk _ (fun hg => by simp only [sxu, ↓exq, Nat.reduceBEq, hg]; (repeat' (first | rfl | exact trivial | exact fun h => h | exact fun h => (by rw [h]; rfl) | apply And.intro | omega | exact Nat.le_of_ble_eq_true rfl))) ?_
                simp only [↓sxd, sxu, ↓zE, Nat.reduceBEq, Nat.reduceLT]
              (repeat ((with_reducible refine And.intro ?_ ?_); (focus (first | with_reducible rfl | trivial | exact fun h => h | exact fun h => (by rw [h]; rfl) | omega | assumption))))
              refine GdO.mk (.ptr 1 (L.getD i 0).toNat 0) (fun hg => by
                have hg2 : (decide (L.getD i 0 ≥ 0) && decide (L.getD i 0 ≤ (n : Int) - 1)) = true := by simpa only [Bool.not_not] using hg
                rw [Bool.and_eq_true, decide_eq_true_eq, decide_eq_true_eq] at hg2
                have q1 : 0 ≤ L.getD i 0 := hg2.1
                have q2 : L.getD i 0 < (n : Int) := by omega
                simp only [↓sxd, sxu, ↓exq, Nat.reduceBEq, tysW41_91, hg]
                (repeat' (first | rfl | exact trivial | exact fun h => h | exact fun h => (by rw [h]; rfl) | apply And.intro | omega | exact Nat.le_of_ble_eq_true rfl))) ?_
              try simp only [↓sxd, sxu, ↓zE, Nat.reduceBEq, Nat.reduceLT]
              (repeat ((with_reducible refine And.intro ?_ ?_); (focus (first | with_reducible rfl | trivial | exact fun h => h | exact fun h => (by rw [h]; rfl) | omega | assumption))))
              refine GdO.mk (I (o2.getD (L.getD i 0).toNat 0)) (fun hg => by
                have hg2 : (decide (L.getD i 0 ≥ 0) && decide (L.getD i 0 ≤ (n : Int) - 1)) = true := by simpa only [Bool.not_not] using hg
                rw [Bool.and_eq_true, decide_eq_true_eq, decide_eq_true_eq] at hg2
                have q3 : (L.getD i 0).toNat < o2.length := by omega
                simp only [sxu, ↓exq, ↓zD, Nat.reduceLT, tysW41_91, hg, q3, vI_getD q3]
                (repeat' (first | rfl | exact trivial | exact fun h => h | exact fun h => (by rw [h]; rfl) | apply And.intro | omega | exact Nat.le_of_ble_eq_true rfl))) ?_
              try simp only [↓sxd, sxu, ↓zE, Nat.reduceBEq, Nat.reduceLT]
              iterate 10
                (repeat ((with_reducible refine And.intro ?_ ?_); (focus (first | with_reducible rfl | trivial | exact fun h => h | exact fun h => (by rw [h]; rfl) | omega | assumption))))
                refine GdO.mk _ (fun hg => by simp only [↓sxd, sxu, ↓exq, ↓zD, Nat.reduceBEq, Nat.reduceLT, sxe, tysW41_91, hlk, hL, hg]; (repeat' (first | rfl | exact trivial | exact fun h => h | exact fun h => (by rw [h]; rfl) | apply And.intro | omega | exact Nat.le_of_ble_eq_true rfl))) ?_
                simp only [↓sxd, sxu, ↓zE, ↓exq, ↓zH, Nat.reduceBEq, Nat.reduceLT]
              (repeat ((with_reducible refine And.intro ?_ ?_); (focus (first | with_reducible rfl | trivial | exact fun h => h | exact fun h => (by rw [h]; rfl) | omega | assumption))))
              refine GdO.mk (I ((i - 1 : Nat) : Int)) (fun hg => by
                have h0 : 0 < i := by
                  rw [Bool.and_eq_true, decide_eq_true_eq] at hg; omega
                have hw : IntKind.i64.wrap ((i : Int) - 1) = ((i - 1 : Nat) : Int) := by rw [wr (by omega) (by omega)]; omega
                simp only [↓sxd, sxu, ↓exq, hg, hw]
                (repeat' (first | rfl | exact trivial | exact fun h => h | exact fun h => (by rw [h]; rfl) | apply And.intro | omega | exact Nat.le_of_ble_eq_true rfl))) ?_
              try simp only [↓sxd, sxu, ↓zE, Nat.reduceBEq, Nat.reduceLT]
              iterate 3
                (repeat ((with_reducible refine And.intro ?_ ?_); (focus (first | with_reducible rfl | trivial | exact fun h => h | exact fun h => (by rw [h]; rfl) | omega | assumption))))
                refine GdO.mk _ (fun hg => by simp only [↓sxd, sxu, ↓exq, ↓zD, Nat.reduceBEq, Nat.reduceLT, sxe, tysW41_91, hi1, hg]; (repeat' (first | rfl | exact trivial | exact fun h => h | exact fun h => (by rw [h]; rfl) | apply And.intro | omega | exact Nat.le_of_ble_eq_true rfl))) ?_
                simp only [↓sxd, sxu, ↓zE, Nat.reduceBEq, Nat.reduceLT]
              (repeat ((with_reducible refine And.intro ?_ ?_); (focus (first | with_reducible rfl | trivial | exact fun h => h | exact fun h => (by rw [h]; rfl) | omega | assumption))))
              first | refine GdO.and (fun hg => by simp only [sxu, Nat.reduceBEq, pickArgs, hg]; (repeat' (first | rfl | exact trivial | exact fun h => h | exact fun h => (by rw [h]; rfl) | apply And.intro | omega | exact Nat.le_of_ble_eq_true rfl))) ?_ | refine GdO.mk _ (fun hg => by simp only [↓sxd, sxu, ↓zE, ↓zC, zK, ↓exP, ↓exq, ↓zB, St.keep, ↓zH, ↓zL, ↓zJ, ↓zD, ↓zI, ↓zG, ↓zQ, ↓zA, Nat.reduceBEq, Nat.reduceAdd, Nat.reduceLT, Nat.reduceMul, Nat.reduceSub, Nat.reduceLeDiff, Nat.reduceEqDiff, Int.reduceLE, Int.reduceLT, Int.reduceToNat, reduceIte, implies_true, sxe, tysW41_91, w0, hlk, hL, hi1, hlt, hg, if_true]; (repeat' (first | rfl | exact trivial | exact fun h => h | exact fun h => (by rw [h]; rfl) | apply And.intro | omega | exact Nat.le_of_ble_eq_true rfl))) ?_
              simp only [↓sxd, sxu, ↓zE, ↓exq, ↓zH, Nat.reduceBEq, Nat.reduceLT]
              (repeat' (first | rfl | exact trivial | exact fun h => h | exact fun h => (by rw [h]; rfl) | apply And.intro | omega | exact Nat.le_of_ble_eq_true rfl))) ?_
          refine Tr.cond rfl (fun h78 => ?_) (fun h78 => ?_)
          · have hbad : refOne L n k o (i + 1) = none := by
              rw [hst, if_pos]
              have hi0 : decide ((i : Int) > 0) = decide (0 < i) := decide_eq_decide.2 (by omega)
              rw [hi0] at h78
              exact h78
            have hno : refTo n ls (k + 1) = none := by
              have := refOne_none hbad (L.length - (i + 1))
              rw [show i + 1 + (L.length - (i + 1)) = L.length by omega] at this
              rw [hnx, this]
            have hf : ofS n ls = none := ofS_none hlk hno
            rw [hf]
            refine Tr.reg [4, 5] (by
                simp only [↓sxd, sxu, ↓zE, ↓exq, St.keep, Nat.reduceBEq, Nat.reduceLT]
                (repeat' (first | rfl | exact trivial | exact fun h => h | exact fun h => (by rw [h]; rfl) | apply And.intro | omega | exact Nat.le_of_ble_eq_true rfl))) ?_
            refine Tr.imp (Imp.fin (tm' := [(4, SI []), (5, B false)]) ?_) ?_
            · exact .cons rfl (TnS.dxd _) (.cons rfl (TnS.d _) trivial)
            refine Tr.ret ?_
            (refine ⟨.inr rfl, ?_⟩; first | rfl | exact ⟨rfl, rfl, trivial⟩ | exact ⟨rfl, rfl, rfl, trivial⟩ | (simp only [Res, ResL, ResOK, ↓sxd, sxu, ↓zE, ↓zC, zK, ↓exP, ↓exq, ↓zB, St.keep, ↓zH, ↓zL, ↓zJ, ↓zD, ↓zI, ↓zG, ↓zQ, ↓zA, Nat.reduceBEq, Nat.reduceAdd, Nat.reduceLT, Nat.reduceMul, Nat.reduceSub, Nat.reduceLeDiff, Nat.reduceEqDiff, Int.reduceLE, Int.reduceLT, Int.reduceToNat, reduceIte, implies_true, sxe, tysW41_91]; (repeat' (first | rfl | exact trivial | exact fun h => h | exact fun h => (by rw [h]; rfl) | apply And.intro | omega | exact Nat.le_of_ble_eq_true rfl))))
          · have hgood : refOne L n k o (i + 1) = some (o2.set (L.getD i 0).toNat k) := by
              rw [hst, if_neg]
              have hi0 : decide ((i : Int) > 0) = decide (0 < i) := decide_eq_decide.2 (by omega)
              rw [hi0] at h78
              rw [Bool.not_eq_true]
              exact h78
            have hxr : 0 ≤ L.getD i 0 ∧ L.getD i 0 ≤ (n : Int) - 1 := by
              simp only [Bool.or_eq_false_iff, Bool.not_eq_false', Bool.and_eq_true, decide_eq_true_eq] at h78
              exact h78.1.1
            obtain ⟨y, hy⟩ := Int.eq_ofNat_of_zero_le hxr.1
            have hyt : (L.getD i 0).toNat = y := by omega
            rw [hyt] at hgood
            have hyn : y < n := by omega
            have hyo : y < o2.length := by omega
            refine Tr.skip ?_
            refine Tr.reg1 [1, 6, 8, 9] (by
                simp only [↓sxd, sxu, ↓zE, ↓exq, St.keep, Nat.reduceBEq, Nat.reduceLT, Nat.reduceEqDiff, sxe, tysW41_91, hy, hyn, hyo, vI_getD hyo, vI_set]
                (repeat' (first | rfl | exact trivial | exact fun h => h | exact fun h => (by rw [h]; rfl) | apply And.intro | omega | exact Nat.le_of_ble_eq_true rfl))) ?_
            have w3 : IntKind.i64.wrap ((i : Int) + 1) = ((i + 1 : Nat) : Int) := by rw [wr (by omega) (by omega)]; rfl
            refine Tr.reg1 [1, 6, 8, 9] (by
                simp only [↓sxd, sxu, ↓zE, ↓exq, St.keep, Nat.reduceBEq, Nat.reduceLT, w3]
                (repeat' (first | rfl | exact trivial | exact fun h => h | exact fun h => (by rw [h]; rfl) | apply And.intro | omega | exact Nat.le_of_ble_eq_true rfl))) ?_
            exact ⟨_, _, by omega, Imp.keepAll, ⟨i + 1, o2.set y k, ⟨hlt, hgood, by rw [List.length_set]; exact ho2⟩, rfl, rfl⟩⟩
        · have hge : i = L.length := by have := of_decide_eq_false h40; omega
          subst hge
          rw [hone] at hnx
          refine Tr.exit ?_
          have w4 : IntKind.i64.wrap ((k : Int) + 1) = ((k + 1 : Nat) : Int) := by rw [wr (by omega) (by omega)]; rfl
          refine Tr.reg1 [1, 6, 8] (by
              simp only [↓sxd, sxu, ↓zE, ↓exq, St.keep, Nat.reduceBEq, Nat.reduceLT, w4]
              (repeat' (first | rfl | exact trivial | exact fun h => h | exact fun h => (by rw [h]; rfl) | apply And.intro | omega | exact Nat.le_of_ble_eq_true rfl))) ?_
          exact ⟨_, _, by omega, Imp.keepAll, ⟨k + 1, o2, ⟨hlk, hnx, ho2⟩, rfl, rfl⟩⟩
    · have hke : k = ls.length := by have := of_decide_eq_false h25; omega
      subst hke
      refine Tr.exit ?_
      refine Tr.seq ?_
      refine Tr.reg [6, 11] (by
          simp only [↓sxd, sxu, ↓zE, ↓exq, St.keep, Nat.reduceBEq, Nat.reduceLT]
          (repeat' (first | rfl | exact trivial | exact fun h => h | exact fun h => (by rw [h]; rfl) | apply And.intro | omega | exact Nat.le_of_ble_eq_true rfl))) ?_
      refine Tr.imp (st' := ⟨[(6, .slc 1 1 0 n n), (11, I 0)], [(1, .arr 1 (vI o)), (0, .arr 7 [cs c (SP c.same) (SP c.apart)])], 2, 95, [], 0⟩) (Imp.keepAll) (Tr.block (Tr.loopI (fun mm ss => ∃ (i : Nat), (i ≤ n ∧ ∀ j, j < i → 0 ≤ o.getD j 0) ∧ n - i = mm ∧ ss = ⟨[(6, .slc 1 1 0 n n), (11, I i)], [(1, .arr 1 (vI o)), (0, .arr 7 [cs c (SP c.same) (SP c.apart)])], 2, 95, [], 0⟩) _ ⟨0, ?_, rfl, rfl⟩ ?_))
      · exact ⟨Nat.zero_le _, fun j hj => absurd hj (Nat.not_lt_zero _)⟩
      rintro mm ss ⟨i, hI, rfl, rfl⟩
      obtain ⟨hI, hall⟩ := hI
      have hos : ofS n ls = if o.all (fun x => decide (0 ≤ x)) then some o else none := by unfold ofS; rw [hto]
      refine Tr.seq ?_
      refine Tr.reg [6, 11, 86] (by
          simp only [↓sxd, sxu, ↓zE, ↓exq, ↓zB, St.keep, ↓zJ, Nat.reduceBEq, Nat.reduceLT, sxe, tysW41_91]
          (repeat' (first | rfl | exact trivial | exact fun h => h | exact fun h => (by rw [h]; rfl) | apply And.intro | omega | exact Nat.le_of_ble_eq_true rfl))) ?_
      refine Tr.cond rfl (fun h86 => ?_) (fun h86 => ?_)
      · have hlt : i < n := by have := of_decide_eq_true h86; omega
        have hio : i < o.length := by omega
        refine Tr.skip ?_
        refine Tr.seq ?_
        refine Tr.block ?_
        refine Tr.reg [6, 11, 93] (by
            simp only [↓sxd, sxu, ↓zE, ↓exq, St.keep, ↓zD, Nat.reduceBEq, Nat.reduceLT, sxe, tysW41_91, hlt, hio, vI_getD hio]
            (repeat' (first | rfl | exact trivial | exact fun h => h | exact fun h => (by rw [h]; rfl) | apply And.intro | omega | exact Nat.le_of_ble_eq_true rfl))) ?_
        refine Tr.cond rfl (fun h93 => ?_) (fun h93 => ?_)
        · have hneg : o.getD i 0 < 0 := of_decide_eq_true h93
          have hf : ofS n ls = none := by
            rw [hos, if_neg]
            rw [List.all_eq_true]
            intro hc
            have := of_decide_eq_true (hc _ (getD_mem (d := 0) hio))
            omega
          rw [hf]
          refine Tr.reg [4, 5] (by
              simp only [↓sxd, sxu, ↓zE, ↓exq, St.keep, Nat.reduceBEq, Nat.reduceLT]
              (repeat' (first | rfl | exact trivial | exact fun h => h | exact fun h => (by rw [h]; rfl) | apply And.intro | omega | exact Nat.le_of_ble_eq_true rfl))) ?_
          refine Tr.imp (Imp.fin (tm' := [(4, SI []), (5, B false)]) ?_) ?_
          · exact .cons rfl (TnS.dxd _) (.cons rfl (TnS.d _) trivial)
          refine Tr.ret ?_
          (refine ⟨.inr rfl, ?_⟩; first | rfl | exact ⟨rfl, rfl, trivial⟩ | exact ⟨rfl, rfl, rfl, trivial⟩ | (simp only [Res, ResL, ResOK, ↓sxd, sxu, ↓zE, ↓zC, zK, ↓exP, ↓exq, ↓zB, St.keep, ↓zH, ↓zL, ↓zJ, ↓zD, ↓zI, ↓zG, ↓zQ, ↓zA, Nat.reduceBEq, Nat.reduceAdd, Nat.reduceLT, Nat.reduceMul, Nat.reduceSub, Nat.reduceLeDiff, Nat.reduceEqDiff, Int.reduceLE, Int.reduceLT, Int.reduceToNat, reduceIte, implies_true, sxe, tysW41_91]; (repeat' (first | rfl | exact trivial | exact fun h => h | exact fun h => (by rw [h]; rfl) | apply And.intro | omega | exact Nat.le_of_ble_eq_true rfl))))
        · have hnn : 0 ≤ o.getD i 0 := by have := of_decide_eq_false h93; omega
          refine Tr.skip ?_
          have w5 : IntKind.i64.wrap ((i : Int) + 1) = ((i + 1 : Nat) : Int) := by rw [wr (by omega) (by omega)]; rfl
          refine Tr.reg1 [6, 11] (by
              simp only [↓sxd, sxu, ↓zE, ↓exq, St.keep, Nat.reduceBEq, Nat.reduceLT, w5]
              (repeat' (first | rfl | exact trivial | exact fun h => h | exact fun h => (by rw [h]; rfl) | apply And.intro | omega | exact Nat.le_of_ble_eq_true rfl))) ?_
          exact ⟨_, _, by omega, Imp.keepAll, ⟨i + 1, ⟨hlt, fun j hj => by
            by_cases hji : j = i
            · subst hji; exact hnn
            · exact hall j (by omega)⟩, rfl, rfl⟩⟩
      · have hge : i = n := by have := of_decide_eq_false h86; omega
        have hf : ofS n ls = some o := by
          rw [hos, if_pos]
          exact allI_getD (p := fun x => decide (0 ≤ x)) fun j hj => decide_eq_true (hall j (by omega))
        rw [hf]
        refine Tr.exit ?_
        refine Tr.reg [4, 5] (by
            simp only [↓sxd, sxu, ↓zE, ↓exq, St.keep, Nat.reduceBEq, Nat.reduceLT]
            (repeat' (first | rfl | exact trivial | exact fun h => h | exact fun h => (by rw [h]; rfl) | apply And.intro | omega | exact Nat.le_of_ble_eq_true rfl))) ?_
        refine Tr.imp (Imp.fin (tm' := [(4, SI o), (5, B true)]) ?_) ?_
        · exact .cons rfl (TnS.frz0 (es := vI o) rfl (by simp) (by simp) (by rw [vI_len]; exact hol) (vI_fz _)) (.cons rfl (TnS.d _) trivial)
        refine Tr.ret ?_
        (refine ⟨.inr rfl, ?_⟩; first | rfl | exact ⟨rfl, rfl, trivial⟩ | exact ⟨rfl, rfl, rfl, trivial⟩ | (simp only [Res, ResL, ResOK, ↓sxd, sxu, ↓zE, ↓zC, zK, ↓exP, ↓exq, ↓zB, St.keep, ↓zH, ↓zL, ↓zJ, ↓zD, ↓zI, ↓zG, ↓zQ, ↓zA, Nat.reduceBEq, Nat.reduceAdd, Nat.reduceLT, Nat.reduceMul, Nat.reduceSub, Nat.reduceLeDiff, Nat.reduceEqDiff, Int.reduceLE, Int.reduceLT, Int.reduceToNat, reduceIte, implies_true, sxe, tysW41_91]; (repeat' (first | rfl | exact trivial | exact fun h => h | exact fun h => (by rw [h]; rfl) | apply And.intro | omega | exact Nat.le_of_ble_eq_true rfl))))
def Census.isAsg (c : Census) (ls : List (List Int)) : Bool := match ofS c.entries.length ls with
  | none => false
  | some o => c.allowB (o.map Int.toNat) && c.sumsB ls.length
theorem refOne_len {l : List Int} {n k : Nat} {o0 : List Int} : ∀ (i : Nat) (o : List Int), refOne l n k o0 i = some o → o.length = o0.length
  | 0, o, h => by simp only [refOne, Option.some.injEq] at h; rw [h]
  | i + 1, o, h => by
    rw [refOne] at h
    split at h
    · cases h
    · rename_i o1 h1
      split at h
      · cases h
      · cases h
        rw [List.length_set, refOne_len i o1 h1]
theorem refTo_len {n : Nat} {ls : List (List Int)} : ∀ (k : Nat) (o : List Int), refTo n ls k = some o → o.length = n
  | 0, o, h => by simp only [refTo, Option.some.injEq] at h; rw [← h, List.length_replicate]
  | k + 1, o, h => by
    rw [refTo] at h
    split at h
    · cases h
    · rename_i o1 h1
      split at h
      · cases h
      · rw [refOne_len _ _ h, refTo_len k o1 h1]
theorem ofS_some {n : Nat} {ls : List (List Int)} {o : List Int} (h : ofS n ls = some o) : refTo n ls ls.length = some o ∧ o.length = n ∧ ∀ x ∈ o, 0 ≤ x := by
  unfold ofS at h
  split at h
  · cases h
  · rename_i o1 h1
    split at h
    · rename_i h2
      cases h
      exact ⟨h1, refTo_len _ _ h1, fun x hx => of_decide_eq_true (List.all_eq_true.1 h2 x hx)⟩
    · cases h
theorem nats_toNat {o : List Int} (h : ∀ x ∈ o, 0 ≤ x) : nats (o.map Int.toNat) = o := by
  unfold nats
  rw [List.map_map]
  conv => rhs; rw [← List.map_id o]
  exact List.map_congr_left fun x hx => by have := h x hx; show ((x.toNat : Nat) : Int) = x; omega
abbrev tysW41_51 := And.intro ty.sz0 <| And.intro ty.agg0 <| And.intro ty.elem0 <| And.intro ty.sz3 <| And.intro ty.agg3 <| And.intro ty.elem3 <| And.intro ty.zero3 <| And.intro ty.und3 <| And.intro ty.sz4 <| And.intro ty.agg4 <| And.intro ty.elem4 <| And.intro ty.zero4 <| And.intro ty.und4 <| And.intro ty.sz27 <| And.intro ty.agg27 <| And.intro ty.fld27_0 <| And.intro ty.fld27_1 <| And.intro ty.fld27_2 <| And.intro ty.fld27_3 <| And.intro ty.fld27_4 <| And.intro ty.elem27 <| And.intro ty.zero27 <| And.intro ty.pl27 <| And.intro ty.sz39 <| And.intro ty.agg39 <| And.intro ty.elem39 <| And.intro ty.by39 <| And.intro ty.ez39 <| And.intro ty.zero39 <| And.intro ty.und39 <| And.intro ty.sz43 <| And.intro ty.agg43 <| And.intro ty.elem43 <| And.intro ty.by43 <| And.intro ty.ez43 <| And.intro ty.zero43 <| And.intro ty.und43 <| And.intro ty.sz148 <| And.intro ty.agg148 <| ty.elem148
set_option maxHeartbeats 4000000 in
theorem IsAssignment_c (c : Census) (h : Fine c) (ls : List (List Int)) (hl : ls.length ≤ 13) (hls : ∀ l ∈ ls, l.length ≤ 13) : CallP Tryd.prog G0 51 [c.s, SL ls] (B (c.isAsg ls)) := by
  have h10 := h.n10
  have hO := Of_c c (by omega) ls hl hls
  obtain ⟨V, bb, hV, hval⟩ : ∃ (V : List Nat) (bb : Bool), (bb = true → (ofS c.entries.length ls).getD [] = nats V ∧ V.length = c.entries.length) ∧ (ofS c.entries.length ls).isSome = bb ∧ c.isAsg ls = (bb && c.allowB V && c.sumsB ls.length) := by
    cases ho : ofS c.entries.length ls with
    | none => exact ⟨[], false, fun h => (by cases h), rfl, by unfold Census.isAsg; rw [ho]; rfl⟩
    | some o =>
      obtain ⟨_, o2, o3⟩ := ofS_some ho
      refine ⟨o.map Int.toNat, true, fun _ => ⟨(nats_toNat o3).symm, by rw [List.length_map, o2]⟩, rfl, ?_⟩
      unfold Census.isAsg; rw [ho]; rfl
  obtain ⟨hb, hval⟩ := hval
  rw [hb] at hO
  generalize (ofS c.entries.length ls).getD [] = O at hO hV
  rw [hval]
  refine CallP.body 25 [.tmp 4] Tryd.func51 (by kernel_rfl) rfl rfl rfl (by repeat' (first | exact Pure.d _ | exact Pure.dx _ | exact Pure.dp _ | exact fa_nil | refine fa_cons ?_ ?_ | refine Pure.agg ?_ | refine Pure.tup ?_ | refine Pure.clo ?_ ?_ | refine Pure.fp ?_ | exact Pure.mapd _ | assumption)) (by repeat' (first | exact Pure.d _ | exact Pure.dx _ | exact Pure.dp _ | exact fa_nil | refine fa_cons ?_ ?_ | refine Pure.agg ?_ | refine Pure.tup ?_ | refine Pure.clo ?_ ?_ | refine Pure.fp ?_ | exact Pure.mapd _ | assumption)) ?_
  refine Tr.reg [1, 2] (by
      simp only [↓sxd, sxu, ↓zE, ↓exq, St.keep, ↓zI, Nat.reduceBEq, Nat.reduceAdd, Nat.reduceLT, Nat.reduceEqDiff]
      (repeat' (first | rfl | exact trivial | exact fun h => h | exact fun h => (by rw [h]; rfl) | apply And.intro | omega | exact Nat.le_of_ble_eq_true rfl))) ?_
  refine Tr.reg [1, 2, 5, 6] (by
      simp only [↓sxd, sxu, ↓zE, ↓exq, St.keep, ↓zD, Nat.reduceBEq, Nat.reduceAdd, Nat.reduceLT, tysW41_51]
      (repeat ((with_reducible refine And.intro ?_ ?_); (focus (first | with_reducible rfl | trivial | exact fun h => h | exact fun h => (by rw [h]; rfl) | omega | assumption))))
      refine CallO.use (hO) ?_
      try simp only [↓sxd, sxu, ↓zE, ↓exq, ↓zN, Nat.reduceBEq, Nat.reduceAdd, Nat.reduceLT]
      (repeat' (first | rfl | exact trivial | exact fun h => h | exact fun h => (by rw [h]; rfl) | apply And.intro | omega | exact Nat.le_of_ble_eq_true rfl))) ?_
  refine Tr.reg [4] (by
      simp only [↓sxd, sxu, ↓zE, ↓exq, St.keep, Nat.reduceBEq, Nat.reduceLT]
      iterate 2
        (repeat ((with_reducible refine And.intro ?_ ?_); (focus (first | with_reducible rfl | trivial | exact fun h => h | exact fun h => (by rw [h]; rfl) | omega | assumption))))
        refine GdO.mk _ (fun hg => by simp only [sxu, ↓exq, ↓zD, Nat.reduceBEq, Nat.reduceAdd, Nat.reduceLT, tysW41_51, hg]; (repeat' (first | rfl | exact trivial | exact fun h => h | exact fun h => (by rw [h]; rfl) | apply And.intro | omega | exact Nat.le_of_ble_eq_true rfl))) ?_
        simp only [↓sxd, sxu, ↓zE, Nat.reduceBEq, Nat.reduceLT]
      (repeat ((with_reducible refine And.intro ?_ ?_); (focus (first | with_reducible rfl | trivial | exact fun h => h | exact fun h => (by rw [h]; rfl) | omega | assumption))))
      refine GdO.mk (B (c.allowB V)) (fun hg => by
        obtain ⟨v1, v2⟩ := hV hg
        simp only [sxu, ↓exq, ↓zB, Nat.reduceBEq, hg, v1]
        (repeat ((with_reducible refine And.intro ?_ ?_); (focus (first | with_reducible rfl | trivial | exact fun h => h | exact fun h => (by rw [h]; rfl) | omega | assumption))))
        exact CallP.use (Allowed_c c h V v2) ⟨rfl, rfl, rfl⟩) ?_
      try simp only [↓sxd, sxu, ↓zE, ↓exq, ↓zH, Nat.reduceBEq, Nat.reduceLT]
      iterate 3
        (repeat ((with_reducible refine And.intro ?_ ?_); (focus (first | with_reducible rfl | trivial | exact fun h => h | exact fun h => (by rw [h]; rfl) | omega | assumption))))
        refine GdO.mk _ (fun hg => by simp only [sxu, ↓exq, ↓zB, ↓zJ, ↓zD, Nat.reduceBEq, Nat.reduceAdd, Nat.reduceLT, sxe, tysW41_51, hg]; (repeat' (first | rfl | exact trivial | exact fun h => h | exact fun h => (by rw [h]; rfl) | apply And.intro | omega | exact Nat.le_of_ble_eq_true rfl))) ?_
        simp only [↓sxd, sxu, ↓zE, Nat.reduceBEq, Nat.reduceLT]
      (repeat ((with_reducible refine And.intro ?_ ?_); (focus (first | with_reducible rfl | trivial | exact fun h => h | exact fun h => (by rw [h]; rfl) | omega | assumption))))
      refine GdO.mk (B (c.sumsB ls.length)) (fun hg => by
        simp only [sxu, ↓exq, ↓zB, Nat.reduceBEq, hg]
        (repeat ((with_reducible refine And.intro ?_ ?_); (focus (first | with_reducible rfl | trivial | exact fun h => h | exact fun h => (by rw [h]; rfl) | omega | assumption))))
        exact CallP.use (Sums_c c h.lims ls.length (by omega) (by omega)) ⟨rfl, rfl, rfl⟩) ?_
      try simp only [↓sxd, sxu, ↓zE, ↓exq, ↓zH, Nat.reduceBEq, Nat.reduceLT]
      (repeat' (first | rfl | exact trivial | exact fun h => h | exact fun h => (by rw [h]; rfl) | apply And.intro | omega | exact Nat.le_of_ble_eq_true rfl))) ?_
  refine Tr.ret ?_
  (refine ⟨.inr rfl, ?_⟩; first | rfl | exact ⟨rfl, rfl, trivial⟩ | exact ⟨rfl, rfl, rfl, trivial⟩ | (simp only [Res, ResL, ResOK, ↓sxd, sxu, ↓zE, ↓zC, zK, ↓exP, ↓exq, ↓zB, St.keep, ↓zH, ↓zL, ↓zJ, ↓zD, ↓zN, ↓zI, Nat.reduceBEq, Nat.reduceAdd, Nat.reduceLT, Nat.reduceMul, Nat.reduceSub, Nat.reduceLeDiff, Nat.reduceEqDiff, Int.reduceLE, Int.reduceLT, Int.reduceToNat, reduceIte, implies_true, sxe, tysW41_51]; (repeat' (first | rfl | exact trivial | exact fun h => h | exact fun h => (by rw [h]; rfl) | apply And.intro | omega | exact Nat.le_of_ble_eq_true rfl))))
end Go.Proofs.YtcnkbdfkjhlbiaaDoor
namespace Go.Proofs.YtcnkbdfkjhlbiaaDoor
set_option maxRecDepth 8000
structure OneRel (n k : Nat) (o0 : List Int) (own s2 : Nat) (o2 : List Int) : Prop where
  len : o2.length = n
  seen : ∀ e, e < n → (s2.testBit e = true ↔ 0 ≤ o2.getD e 0)
  own : ∀ e, e < n → (own.testBit e = true ↔ o2.getD e 0 = (k : Int))
  rest : ∀ e, e < n → o2.getD e 0 ≠ (k : Int) → o2.getD e 0 = o0.getD e 0
  fresh : ∀ e, e < n → o2.getD e 0 = (k : Int) → o0.getD e 0 < 0
theorem or_pow (a x e : Nat) : (a ||| 2 ^ x).testBit e = true ↔ a.testBit e = true ∨ e = x := by
  rw [Nat.testBit_or, Bool.or_eq_true, Nat.testBit_two_pow, decide_eq_true_eq]
  exact or_congr_right ⟨Eq.symm, Eq.symm⟩
theorem one_law {n k sn : Nat} {l o0 : List Int} (h0 : o0.length = n) (hs : ∀ e, e < n → (sn.testBit e = true ↔ 0 ≤ o0.getD e 0)) (hk : ∀ e, e < n → o0.getD e 0 < (k : Int)) :
    ∀ i, (asgOne n l sn i = none ∧ refOne l n k o0 i = none) ∨ ∃ own s2 o2, asgOne n l sn i = some (own, s2) ∧ refOne l n k o0 i = some o2 ∧ OneRel n k o0 own s2 o2 ∧ (0 < i → own ≠ 0)
  | 0 => .inr ⟨0, sn, o0, rfl, rfl, ⟨h0, hs, fun e he => by
      rw [Nat.zero_testBit]
      exact ⟨fun h => (by cases h), fun h => by have := hk e he; omega⟩, fun _ _ _ => rfl, fun e he h => by have := hk e he; omega⟩, fun h => absurd h (Nat.lt_irrefl 0)⟩
  | i + 1 => by
    rcases one_law h0 hs hk i with ⟨a, b⟩ | ⟨own, s2, o2, a, b, hr, _⟩
    · exact .inl ⟨by rw [asgOne, a], by rw [refOne, b]⟩
    · rw [asgOne_step a, refOne_step b]
      obtain ⟨x, hx⟩ : ∃ x, x = l.getD i 0 := ⟨_, rfl⟩
      rw [← hx]
      have hcond : (!(within x 0 (n - 1)) || s2.testBit x.toNat || (decide (0 < i) && decide (x ≤ l.getD (i - 1) 0))) = (!(within x 0 (n - 1)) || decide (o2.getD x.toNat 0 ≥ 0) || (decide (0 < i) && decide (x ≤ l.getD (i - 1) 0))) := by
        cases hw : within x 0 (n - 1) with
        | false => rfl
        | true =>
          have hxn : x.toNat < n := by
            simp only [within, Bool.and_eq_true, decide_eq_true_eq] at hw; omega
          have : s2.testBit x.toNat = decide (o2.getD x.toNat 0 ≥ 0) := by
            rw [Bool.eq_iff_iff, hr.seen _ hxn, decide_eq_true_eq]
          rw [this]
      rw [hcond]
      cases hc : (!(within x 0 (n - 1)) || decide (o2.getD x.toNat 0 ≥ 0) || (decide (0 < i) && decide (x ≤ l.getD (i - 1) 0))) with
      | true => exact .inl ⟨by simp, by simp⟩
      | false =>
        right
        have hxn : x.toNat < n := by
          simp only [Bool.or_eq_false_iff, Bool.not_eq_false', within, Bool.and_eq_true, decide_eq_true_eq] at hc; omega
        have hx0 : o2.getD x.toNat 0 < 0 := by
          simp only [Bool.or_eq_false_iff, decide_eq_false_iff_not] at hc; omega
        refine ⟨own ||| 2 ^ x.toNat, s2 ||| 2 ^ x.toNat, o2.set x.toNat k, by simp, by simp, ⟨by rw [List.length_set]; exact hr.len, fun e he => ?_, fun e he => ?_, fun e he hne => ?_, fun e he heq => ?_⟩, fun _ hz => ?_⟩
        · rw [or_pow, hr.seen e he, setI_get, hr.len]
          by_cases hex : e = x.toNat
          · rw [if_pos ⟨hex, hxn⟩]
            exact ⟨fun _ => Int.natCast_nonneg _, fun _ => .inr hex⟩
          · rw [if_neg (fun hc => hex hc.1)]
            exact ⟨fun h => h.resolve_right hex, .inl⟩
        · rw [or_pow, hr.own e he, setI_get, hr.len]
          by_cases hex : e = x.toNat
          · rw [if_pos ⟨hex, hxn⟩]
            exact ⟨fun _ => rfl, fun _ => .inr hex⟩
          · rw [if_neg (fun hc => hex hc.1)]
            exact ⟨fun h => h.resolve_right hex, .inl⟩
        · rw [setI_get, hr.len] at hne ⊢
          by_cases hex : e = x.toNat
          · rw [if_pos ⟨hex, hxn⟩] at hne; exact absurd rfl hne
          · rw [if_neg (fun hc => hex hc.1)] at hne ⊢
            exact hr.rest e he hne
        · rw [setI_get, hr.len] at heq
          by_cases hex : e = x.toNat
          · subst hex
            rw [← hr.rest _ hxn (by omega)]; exact hx0
          · rw [if_neg (fun hc => hex hc.1)] at heq
            exact hr.fresh e he heq
        · have := (or_pow own x.toNat x.toNat).2 (.inr rfl)
          rw [hz, Nat.zero_testBit] at this; cases this
def bm (o : List Int) (n j : Nat) : Nat := mask (fun e => o.getD e 0 == (j : Int)) n
theorem bm_test {o : List Int} {n j e : Nat} : (bm o n j).testBit e = true ↔ e < n ∧ o.getD e 0 = (j : Int) := by
  unfold bm
  rw [mask_test, Bool.and_eq_true, decide_eq_true_eq, beq_iff_eq]
theorem bm_lt (o : List Int) (n j : Nat) : bm o n j < 2 ^ n := Nat.lt_pow_two_of_testBit _ fun e he => by
  rw [← Bool.not_eq_true, bm_test]; omega
def goodB (c : Census) (s : Nat) : Prop := c.fitsSet s = true ∧ c.keeps s = true
theorem to_law {c : Census} {n : Nat} (hn : c.entries.length = n) {ls : List (List Int)} : ∀ k,
    (refTo n ls k = none ∧ c.asgTo ls k = none) ∨ ∃ o, refTo n ls k = some o ∧ o.length = n ∧ (∀ e, e < n → o.getD e 0 < (k : Int)) ∧
      (((∀ j, j < k → goodB c (bm o n j)) ∧ ∃ sn, c.asgTo ls k = some sn ∧ sn < 2 ^ n ∧ ∀ e, e < n → (sn.testBit e = true ↔ 0 ≤ o.getD e 0)) ∨ ((¬ ∀ j, j < k → goodB c (bm o n j)) ∧ c.asgTo ls k = none))
  | 0 => .inr ⟨List.replicate n (-1), rfl, List.length_replicate, fun e he => by simp [List.getD_eq_getElem?_getD, he], .inl ⟨fun j hj => absurd hj (Nat.not_lt_zero _), 0, rfl, Nat.two_pow_pos n, fun e he => by
      rw [Nat.zero_testBit]
      simp [List.getD_eq_getElem?_getD, he]⟩⟩
  | k + 1 => by
    rcases to_law hn (ls := ls) k with ⟨a, b⟩ | ⟨o, a, hol, hlt, hcase⟩
    · exact .inl ⟨by rw [refTo, a], by rw [Census.asgTo, b]⟩
    · have hR : refTo n ls (k + 1) = if (ls.getD k []).length = 0 then none else refOne (ls.getD k []) n k o (ls.getD k []).length := by rw [refTo, a]
      have hA : c.asgTo ls (k + 1) = match c.asgTo ls k with | none => none | some sn => match asgOne c.entries.length (ls.getD k []) sn (ls.getD k []).length with | none => none | some x => if x.1 = 0 ∨ c.fitsSet x.1 = false ∨ c.keeps x.1 = false then none else some x.2 := by rw [Census.asgTo] <;> rfl
      rw [hn] at hA
      generalize ls.getD k [] = L at hR hA
      obtain ⟨sn, hs, hrel, hb⟩ : ∃ sn, sn < 2 ^ n ∧ (∀ e, e < n → (sn.testBit e = true ↔ 0 ≤ o.getD e 0)) ∧ (((∀ j, j < k → goodB c (bm o n j)) ∧ c.asgTo ls k = some sn) ∨ ((¬ ∀ j, j < k → goodB c (bm o n j)) ∧ c.asgTo ls k = none)) := by
        rcases hcase with ⟨g, sn, b, h1, h2⟩ | ⟨g, b⟩
        · exact ⟨sn, h1, h2, .inl ⟨g, b⟩⟩
        · refine ⟨mask (fun e => decide (0 ≤ o.getD e 0)) n, Nat.lt_pow_two_of_testBit _ fun e he => ?_, fun e he => ?_, .inr ⟨g, b⟩⟩
          · rw [mask_test, decide_eq_false (by omega)]; rfl
          · rw [mask_test, decide_eq_true he, Bool.true_and, decide_eq_true_eq]
      by_cases hL0 : L.length = 0
      · left
        rw [hR, if_pos hL0]
        refine ⟨rfl, ?_⟩
        rw [hA, hL0]
        rcases hb with ⟨_, b⟩ | ⟨_, b⟩
        · rw [b]
          show (if (0 : Nat) = 0 ∨ _ then none else _) = none
          rw [if_pos (.inl rfl)]
        · rw [b]
      · rw [if_neg hL0] at hR
        rcases one_law (l := L) hol hrel hlt L.length with ⟨a1, a2⟩ | ⟨own, s2, o2, a1, a2, hr, hne⟩
        · left
          rw [hR, a2]
          refine ⟨rfl, ?_⟩
          rcases hb with ⟨_, b⟩ | ⟨_, b⟩
          · rw [hA, b]
            dsimp only
            rw [a1]
          · rw [hA, b]
        · right
          have hlts := asgOne_lt hs _ _ a1
          have hown : own = bm o2 n k := by
            refine Nat.eq_of_testBit_eq fun e => ?_
            rw [Bool.eq_iff_iff, bm_test]
            constructor
            · intro ht
              have he := testBit_lt ht hlts.1
              exact ⟨he, (hr.own e he).1 ht⟩
            · rintro ⟨he, h⟩; exact (hr.own e he).2 h
          have hbm : ∀ j, j < k → bm o2 n j = bm o n j := fun j hj => by
            refine Nat.eq_of_testBit_eq fun e => ?_
            rw [Bool.eq_iff_iff, bm_test, bm_test]
            refine and_congr_right fun he => ?_
            by_cases hek : o2.getD e 0 = (k : Int)
            · have := hr.fresh e he hek
              constructor <;> intro h <;> omega
            · rw [hr.rest e he hek]
          have hG : (∀ j, j < k + 1 → goodB c (bm o2 n j)) ↔ (∀ j, j < k → goodB c (bm o n j)) ∧ goodB c own := by
            rw [hown]
            constructor
            · intro h
              exact ⟨fun j hj => by rw [← hbm j hj]; exact h j (by omega), h k (by omega)⟩
            · rintro ⟨h1, h2⟩ j hj
              by_cases hjk : j = k
              · subst hjk; exact h2
              · rw [hbm j (by omega)]; exact h1 j (by omega)
          refine ⟨o2, by rw [hR, a2], hr.len, fun e he => ?_, ?_⟩
          · by_cases hek : o2.getD e 0 = (k : Int)
            · omega
            · rw [hr.rest e he hek]; have := hlt e he; omega
          · rw [hG, hA]
            rcases hb with ⟨g, b⟩ | ⟨g, b⟩
            · rw [b]
              dsimp only
              rw [a1]
              dsimp only
              by_cases hgo : goodB c own
              · left
                refine ⟨⟨g, hgo⟩, s2, if_neg ?_, hlts.2, hr.seen⟩
                rintro (h | h | h)
                · exact hne (by omega) h
                · rw [hgo.1] at h; cases h
                · rw [hgo.2] at h; cases h
              · right
                refine ⟨fun h => hgo h.2, if_pos ?_⟩
                unfold goodB at hgo
                cases h1 : c.fitsSet own with
                | false => exact .inr (.inl rfl)
                | true =>
                  cases h2 : c.keeps own with
                  | false => exact .inr (.inr rfl)
                  | true => exact absurd ⟨h1, h2⟩ hgo
            · rw [b]
              exact .inr ⟨fun h => g h.1, rfl⟩
theorem elems_full {n s : Nat} (hn : n ≤ 10) (hs : s < 2 ^ n) : (elems s).length = n ↔ ∀ e, e < n → s.testBit e = true := by
  have hnd : (elems s).Nodup := (elems_sorted s).imp fun h => Nat.ne_of_lt h
  have hsub : elems s ⊆ List.range n := fun x hx => List.mem_range.2 (elems_lt hx hs)
  have hle := hnd.length_le_of_subset hsub
  rw [List.length_range] at hle
  constructor
  · intro h e he
    by_cases ht : s.testBit e = true
    · exact ht
    · exfalso
      have hsub2 : e :: elems s ⊆ List.range n := fun x hx => by
        rcases List.mem_cons.1 hx with rfl | hx
        · exact List.mem_range.2 he
        · exact hsub hx
      have hnd2 : (e :: elems s).Nodup := List.nodup_cons.2 ⟨fun hc => ht (mem_elems.1 hc).2, hnd⟩
      have := hnd2.length_le_of_subset hsub2
      rw [List.length_range, List.length_cons] at this
      omega
  · intro h
    have hsub2 : List.range n ⊆ elems s := fun x hx => by
      rw [List.mem_range] at hx
      exact mem_elems.2 ⟨by omega, h x hx⟩
    have := List.nodup_range.length_le_of_subset hsub2
    rw [List.length_range] at this
    omega
theorem allow_good {c : Census} (h : Fine c) {n m : Nat} (hn : c.entries.length = n) {o : List Int} (hol : o.length = n) (hlt : ∀ e, e < n → o.getD e 0 < (m : Int)) (h0 : ∀ e, e < n → 0 ≤ o.getD e 0) :
    c.allowB (o.map Int.toNat) = true ↔ ∀ j, j < m → goodB c (bm o n j) := by
  have hfn : ∀ e, e < n → ((fn (o.map Int.toNat) e : Nat) : Int) = o.getD e 0 := fun e he => by
    have := h0 e he
    have e1 : (o.map Int.toNat).getD e 0 = (o.getD e 0).toNat := by simp [List.getD_eq_getElem?_getD, hol ▸ he]
    show (((o.map Int.toNat).getD e 0 : Nat) : Int) = _
    rw [e1]; omega
  have hpr : ∀ p, c.pair p = true → p.fst.toNat < n ∧ p.snd.toNat < n := fun p hp => by have := pair_nat hp; rw [hn] at this; exact this
  rw [allowB_iff (by rw [List.length_map, hol, hn])]
  have hfs : ∀ j, c.fitsSet (bm o n j) = true ↔ _ := fun j => fitsSet_iff h.pairs h.n10 (s := bm o n j) (by rw [hn]; exact bm_lt o n j)
  have hks : ∀ j, c.keeps (bm o n j) = true ↔ ∀ p ∈ c.same, ((bm o n j).testBit p.fst.toNat = true ↔ (bm o n j).testBit p.snd.toNat = true) := fun j => by
    unfold Census.keeps
    rw [List.all_eq_true]
    refine forall_congr' fun p => forall_congr' fun _ => ?_
    rw [beq_iff_eq, Bool.eq_iff_iff]
  constructor
  · intro ha j hj
    refine ⟨(hfs j).2 ⟨fun i k hi hk hik => ?_, fun p hp hb => ?_⟩, (hks j).2 fun p hp => ?_⟩
    · obtain ⟨i1, i2⟩ := bm_test.1 hi
      obtain ⟨k1, k2⟩ := bm_test.1 hk
      have a1 := hfn i i1
      have a2 := hfn k k1
      exact ha.fits i k (by omega) (by omega) hik (by omega)
    · obtain ⟨i1, i2⟩ := bm_test.1 hb.1
      obtain ⟨k1, k2⟩ := bm_test.1 hb.2
      have a1 := hfn _ i1
      have a2 := hfn _ k1
      exact ha.apart p hp (by omega)
    · obtain ⟨q1, q2⟩ := hpr p (h.ps p hp)
      have a1 := hfn _ q1
      have a2 := hfn _ q2
      have a3 := ha.same p hp
      rw [bm_test, bm_test]
      constructor
      · rintro ⟨_, e⟩; exact ⟨q2, by omega⟩
      · rintro ⟨_, e⟩; exact ⟨q1, by omega⟩
  · intro hg
    have hat : ∀ e, e < n → ∃ j, j < m ∧ o.getD e 0 = (j : Int) := fun e he => ⟨(o.getD e 0).toNat, by have := hlt e he; have := h0 e he; omega, by have := h0 e he; omega⟩
    refine ⟨fun i k hi hk hik he => ?_, fun p hp => ?_, fun p hp he => ?_⟩
    · rw [hn] at hi hk
      obtain ⟨j, hj, hj2⟩ := hat i hi
      have a1 := hfn i hi
      have a2 := hfn k hk
      exact ((hfs j).1 (hg j hj).1).1 i k (bm_test.2 ⟨hi, hj2⟩) (bm_test.2 ⟨hk, by omega⟩) hik
    · obtain ⟨q1, q2⟩ := hpr p (h.ps p hp)
      obtain ⟨j, hj, hj2⟩ := hat _ q1
      have := ((hks j).1 (hg j hj).2 p hp).1 (bm_test.2 ⟨q1, hj2⟩)
      have a1 := hfn _ q1
      have a2 := hfn _ q2
      have a3 := (bm_test.1 this).2
      omega
    · obtain ⟨q1, q2⟩ := hpr p (h.pa p hp)
      obtain ⟨j, hj, hj2⟩ := hat _ q1
      have a1 := hfn _ q1
      have a2 := hfn _ q2
      exact ((hfs j).1 (hg j hj).1).2 p hp ⟨bm_test.2 ⟨q1, hj2⟩, bm_test.2 ⟨q2, by omega⟩⟩
theorem asg_law {c : Census} (h : Fine c) (ls : List (List Int)) : c.asg ls = c.isAsg ls := by
  have hk := fine_iff.2 h
  have hw : within (ls.length : Int) c.limits.lo c.limits.hi = c.sumsB ls.length := by rw [limits_eq h.lims]; rfl
  unfold Census.asg Census.isAsg ofS
  rw [if_pos hk]
  rcases to_law (c := c) rfl (ls := ls) ls.length with ⟨a, b⟩ | ⟨o, a, hol, hlt, hcase⟩
  · rw [a, b]
  · rw [a]
    dsimp only
    by_cases hall : o.all (fun x => decide (0 ≤ x)) = true
    · rw [if_pos hall]
      have h0 : ∀ e, e < c.entries.length → 0 ≤ o.getD e 0 := fun e he => of_decide_eq_true (List.all_eq_true.1 hall _ (getD_mem (by omega)))
      have hag := allow_good h rfl hol hlt h0
      rcases hcase with ⟨hg, sn, b, hs, hrel⟩ | ⟨hg, b⟩
      · rw [b]
        have hfull := (elems_full h.n10 hs).2 fun e he => (hrel e he).2 (h0 e he)
        show (decide ((elems sn).length = c.entries.length) && within (ls.length : Int) c.limits.lo c.limits.hi) = (c.allowB (o.map Int.toNat) && c.sumsB ls.length)
        rw [decide_eq_true hfull, hw, hag.2 hg]
      · rw [b]
        show false = (c.allowB (o.map Int.toNat) && c.sumsB ls.length)
        have : c.allowB (o.map Int.toNat) = false := by rw [← Bool.not_eq_true, hag]; exact hg
        rw [this]; rfl
    · rw [if_neg hall]
      rcases hcase with ⟨_, sn, b, hs, hrel⟩ | ⟨_, b⟩
      · rw [b]
        show (decide ((elems sn).length = c.entries.length) && within (ls.length : Int) c.limits.lo c.limits.hi) = false
        have hne : ¬ (elems sn).length = c.entries.length := fun hc => hall (by
          refine allI_getD (p := fun x => decide (0 ≤ x)) fun e he => decide_eq_true ?_
          exact (hrel e (by omega)).1 ((elems_full h.n10 hs).1 hc e (by omega)))
        rw [decide_eq_false hne]; rfl
      · rw [b]
end Go.Proofs.YtcnkbdfkjhlbiaaDoor
namespace Go.Proofs.YtcnkbdfkjhlbiaaDoor
set_option maxRecDepth 8000
structure Harder (c x : Coding) (l : List Int) : Prop where
  codes : x.codes = c.codes ++ [l]
  len : c.codes.length = c.wrong.length
  wr : ∀ k, k < c.codes.length → x.wrong.getD k 0 ≤ c.wrong.getD k 0
end Go.Proofs.YtcnkbdfkjhlbiaaDoor
namespace Go.Proofs.YtcnkbdfkjhlbiaaDoor
open Go.Sy
set_option maxRecDepth 8000
abbrev tysW46_95 := And.intro ty.sz0 <| And.intro ty.agg0 <| And.intro ty.elem0 <| And.intro ty.sz108 <| And.intro ty.agg108 <| And.intro ty.elem108 <| And.intro ty.zero108 <| And.intro ty.sz114 <| And.intro ty.agg114 <| And.intro ty.elem114 <| And.intro ty.zero114 <| And.intro ty.und114 <| And.intro ty.sz153 <| And.intro ty.agg153 <| And.intro ty.elem153 <| And.intro ty.zero153 <| And.intro ty.sz154 <| And.intro ty.agg154 <| And.intro ty.elem154 <| ty.zero154
theorem groupsD_h (hp : HpT) (nx : Nat) (d : List D) (s : Nat) : CallH Tryd.prog G0 95 [.dp d, U s] hp nx (fun r hp' nx' => r = .clo (.func 117) [] [.ptr (nx + 1) 0 0, .ptr nx 0 0] ∧ hp' = (nx + 1, .arr 1 [[U s]]) :: (nx, .arr 1 [[.dp d]]) :: hp ∧ nx' = nx + 2) := by
  refine CallH.body 6 [.tmp 4] Tryd.func95 (by kernel_rfl) rfl rfl rfl ?_
  refine Tr.reg [2, 3] (by
      simp only [↓sxd, sxu, ↓zE, ↓exq, St.keep, ↓zI, Nat.reduceBEq, Nat.reduceAdd, Nat.reduceLT, Nat.reduceEqDiff]
      (repeat' (first | rfl | exact trivial | exact fun h => h | exact fun h => (by rw [h]; rfl) | apply And.intro | omega | exact Nat.le_of_ble_eq_true rfl))) ?_
  refine Tr.reg [4] (by
      simp only [↓sxd, sxu, ↓zE, ↓exq, St.keep, Nat.reduceBEq, Nat.reduceLT]
      (repeat' (first | rfl | exact trivial | exact fun h => h | exact fun h => (by rw [h]; rfl) | apply And.intro | omega | exact Nat.le_of_ble_eq_true rfl))) ?_
  refine Tr.ret ?_
  exact ⟨.inr rfl, _, rfl, rfl, rfl, rfl⟩
abbrev tysW46_117 := And.intro ty.sz0 <| And.intro ty.agg0 <| And.intro ty.elem0 <| And.intro ty.sz4 <| And.intro ty.agg4 <| And.intro ty.elem4 <| And.intro ty.zero4 <| And.intro ty.und4 <| And.intro ty.sz108 <| And.intro ty.agg108 <| And.intro ty.elem108 <| And.intro ty.zero108 <| And.intro ty.sz114 <| And.intro ty.agg114 <| And.intro ty.elem114 <| And.intro ty.zero114 <| And.intro ty.und114 <| And.intro ty.sz143 <| And.intro ty.agg143 <| And.intro ty.elem143 <| And.intro ty.arr143 <| And.intro ty.zero143 <| And.intro ty.und143 <| And.intro ty.sz146 <| And.intro ty.agg146 <| And.intro ty.fld146_0 <| And.intro ty.fld146_1 <| And.intro ty.fld146_2 <| And.intro ty.fld146_3 <| And.intro ty.elem146 <| And.intro ty.zero146 <| And.intro ty.pl146 <| And.intro ty.sz147 <| And.intro ty.agg147 <| And.intro ty.elem147 <| ty.zero147
theorem groups1D_h (w : Work) (h1 : w.one.length = 1024) (s : Nat) (hs : s < 1024) (I : List Nat → Prop) (hI0 : I []) (H : List Nat → HpT) (nx ib iwb l : Nat)
    (hS : ∀ gs, (H gs).lookup ib = some (.arr 1 [[U s]])) (hW : ∀ gs, (H gs).lookup iwb = some (.arr 1 [[.dp w.d]]))
    (Stop : HpT → Nat → Prop) (hY : ∀ (gs : List Nat) (g : Nat) (ts : List Nat), gs ++ g :: ts = groupsL w.one s → I gs → RoundH Tryd.prog G0 l [U g] (H gs) nx (fun r hp' nx' => (r = B true ∧ I (gs ++ [g]) ∧ hp' = H (gs ++ [g]) ∧ nx' = nx) ∨ (r = B false ∧ Stop hp' nx'))) :
    CallH Tryd.prog G0 117 [.yld l, .ptr ib 0 0, .ptr iwb 0 0] (H []) nx (fun _ hp' nx' => (I (groupsL w.one s) ∧ hp' = H (groupsL w.one s) ∧ nx' = nx) ∨ Stop hp' nx') := by
  obtain ⟨one, hone⟩ : ∃ one, one = w.one := ⟨_, rfl⟩
  rw [← hone] at h1 hY ⊢
  refine CallH.body 37 [] Tryd.func117 (by kernel_rfl) rfl rfl rfl ?_
  have hS0 := hS []
  obtain ⟨f1, f2⟩ := bits_le hs
  refine Tr.reg [0, 1, 2, 4] (by
    simp only [↓sxd, sxu, ↓zE, ↓exq, St.keep, ↓zL, ↓zD, Nat.reduceBEq, Nat.reduceAdd, Nat.reduceLT, tysW46_117, hS0, lowb_u (show s < 4096 by omega)]
    (repeat' (first | rfl | exact trivial | exact fun h => h | exact fun h => (by rw [h]; rfl) | apply And.intro | omega | exact Nat.le_of_ble_eq_true rfl))) ?_
  refine Tr.reg [0, 1, 2, 4, 5] (by
    simp only [↓sxd, sxu, ↓zE, ↓exq, St.keep, ↓zD, Nat.reduceBEq, Nat.reduceLT, tysW46_117, hS0, andNot_u (show s < 18446744073709551616 by omega) (show lowb s < 18446744073709551616 by omega)]
    (repeat' (first | rfl | exact trivial | exact fun h => h | exact fun h => (by rw [h]; rfl) | apply And.intro | omega | exact Nat.le_of_ble_eq_true rfl))) ?_
  refine Tr.reg [0, 1, 2, 4, 5, 6] (by
    simp only [↓sxd, sxu, ↓zE, ↓exq, St.keep, Nat.reduceBEq, Nat.reduceLT]
    (repeat' (first | rfl | exact trivial | exact fun h => h | exact fun h => (by rw [h]; rfl) | apply And.intro | omega | exact Nat.le_of_ble_eq_true rfl))) ?_
  refine Tr.block (Tr.loopI (fun mm ss => ∃ (gs : List Nat) (sub : Nat), (sub ≤ 1023 ∧ I gs ∧ gs ++ ((subsFrom (sub + 1) sub (restOf s)).map (· ||| lowb s)).filter (fun g => one.getD g false) = groupsL one s) ∧ sub = mm ∧
    ss = ⟨[(0, .yld l), (1, .ptr ib 0 0), (2, .ptr iwb 0 0), (4, U (lowb s)), (5, U (restOf s)), (6, U sub)], H gs, nx, 37, [], nx⟩) _ ⟨[], restOf s, ⟨by omega, hI0, rfl⟩, rfl, rfl⟩ ?_)
  rintro mm ss ⟨gs, sub, ⟨hsub, hIg, hgs⟩, rfl, rfl⟩
  have hS1 := hS gs
  have hW1 := hW gs
  have hg : sub ||| lowb s < 1024 := Nat.or_lt_two_pow (n := 10) (by omega) (by omega)
  have hor := or_u (show sub < 18446744073709551616 by omega) (show lowb s < 18446744073709551616 by omega)
  have hix : (((sub ||| lowb s : Nat) : Int) < ((1024 : Nat) : Int)) = True := by simp; omega
  have hlen : (0 < (List.drop (sub ||| lowb s) (w.one.map cB ++ w.least.map cI)).length) = True := eq_true (tl_one0 (by rw [← hone]; exact h1) hg)
  have hval : (List.drop (sub ||| lowb s) (w.one.map cB ++ w.least.map cI)).getD 0 default = cB (one.getD (sub ||| lowb s) false) := by rw [hone]; exact tl_one (by rw [← hone]; exact h1) hg
  have hx := hgs
  rw [subsFrom, List.map_cons, List.filter_cons] at hx
  cases ho : one.getD (sub ||| lowb s) false with
  | false =>
    rw [ho, if_neg (by decide)] at hx
    have hx' : gs ++ (if sub = 0 then [] else ((subsFrom sub ((sub - 1) &&& restOf s) (restOf s)).map (· ||| lowb s)).filter (fun g => one.getD g false)) = groupsL one s := by
      rw [← hx]; split <;> rfl
    refine Tr.seq (Tr.block (Tr.seq (Tr.reg [0, 1, 2, 4, 5, 6, 34] (by
      simp only [↓sxd, sxu, ↓zE, ↓exq, St.keep, ↓zD, ↓zV, ↓zA, Nat.reduceBEq, Nat.reduceLT, Nat.reduceEqDiff, sxe, tysW46_117, hW1, hor, hix, hlen, hval, ho]
      (repeat ((with_reducible refine And.intro ?_ ?_); (focus (first | with_reducible rfl | trivial | exact fun h => h | exact fun h => (by rw [h]; rfl) | omega | assumption))))
      refine GdO.no rfl ?_
      simp only [↓sxd, sxu, ↓zE, Nat.reduceBEq, Nat.reduceLT]
      refine GdO.no rfl ?_
      simp only [↓sxd, sxu, ↓zE, Nat.reduceBEq, Nat.reduceLT]
      refine GdO.no rfl ?_
      simp only [↓sxd, sxu, ↓zE, Nat.reduceBEq, Nat.reduceLT]
      refine GdO.no rfl ?_
      simp only [↓sxd, sxu, ↓zE, Nat.reduceBEq, Nat.reduceLT]
      refine GdO.no rfl ?_
      simp only [↓sxd, sxu, ↓zE, Nat.reduceBEq, Nat.reduceLT]
      refine GdO.no rfl ?_
      simp only [↓sxd, sxu, ↓zE, ↓exq, ↓zH, Nat.reduceBEq, Nat.reduceLT]
      (repeat' (first | rfl | exact trivial | exact fun h => h | exact fun h => (by rw [h]; rfl) | apply And.intro | omega | exact Nat.le_of_ble_eq_true rfl))) ?_)))
    refine Tr.cond rfl (fun h34 => by cases h34) (fun _ => Tr.skip ?_)
    refine Tr.reg [0, 1, 2, 4, 5, 6, 36] (by
      simp only [↓sxd, sxu, ↓zE, ↓exq, St.keep, Nat.reduceBEq, Nat.reduceLT]
      (repeat' (first | rfl | exact trivial | exact fun h => h | exact fun h => (by rw [h]; rfl) | apply And.intro | omega | exact Nat.le_of_ble_eq_true rfl))) ?_
    refine Tr.cond rfl (fun h36 => ?_) (fun h36 => ?_)
    · have h0 : sub = 0 := by simpa using h36
      subst h0
      refine Tr.ret ⟨.inr rfl, .tup [], trivial, .inl ⟨?_, ?_, rfl⟩⟩ <;> rw [← hx'] <;> first | (simp; done) | (simpa using hIg)
    · have h0 : sub ≠ 0 := by simpa using h36
      have x1 : IntKind.u64.wrap ((sub : Int) - 1) = ((sub - 1 : Nat) : Int) := by rw [wu (by omega) (by omega)]; omega
      refine Tr.skip (Tr.reg1 [0, 1, 2, 4, 5, 6] (by
        simp only [↓sxd, sxu, ↓zE, ↓exq, St.keep, Nat.reduceBEq, Nat.reduceLT, x1, and_u (show sub - 1 < 18446744073709551616 by omega) (show restOf s < 18446744073709551616 by omega)]
        (repeat' (first | rfl | exact trivial | exact fun h => h | exact fun h => (by rw [h]; rfl) | apply And.intro | omega | exact Nat.le_of_ble_eq_true rfl))) ?_)
      have hlt : (sub - 1) &&& restOf s < sub := Nat.lt_of_le_of_lt Nat.and_le_left (by omega)
      refine ⟨_, _, hlt, Imp.keepAll, ⟨gs, (sub - 1) &&& restOf s, ⟨by omega, hIg, ?_⟩, rfl, rfl⟩⟩
      rw [← hx', if_neg h0, subs_fuel _ sub _ _ (by omega) hlt]
  | true =>
    rw [ho, if_pos rfl] at hx
    have hx' : (gs ++ [sub ||| lowb s]) ++ (if sub = 0 then [] else ((subsFrom sub ((sub - 1) &&& restOf s) (restOf s)).map (· ||| lowb s)).filter (fun g => one.getD g false)) = groupsL one s := by
      rw [← hx, List.append_assoc]; split <;> rfl
    refine Tr.seq (Tr.block (Tr.seq (Tr.seq (Tr.region ?_))))
    simp only [↓sxd, sxu, ↓zE, ↓exq, ↓zD, ↓zV, ↓zA, Nat.reduceBEq, Nat.reduceLT, Nat.reduceEqDiff, sxe, tysW46_117, hW1, hor, hix, hlen, hval, ho]
    (repeat ((with_reducible refine And.intro ?_ ?_); (focus (first | with_reducible rfl | trivial | exact fun h => h | exact fun h => (by rw [h]; rfl) | omega | assumption))))
    refine GdO.now rfl ?_
    simp only [↓sxd, sxu, ↓zE, ↓exq, Nat.reduceBEq, Nat.reduceLT]
    refine GdO.now rfl ?_
    simp only [↓sxd, sxu, ↓zE, ↓exq, Nat.reduceBEq, Nat.reduceLT]
    refine GdO.now rfl ?_
    simp only [↓sxd, sxu, ↓zE, ↓exq, Nat.reduceBEq, Nat.reduceLT]
    refine GdO.now rfl ?_
    simp only [↓sxd, sxu, ↓zE, ↓exq, Nat.reduceBEq, Nat.reduceLT, hor]
    refine GdO.now rfl ?_
    simp only [↓sxd, sxu, ↓zE, ↓exq, ↓zB, Nat.reduceBEq, Nat.reduceLT]
    refine (hY gs (sub ||| lowb s) _ hx hIg).mono ?_
    rintro r hp' nx' (⟨rfl, hIg2, rfl, rfl⟩ | ⟨rfl, hstop⟩)
    · try simp only [↓sxd, sxu, ↓zE, ↓zC, zK, ↓exP, ↓exq, ↓zB, St.keep, ↓zH, ↓zL, ↓zD, ↓zV, ↓zA, Nat.reduceBEq, Nat.reduceAdd, Nat.reduceLT, Nat.reduceMul, Nat.reduceSub, Nat.reduceLeDiff, Nat.reduceEqDiff, Int.reduceLE, Int.reduceLT, Int.reduceToNat, reduceIte, implies_true, sxe, tysW46_117]
      refine GdO.now rfl ?_
      simp only [↓sxd, sxu, ↓zE, ↓exq, ↓zH, ↓zL, Nat.reduceBEq, Nat.reduceLT, Bool.not_true]
      (repeat ((with_reducible refine And.intro ?_ ?_); (focus (first | with_reducible rfl | trivial | exact fun h => h | exact fun h => (by rw [h]; rfl) | omega | assumption))))
      refine Tr.cond rfl (fun h34 => by cases h34) (fun _ => Tr.skip ?_)
      refine Tr.reg [0, 1, 2, 4, 5, 6, 36] (by
        simp only [↓sxd, sxu, ↓zE, ↓exq, St.keep, Nat.reduceBEq, Nat.reduceLT]
        (repeat' (first | rfl | exact trivial | exact fun h => h | exact fun h => (by rw [h]; rfl) | apply And.intro | omega | exact Nat.le_of_ble_eq_true rfl))) ?_
      refine Tr.cond rfl (fun h36 => ?_) (fun h36 => ?_)
      · have h0 : sub = 0 := by simpa using h36
        subst h0
        refine Tr.ret ⟨.inr rfl, .tup [], trivial, .inl ⟨?_, ?_, rfl⟩⟩ <;> rw [← hx'] <;> first | (simp; done) | (simpa using hIg2)
      · have h0 : sub ≠ 0 := by simpa using h36
        have x1 : IntKind.u64.wrap ((sub : Int) - 1) = ((sub - 1 : Nat) : Int) := by rw [wu (by omega) (by omega)]; omega
        refine Tr.skip (Tr.reg1 [0, 1, 2, 4, 5, 6] (by
          simp only [↓sxd, sxu, ↓zE, ↓exq, St.keep, Nat.reduceBEq, Nat.reduceLT, x1, and_u (show sub - 1 < 18446744073709551616 by omega) (show restOf s < 18446744073709551616 by omega)]
          (repeat' (first | rfl | exact trivial | exact fun h => h | exact fun h => (by rw [h]; rfl) | apply And.intro | omega | exact Nat.le_of_ble_eq_true rfl))) ?_)
        have hlt : (sub - 1) &&& restOf s < sub := Nat.lt_of_le_of_lt Nat.and_le_left (by omega)
        refine ⟨_, _, hlt, Imp.keepAll, ⟨gs ++ [sub ||| lowb s], (sub - 1) &&& restOf s, ⟨by omega, hIg2, ?_⟩, rfl, rfl⟩⟩
        rw [← hx', if_neg h0, subs_fuel _ sub _ _ (by omega) hlt]
    · try simp only [↓sxd, sxu, ↓zE, ↓zC, zK, ↓exP, ↓exq, ↓zB, St.keep, ↓zH, ↓zL, ↓zD, ↓zV, ↓zA, Nat.reduceBEq, Nat.reduceAdd, Nat.reduceLT, Nat.reduceMul, Nat.reduceSub, Nat.reduceLeDiff, Nat.reduceEqDiff, Int.reduceLE, Int.reduceLT, Int.reduceToNat, reduceIte, implies_true, sxe, tysW46_117]
      refine GdO.now rfl ?_
      simp only [↓sxd, sxu, ↓zE, ↓exq, ↓zH, ↓zL, Nat.reduceBEq, Nat.reduceLT, Bool.not_false]
      (repeat ((with_reducible refine And.intro ?_ ?_); (focus (first | with_reducible rfl | trivial | exact fun h => h | exact fun h => (by rw [h]; rfl) | omega | assumption))))
      refine Tr.cond rfl (fun _ => Tr.ret ⟨.inr rfl, .tup [], trivial, .inr hstop⟩) (fun h34 => by cases h34)
end Go.Proofs.YtcnkbdfkjhlbiaaDoor
namespace Go.Proofs.YtcnkbdfkjhlbiaaDoor
open Go.Sy
set_option maxRecDepth 8000
def pickG (one : List Bool) (L : List Int) (s : Nat) : Option Nat := (groupsL one s).find? fun g => L.getD s 0 == 1 + L.getD (s ^^^ (s &&& g)) 0
def showG (one : List Bool) (L : List Int) : Nat → Nat → List Nat
  | 0, _ => []
  | f + 1, s => if s = 0 then [] else match pickG one L s with
    | some g => g :: showG one L f (s ^^^ (s &&& g))
    | none => []
theorem pickG_first {one : List Bool} {L : List Int} {s g : Nat} {gs ts : List Nat} (hg : gs ++ g :: ts = groupsL one s) (hn : ∀ x ∈ gs, (L.getD s 0 == 1 + L.getD (s ^^^ (s &&& x)) 0) = false) (hm : (L.getD s 0 == 1 + L.getD (s ^^^ (s &&& g)) 0) = true) : pickG one L s = some g := by
  unfold pickG
  rw [← hg, List.find?_append, List.find?_eq_none.2 (fun x hx => by rw [hn x hx]; decide), Option.none_or, List.find?_cons]
  simp only [hm]
theorem pickG_spec {one : List Bool} {L : List Int} {s g : Nat} (h : pickG one L s = some g) : g ∈ groupsL one s ∧ L.getD s 0 = 1 + L.getD (s ^^^ (s &&& g)) 0 :=
  ⟨List.mem_of_find?_eq_some h, by have := List.find?_some h; simpa using this⟩
structure TabC (c : Census) (one : List Bool) (L : List Int) : Prop where
  nb : (blocksOf c).length ≤ 10
  o : ∀ s, s < 2 ^ (blocksOf c).length → one.getD s false = oneP c s
  b : ∀ s, 0 ≤ L.getD s 0 ∧ L.getD s 0 ≤ 1024
  ex : LeastOk (oneP c) (blocksOf c).length (fun s => L.getD s 0)
theorem tabC {c : Census} (hc : PairsOk c) (hn : c.entries.length ≤ 10) : TabC c (readW c).one (readW c).least := by
  have hl := (blocksOf_sem hc).ok.len
  have hle : 2 ^ (blocksOf c).length ≤ 1024 := Nat.pow_le_pow_right (n := 2) (by omega) (show (blocksOf c).length ≤ 10 by omega)
  have h := tables_ok c (2 ^ (blocksOf c).length) hle
  exact ⟨by omega, h.o, h.b, leastOk hc hn⟩
theorem TabC.lt {c : Census} {one : List Bool} {L : List Int} (h : TabC c one L) {s : Nat} (hs : s < 2 ^ (blocksOf c).length) : s < 1024 :=
  Nat.lt_of_lt_of_le hs (Nat.pow_le_pow_right (n := 2) (by omega) h.nb)
theorem TabC.group {c : Census} {one : List Bool} {L : List Int} (h : TabC c one L) {s g : Nat} (hs : s < 2 ^ (blocksOf c).length) (h0 : s ≠ 0) (hg : g ∈ groupsL one s) : s &&& g = g ∧ g.testBit (low s) = true ∧ oneP c g = true ∧ s ^^^ (s &&& g) < s := by
  obtain ⟨⟨a, b⟩, d⟩ := (mem_groups (h.lt hs) h0).1 hg
  exact ⟨a, b, by rw [← h.o g (sub_lt a hs)]; exact d, diff_lt (sub_test a b) b⟩
theorem TabC.pick {c : Census} {one : List Bool} {L : List Int} (h : TabC c one L) {s : Nat} (hs : s < 2 ^ (blocksOf c).length) (h0 : s ≠ 0) (h1 : L.getD s 0 < 1024) : ∃ g, pickG one L s = some g := by
  obtain ⟨g, a, b, d, e⟩ := h.ex.ex s hs h0 h1
  have e : L.getD s 0 = 1 + L.getD (s ^^^ (s &&& g)) 0 := e
  have hm : g ∈ groupsL one s := (mem_groups (h.lt hs) h0).2 ⟨⟨a, b⟩, by rw [h.o g (sub_lt a hs)]; exact d⟩
  cases hp : pickG one L s with
  | some g => exact ⟨g, rfl⟩
  | none => exact absurd (show (L.getD s 0 == 1 + L.getD (s ^^^ (s &&& g)) 0) = true from beq_iff_eq.2 e) (List.find?_eq_none.1 hp g hm)
theorem TabC.none {c : Census} {one : List Bool} {L : List Int} (h : TabC c one L) {s : Nat} (hs : s < 2 ^ (blocksOf c).length) (h0 : s ≠ 0) (h1 : L.getD s 0 < 1024) (hn : ∀ x ∈ groupsL one s, (L.getD s 0 == 1 + L.getD (s ^^^ (s &&& x)) 0) = false) : False := by
  obtain ⟨g, hg⟩ := h.pick hs h0 h1
  obtain ⟨a, b⟩ := pickG_spec hg
  have := hn g a
  rw [b] at this
  simp at this
theorem TabC.show {c : Census} {one : List Bool} {L : List Int} (h : TabC c one L) : ∀ f s, s < f → s < 2 ^ (blocksOf c).length → L.getD s 0 < 1024 → Parts (oneP c) s (showG one L f s) ∧ ((showG one L f s).length : Int) = L.getD s 0
  | 0, s, hf, _, _ => by omega
  | f + 1, s, hf, hs, hl => by
    unfold showG
    by_cases h0 : s = 0
    · subst h0
      rw [if_pos rfl]
      exact ⟨⟨fun g hg => (by cases hg), .nil, fun j => (by simp)⟩, by rw [show L.getD 0 0 = 0 from h.ex.zero]; rfl⟩
    · rw [if_neg h0]
      obtain ⟨g, hg⟩ := h.pick hs h0 hl
      obtain ⟨a, b⟩ := pickG_spec hg
      obtain ⟨g1, g2, g3, g4⟩ := h.group hs h0 a
      have hb := h.b (s ^^^ (s &&& g))
      obtain ⟨p1, p2⟩ := h.show f (s ^^^ (s &&& g)) (by omega) (by omega) (by omega)
      rw [hg]
      refine ⟨p1.put g1 (fun hc => by subst hc; simp at g2) g3, ?_⟩
      rw [List.length_cons, b, ← p2]; omega
theorem Parts.perm {one : Nat → Bool} {s : Nat} {gs hs : List Nat} (h : Parts one s gs) (hp : gs.Perm hs) : Parts one s hs :=
  ⟨fun g hg => h.ok g (hp.mem_iff.2 hg), (List.Perm.pairwise_iff (fun {a b} hab j hb => by
    cases ha : a.testBit j
    · rfl
    · rw [hab j ha] at hb; cases hb) hp).1 h.dis, fun j => ⟨fun hj => by
    obtain ⟨g, a, b⟩ := (h.un j).1 hj
    exact ⟨g, hp.mem_iff.1 a, b⟩, fun ⟨g, a, b⟩ => (h.un j).2 ⟨g, hp.mem_iff.2 a, b⟩⟩⟩
theorem Parts.cut {one : Nat → Bool} (hd : Down one) {g s j : Nat} {gs : List Nat} (h : Parts one s (g :: gs)) (hj : g.testBit j = true) (hr : g ^^^ (g &&& 2 ^ j) ≠ 0) : Parts one s ((g ^^^ (g &&& 2 ^ j)) :: 2 ^ j :: gs) := by
  have hsub := h.mem_sub List.mem_cons_self
  have hg := h.ok g List.mem_cons_self
  have h2 : Parts one (s ^^^ (s &&& g)) gs := Parts.take (pre := []) h
  have hjs := sub_test hsub hj
  have e1 := two_pow_sub hj
  have hsr : s &&& (g ^^^ (g &&& 2 ^ j)) = g ^^^ (g &&& 2 ^ j) := by
    apply Nat.eq_of_testBit_eq; intro i
    rw [Nat.testBit_and]
    cases hi : (g ^^^ (g &&& 2 ^ j)).testBit i
    · simp
    · rw [sub_test hsub (by rw [diff_test, Bool.and_eq_true] at hi; exact hi.1)]; rfl
  have hrj : (s ^^^ (s &&& (g ^^^ (g &&& 2 ^ j)))).testBit j = true := by
    rw [diff_test, diff_test, hjs, hj, Nat.testBit_two_pow]; simp
  have e2 := two_pow_sub hrj
  have e3 : (s ^^^ (s &&& (g ^^^ (g &&& 2 ^ j)))) ^^^ ((s ^^^ (s &&& (g ^^^ (g &&& 2 ^ j)))) &&& 2 ^ j) = s ^^^ (s &&& g) := by
    apply Nat.eq_of_testBit_eq; intro i
    rw [diff_test, diff_test, diff_test, diff_test, Nat.testBit_two_pow]
    by_cases hij : j = i
    · subst hij; simp [hj]
    · simp only [hij, decide_false, Bool.not_false, Bool.and_true]
  have h5 : Parts one (s ^^^ (s &&& (g ^^^ (g &&& 2 ^ j)))) (2 ^ j :: gs) := by
    refine Parts.put ?_ e2 (Nat.ne_of_gt (Nat.two_pow_pos j)) (hd _ _ e1 hg.2)
    rw [e3]; exact h2
  exact h5.put hsr hr (hd _ _ (diff_sub _ _) hg.2)
theorem set_split {l : List Nat} : ∀ {i : Nat}, i < l.length → ∃ pre post, l = pre ++ l.getD i 0 :: post ∧ ∀ y, l.set i y = pre ++ y :: post := by
  induction l with
  | nil => intro i h; cases h
  | cons x l ih =>
    intro i h
    cases i with
    | zero => exact ⟨[], l, rfl, fun _ => rfl⟩
    | succ i =>
      obtain ⟨pre, post, h1, h2⟩ := ih (i := i) (by simpa using h)
      refine ⟨x :: pre, post, ?_, fun y => ?_⟩
      · show x :: l = x :: (pre ++ l.getD i 0 :: post)
        rw [← h1]
      · show x :: l.set i y = x :: (pre ++ y :: post)
        rw [h2]
def cutG (gs : List Nat) (i : Nat) : List Nat := gs.set i (gs.getD i 0 ^^^ (gs.getD i 0 &&& lowb (gs.getD i 0))) ++ [lowb (gs.getD i 0)]
def splitG (most : Nat) : Nat → List Nat → Nat → List Nat
  | 0, gs, _ => gs
  | f + 1, gs, i => if gs.length < most then (if lowb (gs.getD i 0) = gs.getD i 0 then splitG most f gs (i + 1) else splitG most f (cutG gs i) i) else gs
structure SplitOk (one : Nat → Bool) (n : Nat) (gs : List Nat) (i : Nat) : Prop where
  p : Parts one (2 ^ n - 1) gs
  le : i ≤ gs.length
  s : ∀ k, k < i → lowb (gs.getD k 0) = gs.getD k 0
theorem lowb_eq {x : Nat} (h : x ≠ 0) : lowb x = 2 ^ low x := by unfold lowb; rw [if_neg h]
theorem pc_sum {one : Nat → Bool} : ∀ (gs : List Nat) (s : Nat), s < 2 ^ 10 → Parts one s gs → (∀ g ∈ gs, pc g = 1) → pc s = gs.length
  | [], s, _, h, _ => by
    have : s = 0 := by
      by_cases h0 : s = 0
      · exact h0
      · obtain ⟨j, hj⟩ := nz_bit h0
        obtain ⟨g, hg, _⟩ := (h.un j).1 hj
        cases hg
    rw [this, pc_zero]; rfl
  | g :: gs, s, hs, h, h1 => by
    have hsub := h.mem_sub List.mem_cons_self
    have h2 : Parts one (s ^^^ (s &&& g)) gs := Parts.take (pre := []) h
    have h3 : s ^^^ (s &&& g) < 2 ^ 10 := Nat.xor_lt_two_pow hs (Nat.lt_of_le_of_lt Nat.and_le_left hs)
    rw [pc_split hsub, pc_sum gs _ h3 h2 (fun x hx => h1 x (List.mem_cons_of_mem _ hx)), h1 g List.mem_cons_self, List.length_cons]; omega
theorem SplitOk.get {one : Nat → Bool} {n : Nat} (hn : n ≤ 10) {gs : List Nat} {i : Nat} (h : SplitOk one n gs i) {k : Nat} (hk : k < gs.length) : gs.getD k 0 ≠ 0 ∧ gs.getD k 0 < 1024 ∧ one (gs.getD k 0) = true ∧ gs.getD k 0 < 2 ^ n := by
  have hm := getD_mem (d := 0) hk
  have hp : 2 ^ n ≤ 2 ^ 10 := Nat.pow_le_pow_right (by omega) hn
  have := sub_lt (h.p.mem_sub hm) (show 2 ^ n - 1 < 2 ^ n from Nat.sub_lt (Nat.two_pow_pos _) (by omega))
  exact ⟨(h.p.ok _ hm).1, by omega, (h.p.ok _ hm).2, this⟩
theorem SplitOk.lt {one : Nat → Bool} {n : Nat} (hn : n ≤ 10) {gs : List Nat} {i : Nat} (h : SplitOk one n gs i) (hl : gs.length < n) : i < gs.length := by
  rcases Nat.lt_or_ge i gs.length with hi | hi
  · exact hi
  · have hp : 2 ^ n ≤ 2 ^ 10 := Nat.pow_le_pow_right (by omega) hn
    have h1 := Nat.two_pow_pos n
    have := pc_sum gs _ (show 2 ^ n - 1 < 2 ^ 10 by omega) h.p fun g hg => by
      obtain ⟨k, hk, rfl⟩ := mem_getD.1 hg
      obtain ⟨a, b, _⟩ := h.get hn hk
      rw [← h.s k (by omega), lowb_eq a]
      exact pc_one _ (testBit_lt (low_test b a) b)
    rw [pc_full _ hn] at this
    omega
theorem SplitOk.next {one : Nat → Bool} {n : Nat} {gs : List Nat} {i : Nat} (h : SplitOk one n gs i) (hi : i < gs.length) (hs : lowb (gs.getD i 0) = gs.getD i 0) : SplitOk one n gs (i + 1) :=
  ⟨h.p, hi, fun k hk => by
    rcases Nat.lt_or_ge k i with h1 | h1
    · exact h.s k h1
    · obtain rfl : k = i := by omega
      exact hs⟩
theorem cutG_len (gs : List Nat) (i : Nat) : (cutG gs i).length = gs.length + 1 := by simp [cutG]
theorem SplitOk.cut {one : Nat → Bool} (hd : Down one) {n : Nat} (hn : n ≤ 10) {gs : List Nat} {i : Nat} (h : SplitOk one n gs i) (hi : i < gs.length) (hs : lowb (gs.getD i 0) ≠ gs.getD i 0) : SplitOk one n (cutG gs i) i := by
  obtain ⟨a, b, _⟩ := h.get hn hi
  obtain ⟨pre, post, h1, h2⟩ := set_split hi
  have hlo := low_test b a
  have hr : gs.getD i 0 ^^^ (gs.getD i 0 &&& 2 ^ low (gs.getD i 0)) ≠ 0 := fun hc => by
    apply hs
    rw [lowb_eq a]
    have e := two_pow_sub hlo
    rw [e] at hc
    exact (Nat.eq_of_testBit_eq fun j => by
      have := congrArg (·.testBit j) hc
      rw [Nat.testBit_xor, Nat.zero_testBit] at this
      generalize (gs.getD i 0).testBit j = u at this ⊢
      generalize (2 ^ low (gs.getD i 0)).testBit j = v at this ⊢
      cases u <;> cases v <;> first | rfl | cases this)
  refine ⟨?_, by rw [cutG_len]; omega, fun k hk => ?_⟩
  · have hp : Parts one (2 ^ n - 1) (gs.getD i 0 :: (pre ++ post)) := h.p.perm (by
      have := @List.perm_middle _ (gs.getD i 0) pre post
      rw [← h1] at this
      exact this)
    have := hp.cut hd hlo hr
    refine this.perm ?_
    unfold cutG
    rw [h2, lowb_eq a]
    generalize gs.getD i 0 ^^^ (gs.getD i 0 &&& 2 ^ low (gs.getD i 0)) = y
    generalize 2 ^ low (gs.getD i 0) = z
    refine (List.Perm.cons y ?_).trans (List.perm_middle.symm.trans (List.Perm.of_eq (List.append_assoc pre (y :: post) [z]).symm))
    refine (List.perm_append_comm (l₁ := [z]) (l₂ := pre ++ post)).trans (List.Perm.of_eq (List.append_assoc _ _ _))
  · unfold cutG
    rw [getD_app_l (by rw [List.length_set]; omega), set_get hi, if_neg (by omega)]
    exact h.s k hk
theorem SplitOk.all {one : Nat → Bool} (hd : Down one) {n most : Nat} (hn : n ≤ 10) (hm : most ≤ n) : ∀ (f : Nat) (gs : List Nat) (i : Nat), SplitOk one n gs i → 2 * most ≤ f + gs.length + i → gs.length ≤ most →
    Parts one (2 ^ n - 1) (splitG most f gs i) ∧ (splitG most f gs i).length = most
  | 0, gs, i, h, hf, hl => by
    have := h.le
    exact ⟨h.p, by show gs.length = most; omega⟩
  | f + 1, gs, i, h, hf, hl => by
    unfold splitG
    split
    · rename_i hlt
      have hi := h.lt hn (by omega)
      split
      · rename_i hs
        exact SplitOk.all hd hn hm f gs (i + 1) (h.next hi hs) (by omega) hl
      · rename_i hs
        exact SplitOk.all hd hn hm f _ i (h.cut hd hn hi hs) (by rw [cutG_len]; omega) (by rw [cutG_len]; omega)
    · exact ⟨h.p, by omega⟩
end Go.Proofs.YtcnkbdfkjhlbiaaDoor
namespace Go.Proofs.YtcnkbdfkjhlbiaaDoor
open Go.Sy
set_option maxRecDepth 8000
def Census.manyS (c : Census) (most : Bool) : Int := if most then (readW c).persons.hi else (readW c).persons.lo
def Census.groupsS (c : Census) (most : Bool) : List Nat := splitG (c.manyS most).toNat 20 (showG (readW c).one (readW c).least 1024 (2 ^ (blocksOf c).length - 1)) 0
def Census.showS (c : Census) (most : Bool) : List (List Int) × Int := if c.tried true = 0 then ((c.groupsS most).map fun g => nats (elems (unionB (blocksOf c) (elems g))), 0) else ([], c.tried true)
structure ShowOk (c : Census) : Prop where
  f : Fine c
  r : Readable c
  t : TabC c (readW c).one (readW c).least
  l : lst c < 1024
  m : ∀ most, 0 ≤ c.manyS most ∧ lst c ≤ c.manyS most ∧ c.manyS most ≤ (blocksOf c).length
theorem show_ok {c : Census} (h0 : c.tried true = 0) : ShowOk c := by
  have hk : c.check = 0 := by
    unfold Census.tried at h0
    split at h0
    · rename_i h; exact absurd h0 h
    · rename_i h; simpa using h
  have hf := fine_iff.1 hk
  have hle : (pers c).lo ≤ (pers c).hi := by
    unfold Census.tried at h0
    rw [if_neg (fun hc => hc hk)] at h0
    simp only [Bool.not_true, Bool.false_eq_true, if_false] at h0
    split at h0
    · cases h0
    · rename_i h
      have h : ¬ (pers c).lo > (pers c).hi := h
      omega
  have hlo := pers_lo hf.pairs hf.n10
  have key : ∀ m : Nat, (pers c).lo ≤ m → (m : Int) ≤ (pers c).hi → lst c < 1024 ∧ lst c ≤ m ∧ m ≤ (blocksOf c).length := fun m h1 h2 => (sem_iff hf.pairs hf.n10).1 ((pers_iff hf.pairs hf.n10 hf.lims).2 ⟨h1, h2⟩).1
  have kl := key (pers c).lo.toNat (by omega) (by omega)
  have kh := key (pers c).hi.toNat (by omega) (by omega)
  refine ⟨hf, Census.readable hk, tabC hf.pairs hf.n10, kl.1, fun most => ?_⟩
  unfold Census.manyS
  show 0 ≤ (if most = true then (pers c).hi else (pers c).lo) ∧ lst c ≤ (if most = true then (pers c).hi else (pers c).lo) ∧ (if most = true then (pers c).hi else (pers c).lo) ≤ _
  cases most
  · simp only [Bool.false_eq_true, if_false]; omega
  · simp only [if_true]; omega
theorem rU_snoc (l : List Nat) (x : Nat) : rU (l ++ [x]) = rU l ++ [[U x]] := by simp [rU]
theorem rU_cut (l : List Nat) (i : Nat) : rU (cutG l i) = (rU l).set i [U (l.getD i 0 ^^^ (l.getD i 0 &&& lowb (l.getD i 0)) : Nat)] ++ [[U (lowb (l.getD i 0))]] := by
  unfold cutG
  rw [rU_snoc, rU, rU, List.map_set]
theorem rU_fz {r : Nat → Nat} {hp hp' : HpT} (l : List Nat) : F2 (F2 fun s x => TnS r hp hp' s (.d x)) (rU l) (dU l) := by
  induction l with
  | nil => exact .nil
  | cons x l ih => exact .cons (.cons (TnS.d _) .nil) ih
theorem rU_tn {r : Nat → Nat} {hp hp' : HpT} (l : List Nat) : F2 (F2 (TnS r hp hp')) (rU l) (rU l) := by
  induction l with
  | nil => exact .nil
  | cons x l ih => exact .cons (.cons (TnS.d _) .nil) ih
theorem rU_cut_tn {r : Nat → Nat} {hp hp' : HpT} {l : List Nat} {i : Nat} : F2 (F2 (TnS r hp hp')) ((rU l).set i [U (l.getD i 0 ^^^ (l.getD i 0 &&& lowb (l.getD i 0)) : Nat)] ++ [[U (lowb (l.getD i 0))]]) ((rU l).set i [U (l.getD i 0 ^^^ (l.getD i 0 &&& lowb (l.getD i 0)) : Nat)] ++ [[U (lowb (l.getD i 0))]]) := by
  rw [← rU_cut]; exact rU_tn _
abbrev tysW47_57 := And.intro ty.sz0 <| And.intro ty.agg0 <| And.intro ty.elem0 <| And.intro ty.sz3 <| And.intro ty.agg3 <| And.intro ty.elem3 <| And.intro ty.zero3 <| And.intro ty.und3 <| And.intro ty.sz4 <| And.intro ty.agg4 <| And.intro ty.elem4 <| And.intro ty.zero4 <| And.intro ty.und4 <| And.intro ty.sz30 <| And.intro ty.agg30 <| And.intro ty.fld30_0 <| And.intro ty.fld30_1 <| And.intro ty.elem30 <| And.intro ty.zero30 <| And.intro ty.pl30 <| And.intro ty.sz31 <| And.intro ty.agg31 <| And.intro ty.elem31 <| And.intro ty.zero31 <| And.intro ty.und31 <| And.intro ty.sz37 <| And.intro ty.agg37 <| And.intro ty.fld37_0 <| And.intro ty.fld37_1 <| And.intro ty.fld37_2 <| And.intro ty.fld37_3 <| And.intro ty.fld37_4 <| And.intro ty.elem37 <| And.intro ty.zero37 <| And.intro ty.pl37 <| And.intro ty.sz39 <| And.intro ty.agg39 <| And.intro ty.elem39 <| And.intro ty.by39 <| And.intro ty.ez39 <| And.intro ty.zero39 <| And.intro ty.und39 <| And.intro ty.sz43 <| And.intro ty.agg43 <| And.intro ty.elem43 <| And.intro ty.by43 <| And.intro ty.ez43 <| And.intro ty.zero43 <| And.intro ty.und43 <| And.intro ty.sz108 <| And.intro ty.agg108 <| And.intro ty.elem108 <| And.intro ty.zero108 <| And.intro ty.sz109 <| And.intro ty.agg109 <| And.intro ty.elem109 <| And.intro ty.sz114 <| And.intro ty.agg114 <| And.intro ty.elem114 <| And.intro ty.zero114 <| And.intro ty.und114 <| And.intro ty.sz142 <| And.intro ty.agg142 <| And.intro ty.elem142 <| And.intro ty.by142 <| And.intro ty.ez142 <| And.intro ty.zero142 <| And.intro ty.und142 <| And.intro ty.sz144 <| And.intro ty.agg144 <| And.intro ty.elem144 <| And.intro ty.arr144 <| And.intro ty.zero144 <| And.intro ty.und144 <| And.intro ty.sz146 <| And.intro ty.agg146 <| And.intro ty.fld146_0 <| And.intro ty.fld146_1 <| And.intro ty.fld146_2 <| And.intro ty.fld146_3 <| And.intro ty.elem146 <| And.intro ty.zero146 <| And.intro ty.pl146 <| And.intro ty.sz154 <| And.intro ty.agg154 <| And.intro ty.elem154 <| ty.zero154
set_option maxHeartbeats 4000000 in
theorem Show_c (c : Census) (hs : c.small) (most : Bool) : CallP Tryd.prog G0 57 [c.s, B most] (.tup [SL (c.showS most).1, I (c.showS most).2]) := by
  refine CallP.body 130 [.tmp 4, .tmp 5] Tryd.func57 (by kernel_rfl) rfl rfl rfl (by repeat' (first | exact Pure.d _ | exact Pure.dx _ | exact Pure.dp _ | exact fa_nil | refine fa_cons ?_ ?_ | refine Pure.agg ?_ | refine Pure.tup ?_ | refine Pure.clo ?_ ?_ | refine Pure.fp ?_ | exact Pure.mapd _ | assumption)) (by repeat' (first | exact Pure.d _ | exact Pure.dx _ | exact Pure.dp _ | exact fa_nil | refine fa_cons ?_ ?_ | refine Pure.agg ?_ | refine Pure.tup ?_ | refine Pure.clo ?_ ?_ | refine Pure.fp ?_ | exact Pure.mapd _ | assumption)) ?_
  refine Tr.reg [1, 2, 4, 5] (by
      simp only [↓sxd, sxu, ↓zE, ↓exq, St.keep, ↓zI, Nat.reduceBEq, Nat.reduceAdd, Nat.reduceLT, Nat.reduceEqDiff]
      (repeat' (first | rfl | exact trivial | exact fun h => h | exact fun h => (by rw [h]; rfl) | apply And.intro | omega | exact Nat.le_of_ble_eq_true rfl))) ?_
  have hv1 : svCells (c.triedW true) = [c.triedW true] := by unfold Census.triedW; split <;> rfl
  have hv2 : (c.triedW true).one = true := by unfold Census.triedW; split <;> rfl
  have hv3 : svOk (c.triedW true) = true := by unfold Census.triedW; split <;> rfl
  refine Tr.reg [1, 4, 5, 6, 7] (by
      simp only [↓sxd, sxu, ↓zE, ↓exq, St.keep, ↓zD, Nat.reduceBEq, Nat.reduceAdd, Nat.reduceLT, tysW47_57]
      (repeat ((with_reducible refine And.intro ?_ ?_); (focus (first | with_reducible rfl | trivial | exact fun h => h | exact fun h => (by rw [h]; rfl) | omega | assumption))))
      refine CallO.use (tried'_c c hs true) ?_
      try simp only [↓sxd, sxu, ↓zE, ↓exq, ↓zN, ↓zM, Nat.reduceBEq, Nat.reduceAdd, Nat.reduceLT, Nat.reduceEqDiff, tysW47_57, hv1, hv2, hv3]
      (repeat' (first | rfl | exact trivial | exact fun h => h | exact fun h => (by rw [h]; rfl) | apply And.intro | omega | exact Nat.le_of_ble_eq_true rfl))) ?_
  refine Tr.seq ?_
  refine Tr.reg [1, 4, 5, 6, 7, 26] (by
      simp only [↓sxd, sxu, ↓zE, ↓exq, St.keep, Nat.reduceBEq, Nat.reduceLT]
      (repeat' (first | rfl | exact trivial | exact fun h => h | exact fun h => (by rw [h]; rfl) | apply And.intro | omega | exact Nat.le_of_ble_eq_true rfl))) ?_
  refine Tr.cond rfl (fun h26 => ?_) (fun h26 => ?_)
  · have hne : c.tried true ≠ 0 := by simpa using h26
    have hS : c.showS most = ([], c.tried true) := if_neg hne
    rw [hS]
    refine Tr.reg [4, 5] (by
        simp only [↓sxd, sxu, ↓zE, ↓exq, St.keep, Nat.reduceBEq, Nat.reduceLT]
        (repeat' (first | rfl | exact trivial | exact fun h => h | exact fun h => (by rw [h]; rfl) | apply And.intro | omega | exact Nat.le_of_ble_eq_true rfl))) ?_
    refine Tr.imp (Imp.fin (tm' := [(4, SL []), (5, I (c.tried true))]) (.cons rfl (TnS.dxd _) (.cons rfl (TnS.d _) trivial))) ?_
    refine Tr.ret ?_
    (refine ⟨.inr rfl, ?_⟩; first | rfl | exact ⟨rfl, rfl, trivial⟩ | exact ⟨rfl, rfl, rfl, trivial⟩ | (simp only [Res, ResL, ResOK, ↓sxd, sxu, ↓zE, ↓zC, zK, ↓exP, ↓exq, ↓zB, St.keep, ↓zL, ↓zJ, ↓zD, ↓zN, ↓zV, ↓zM, ↓zI, ↓zG, ↓zQ, ↓z7, ↓zA, Nat.reduceBEq, Nat.reduceAdd, Nat.reduceLT, Nat.reduceMul, Nat.reduceSub, Nat.reduceLeDiff, Nat.reduceEqDiff, Int.reduceLE, Int.reduceLT, Int.reduceToNat, reduceIte, implies_true, sxe, tysW47_57]; (repeat' (first | rfl | exact trivial | exact fun h => h | exact fun h => (by rw [h]; rfl) | apply And.intro | omega | exact Nat.le_of_ble_eq_true rfl))))
  · have h0 : c.tried true = 0 := by simpa using h26
    have ho := show_ok h0
    have hW : c.triedW true = .dp (readW c).d := if_pos h0
    have hS : c.showS most = ((c.groupsS most).map fun g => nats (elems (unionB (blocksOf c) (elems g))), 0) := if_pos h0
    rw [hS, h0, hW]
    have hwk := readW_ok ho.r
    obtain ⟨hm1, hm2, hm3⟩ := ho.m most
    have hnb := ho.t.nb
    have hw20 := whole_c (readW c) (show (blocksOf c).length ≤ 20 by omega)
    refine Tr.skip ?_
    refine Tr.reg [1, 4, 5, 6, 8] (by
        simp only [↓sxd, sxu, ↓zE, ↓exq, St.keep, ↓zD, Nat.reduceBEq, Nat.reduceLT, tysW47_57]
        (repeat ((with_reducible refine And.intro ?_ ?_); (focus (first | with_reducible rfl | trivial | exact fun h => h | exact fun h => (by rw [h]; rfl) | omega | assumption))))
        refine CallO.use (persons_c _ hwk) ?_
        try simp only [↓sxd, sxu, ↓zE, ↓exq, ↓z7, Nat.reduceBEq, Nat.reduceLT]
        (repeat' (first | rfl | exact trivial | exact fun h => h | exact fun h => (by rw [h]; rfl) | apply And.intro | omega | exact Nat.le_of_ble_eq_true rfl))) ?_
    refine Tr.seq ?_
    refine Tr.reg [4, 5, 6, 8, 31] (by
        simp only [↓sxd, sxu, ↓zE, ↓exq, St.keep, Nat.reduceBEq, Nat.reduceLT]
        (repeat' (first | rfl | exact trivial | exact fun h => h | exact fun h => (by rw [h]; rfl) | apply And.intro | omega | exact Nat.le_of_ble_eq_true rfl))) ?_
    refine Tr.join2 (st' := ⟨[(4, .dx []), (5, I 0), (6, .ptr 1 0 0), (8, I (c.manyS most))], [(1, .arr 1 [[.dp (readW c).d]])], 2, 130, [], 0⟩) ?_ ?_
    ·
      refine Tr.cond rfl (fun h31 => ?_) (fun h31 => ?_)
      · have hmo : most = true := h31
        refine Tr.reg1 [4, 5, 6, 8] (by
            simp only [↓sxd, sxu, ↓zE, ↓exq, St.keep, ↓zD, Nat.reduceBEq, Nat.reduceLT, tysW47_57]
            (repeat ((with_reducible refine And.intro ?_ ?_); (focus (first | with_reducible rfl | trivial | exact fun h => h | exact fun h => (by rw [h]; rfl) | omega | assumption))))
            refine CallO.use (persons_c _ hwk) ?_
            try simp only [↓sxd, sxu, ↓zE, ↓exq, ↓z7, Nat.reduceBEq, Nat.reduceLT]
            (repeat' (first | rfl | exact trivial | exact fun h => h | exact fun h => (by rw [h]; rfl) | apply And.intro | omega | exact Nat.le_of_ble_eq_true rfl))) ?_
        subst hmo
        refine ⟨_, ?_, rfl⟩
        exact Imp.go (fun i => i) [(1, _)] rfl rfl (.cons_cons _ (.cons _ .slnil)) (fun _ _ => rfl) (fun _ h => h) (.cons rfl (TnS.dx _) (.cons rfl (TnS.d _) (.cons rfl (TnS.ptr rfl) (.cons rfl (TnS.d _) trivial)))) (.cons ⟨rfl, TnO.arr (by repeat' (first | exact TmT.cons rfl (TnS.d _) ?_ | exact trivial | exact F2.nil | refine F2.append ?_ ?_ | refine F2.map fun _ _ => ?_ | refine F2.cons ?_ ?_ | refine TmT.cons rfl ?_ ?_ | exact TnS.d _ | exact TnS.dx _ | exact TnS.dp _ | exact TnS.slc rfl | exact TnS.ptr rfl | refine TnS.frzf rfl (by simp) (by simp) (by simp) ?_ | refine TnS.frz0 rfl (by simp) (by simp) (by simp) ?_ | refine TnS.frzm rfl (by simp) ?_ | exact TnS.mapr rfl | exact TnS.yld rfl | refine ⟨rfl, ?_⟩ | refine TnO.arr ?_ | refine TnO.map ?_ | exact TnO.raw _ | exact TnO.iter _ _ | refine TnS.agg ?_ | refine TnS.tup ?_ | exact TnS.pure (Pure.clo (by assumption) (by assumption)) | refine TnS.clo ?_ ?_ | exact TnS.unk _ | exact TnS.pure (Pure.clo (by assumption) (by assumption))))⟩ .nil) (fun _ => rfl)
      · have hmo : most = false := h31
        refine Tr.skip ?_
        subst hmo
        refine ⟨_, ?_, rfl⟩
        exact Imp.go (fun i => i) [(1, _)] rfl rfl (.cons_cons _ (.cons _ .slnil)) (fun _ _ => rfl) (fun _ h => h) (.cons rfl (TnS.dx _) (.cons rfl (TnS.d _) (.cons rfl (TnS.ptr rfl) (.cons rfl (TnS.d _) trivial)))) (.cons ⟨rfl, TnO.arr (by repeat' (first | exact TmT.cons rfl (TnS.d _) ?_ | exact trivial | exact F2.nil | refine F2.append ?_ ?_ | refine F2.map fun _ _ => ?_ | refine F2.cons ?_ ?_ | refine TmT.cons rfl ?_ ?_ | exact TnS.d _ | exact TnS.dx _ | exact TnS.dp _ | exact TnS.slc rfl | exact TnS.ptr rfl | refine TnS.frzf rfl (by simp) (by simp) (by simp) ?_ | refine TnS.frz0 rfl (by simp) (by simp) (by simp) ?_ | refine TnS.frzm rfl (by simp) ?_ | exact TnS.mapr rfl | exact TnS.yld rfl | refine ⟨rfl, ?_⟩ | refine TnO.arr ?_ | refine TnO.map ?_ | exact TnO.raw _ | exact TnO.iter _ _ | refine TnS.agg ?_ | refine TnS.tup ?_ | exact TnS.pure (Pure.clo (by assumption) (by assumption)) | refine TnS.clo ?_ ?_ | exact TnS.unk _ | exact TnS.pure (Pure.clo (by assumption) (by assumption))))⟩ .nil) (fun _ => rfl)
    refine Tr.reg [4, 5, 6, 8, 9] (by
        simp only [↓sxd, sxu, ↓zE, ↓exq, St.keep, ↓zM, Nat.reduceBEq, Nat.reduceAdd, Nat.reduceLT, Nat.reduceEqDiff, tysW47_57]
        (repeat' (first | rfl | exact trivial | exact fun h => h | exact fun h => (by rw [h]; rfl) | apply And.intro | omega | exact Nat.le_of_ble_eq_true rfl))) ?_
    refine Tr.imp (st' := ⟨[(4, .dx []), (5, I 0), (6, .ptr 1 0 0), (8, I (c.manyS most)), (9, .ptr 2 0 0)], [(3, .arr 1 []), (2, .arr 1 [[.slc 3 1 0 0 0]]), (1, .arr 1 [[.dp (readW c).d]])], 4, 130, [], 0⟩) (Imp.goV 1 rfl rfl rfl rfl (by repeat' (first | exact trivial | exact F2.nil | refine F2.cons ?_ ?_ | refine TmV.cons rfl VnS.nil ?_ | refine TmV.cons rfl VnS.same ?_ | refine ⟨rfl, ?_⟩ | exact VnO.same _ | refine VnO.arr ?_ | exact VnS.nil | exact VnS.same | exact F2.refl fun _ _ => VnS.same)) (by repeat' (first | exact trivial | exact F2.nil | refine F2.cons ?_ ?_ | refine TmV.cons rfl VnS.nil ?_ | refine TmV.cons rfl VnS.same ?_ | refine ⟨rfl, ?_⟩ | exact VnO.same _ | refine VnO.arr ?_ | exact VnS.nil | exact VnS.same | exact F2.refl fun _ _ => VnS.same))) ?_
    refine Tr.seq ?_
    refine Tr.reg [4, 5, 6, 8, 9, 10] (by
        simp only [↓sxd, sxu, ↓zE, ↓exq, St.keep, ↓zD, Nat.reduceBEq, Nat.reduceLT, tysW47_57]
        (repeat ((with_reducible refine And.intro ?_ ?_); (focus (first | with_reducible rfl | trivial | exact fun h => h | exact fun h => (by rw [h]; rfl) | omega | assumption))))
        refine CallO.use (hw20) ?_
        try simp only [↓sxd, sxu, ↓zE, ↓exq, ↓zM, Nat.reduceBEq, Nat.reduceAdd, Nat.reduceLT, Nat.reduceEqDiff, tysW47_57]
        (repeat' (first | rfl | exact trivial | exact fun h => h | exact fun h => (by rw [h]; rfl) | apply And.intro | omega | exact Nat.le_of_ble_eq_true rfl))) ?_
    obtain ⟨one, h1e⟩ : ∃ x, x = (readW c).one := ⟨_, rfl⟩
    obtain ⟨L, hLe⟩ : ∃ x, x = (readW c).least := ⟨_, rfl⟩
    obtain ⟨G0, hG0⟩ : ∃ x, x = showG (readW c).one (readW c).least 1024 (2 ^ (blocksOf c).length - 1) := ⟨_, rfl⟩
    have hp0 := Nat.two_pow_pos (blocksOf c).length
    have hp10 : 2 ^ (blocksOf c).length ≤ 2 ^ 10 := Nat.pow_le_pow_right (by omega) hnb
    have hlst : (readW c).least.getD (2 ^ (blocksOf c).length - 1) 0 < 1024 := ho.l
    obtain ⟨hGp, hGl⟩ := ho.t.show 1024 (2 ^ (blocksOf c).length - 1) (by omega) (by omega) hlst
    rw [← hG0] at hGp hGl
    have hl1 := hwk.h1
    have hl2 := hwk.h2
    refine Tr.imp (st' := ⟨[(4, .dx []), (5, I 0), (6, .ptr 1 0 0), (8, I (c.manyS most)), (9, .ptr 2 0 0), (10, .ptr 4 0 0)], [(4, .arr 1 [[U (((2 ^ (blocksOf c).length - 1)) : Nat)]]), (3, .arr 1 (rU [])), (2, .arr 1 [[.slc 3 1 0 [].length [].length]]), (1, .arr 1 [[.dp (readW c).d]])], 5, 130, [0], 0⟩) (Imp.flag) (Tr.block (Tr.loopI (fun mm ss => ∃ (s : Nat) (gs : List Nat), (s < 2 ^ (blocksOf c).length ∧ (readW c).least.getD s 0 < 1024 ∧ ∃ f, s < f ∧ gs ++ showG (readW c).one (readW c).least f s = G0) ∧ s = mm ∧ ss = ⟨[(4, .dx []), (5, I 0), (6, .ptr 1 0 0), (8, I (c.manyS most)), (9, .ptr 2 0 0), (10, .ptr 4 0 0)], [(4, .arr 1 [[U (s : Nat)]]), (3, .arr 1 (rU gs)), (2, .arr 1 [[.slc 3 1 0 gs.length gs.length]]), (1, .arr 1 [[.dp (readW c).d]])], 5, 130, [0], 0⟩) _ ⟨(2 ^ (blocksOf c).length - 1), [], ?_, rfl, rfl⟩ ?_))
    · exact ⟨by omega, hlst, 1024, by omega, hG0.symm⟩
    rintro mm ss ⟨s, gs, hI, rfl, rfl⟩
    obtain ⟨hs2, hsl, f, hsf, hsg⟩ := hI
    have hs10 : s < 1024 := by omega
    have hgl : gs.length ≤ G0.length := by rw [← hsg, List.length_append]; omega
    have hG1024 : G0.length < 1024 := by omega
    refine Tr.seq ?_
    refine Tr.reg [4, 5, 6, 8, 9, 10, 38] (by
        simp only [↓sxd, sxu, ↓zE, ↓exq, St.keep, ↓zD, Nat.reduceBEq, Nat.reduceLT, tysW47_57]
        (repeat' (first | rfl | exact trivial | exact fun h => h | exact fun h => (by rw [h]; rfl) | apply And.intro | omega | exact Nat.le_of_ble_eq_true rfl))) ?_
    refine Tr.cond rfl (fun h38 => ?_) (fun h38 => ?_)
    · have hs0 : s ≠ 0 := by have := bne_iff_ne.1 h38; omega
      refine Tr.skip ?_
      refine Tr.seq ?_
      refine Tr.block ?_
      refine Tr.reg [4, 5, 6, 8, 9, 10, 41] (by
          simp only [↓sxd, sxu, ↓zE, ↓exq, St.keep, ↓zD, Nat.reduceBEq, Nat.reduceLT, tysW47_57]
          (repeat ((with_reducible refine And.intro ?_ ?_); (focus (first | with_reducible rfl | trivial | exact fun h => h | exact fun h => (by rw [h]; rfl) | omega | assumption))))
          refine (groupsD_h _ _ _ s).mono ?_
          rintro r hp' nx' ⟨rfl, rfl, rfl⟩
          try simp only [↓sxd, sxu, Nat.reduceBEq, Nat.reduceAdd]
          (repeat' (first | rfl | exact trivial | exact fun h => h | exact fun h => (by rw [h]; rfl) | apply And.intro | omega | exact Nat.le_of_ble_eq_true rfl))) ?_
      refine Tr.block ?_
      refine Tr.rangeF2 rfl (fun fn ca cb has hbd => ?_)
      try dsimp only
      refine CallH.mono (groups1D_h (readW c) hl1 s hs10 (fun gs => ∀ x ∈ gs, ((readW c).least.getD s 0 == 1 + (readW c).least.getD (s ^^^ (s &&& x)) 0) = false) (fun x hx => by cases hx) (fun _ => (7, .loop fn _ _ _ ca cb .ready none 0) :: (6, .arr 1 [[U s]]) :: (5, .arr 1 [[.dp (readW c).d]]) :: (4, .arr 1 [[U s]]) :: (3, .arr 1 (rU gs)) :: (2, .arr 1 [[.slc 3 1 0 gs.length gs.length]]) :: (1, .arr 1 [[.dp (readW c).d]]) :: []) 8 6 5 7 (fun _ => rfl) (fun _ => rfl) (fun hp' nx' => ∃ g, pickG (readW c).one (readW c).least s = some g ∧ hp' = [(8, .arr 1 (rU gs ++ [[U g]])), (7, .loop fn [(4, .dx []), (5, I 0), (6, .ptr 1 0 0), (8, I (c.manyS most)), (9, .ptr 2 0 0), (10, .ptr 4 0 0), (41, .clo (.func 117) [] [.ptr 6 0 0, .ptr 5 0 0])] 130 #[42] ca cb .done (some (.exit 2)) 0), (6, .arr 1 [[U s]]), (5, .arr 1 [[.dp (readW c).d]]), (4, .arr 1 [[U (s ^^^ (s &&& g) : Nat)]]), (2, .arr 1 [[.slc 8 1 0 (gs.length + 1) (gs.length + 1)]]), (1, .arr 1 [[.dp (readW c).d]])] ∧ nx' = 9) ?_) ?_
      · intro qs g ts hqs hno
        have hgm : g ∈ groupsL (readW c).one s := by rw [← hqs]; simp
        obtain ⟨g1, g2, g3, g4⟩ := ho.t.group hs2 hs0 hgm
        have hg : g < 1024 := Nat.lt_of_lt_of_le (sub_lt g1 hs2) hp10
        have hx := andNot_le s g
        have hb1 := ho.t.b s
        have hb2 := ho.t.b (s ^^^ (s &&& g))
        refine RoundH.of_body2 has hbd rfl rfl (fun t ht => by simp at ht; subst ht; decide) (fun ro => ?_)
        refine Tr.reg1 [4, 5, 6, 8, 9, 10, 11] (by
            simp only [↓sxd, sxu, ↓zE, ↓exq, St.keep, Nat.reduceBEq, Nat.reduceLT, bindT]
            (repeat' (first | rfl | exact trivial | exact fun h => h | exact fun h => (by rw [h]; rfl) | apply And.intro | omega | exact Nat.le_of_ble_eq_true rfl))) ?_
        refine ⟨rfl, none, _, rfl, ?_⟩
        try dsimp only
        refine Tr.block ?_
        have wL : IntKind.i64.wrap (1 + (readW c).least.getD (s ^^^ (s &&& g)) 0) = 1 + (readW c).least.getD (s ^^^ (s &&& g)) 0 := wr (by omega) (by omega)
        refine Tr.regD [0, 1, 2, 3, 4, 5, 6, 7, 8, 9, 10, 11, 12, 13, 14, 15] [] [] [4, 5, 6, 8, 9, 10, 11, 58] mix (by kernel_rfl) (by
            simp only [↓sxd, sxu, ↓zC, zK, ↓exq, St.keep, ↓zD, ↓zV, ↓zA, Nat.reduceBEq, Nat.reduceLT, Nat.reduceEqDiff, sxe, tysW47_57, Work.tl, tl_least hl1, le_get (show s < (readW c).least.length by omega), le_get0 (show s < (readW c).least.length by omega), le_get (show s ^^^ (s &&& g) < (readW c).least.length by omega), le_get0 (show s ^^^ (s &&& g) < (readW c).least.length by omega), andNot_u (show s < 18446744073709551616 by omega) (show g < 18446744073709551616 by omega), wL]
            (repeat' (first | rfl | exact trivial | exact fun h => h | exact fun h => (by rw [h]; rfl) | apply And.intro | omega | exact Nat.le_of_ble_eq_true rfl))) ?_
        refine Tr.cond rfl (fun h58 => ?_) (fun h58 => ?_)
        · skip
          have hk1 : (gs.length + 1 ≤ 1073741824) = True := eq_true (by omega)
          refine Tr.reg [4, 5, 6, 8, 9, 10, 11] (by
              simp only [↓sxd, sxu, ↓zE, ↓exq, ↓zB, St.keep, ↓zD, ↓zG, ↓zQ, Nat.reduceBEq, Nat.reduceAdd, Nat.reduceLT, Nat.reduceLeDiff, Nat.reduceEqDiff, tysW47_57, hk1]
              (repeat' (first | rfl | exact trivial | exact fun h => h | exact fun h => (by rw [h]; rfl) | apply And.intro | omega | exact Nat.le_of_ble_eq_true rfl))) ?_
          refine Tr.reg [4, 5, 6, 8, 9, 10] (by
              simp only [↓sxd, sxu, ↓zE, ↓exq, St.keep, ↓zD, Nat.reduceBEq, Nat.reduceLT, Nat.reduceEqDiff, tysW47_57, andNot_u (show s < 18446744073709551616 by omega) (show g < 18446744073709551616 by omega)]
              (repeat' (first | rfl | exact trivial | exact fun h => h | exact fun h => (by rw [h]; rfl) | apply And.intro | omega | exact Nat.le_of_ble_eq_true rfl))) ?_
          refine Tr.exit ?_
          refine ⟨_, _, _, _, _, _, _, _, _, rfl, ?_⟩
          exact .inr ⟨rfl, g, pickG_first hqs hno h58, rfl, rfl⟩
        · refine Tr.skip ?_
          refine ⟨_, _, _, _, _, _, _, _, _, rfl, ?_⟩
          refine .inl ⟨rfl, fun x hx => ?_, rfl, rfl⟩
          rcases List.mem_append.1 hx with hx | hx
          · exact hno x hx
          · rw [List.mem_singleton] at hx
            rw [hx]; exact h58
      rintro r hp' nx' (⟨hno, _, _⟩ | ⟨g, hpk, rfl, rfl⟩)
      · exact (ho.t.none hs2 hs0 hsl hno).elim
      obtain ⟨hgm, hgL⟩ := pickG_spec hpk
      obtain ⟨g1, g2, g3, g4⟩ := ho.t.group hs2 hs0 hgm
      obtain ⟨f, rfl⟩ : ∃ f', f = f' + 1 := ⟨f - 1, by omega⟩
      rw [showG, if_neg hs0, hpk] at hsg
      refine ⟨_, .done, some (.exit 2), rfl, by decide, ?_⟩
      try dsimp only
      refine Tr.exit ?_
      refine Tr.reg [4, 5, 6, 8, 9, 66] (by
          simp only [↓sxd, sxu, ↓zE, ↓exq, St.keep, ↓zD, Nat.reduceBEq, Nat.reduceLT, Nat.reduceEqDiff, tysW47_57]
          (repeat' (first | rfl | exact trivial | exact fun h => h | exact fun h => (by rw [h]; rfl) | apply And.intro | omega | exact Nat.le_of_ble_eq_true rfl))) ?_
      refine Tr.reg1 [4, 5, 6, 8, 9, 10] (by
          simp only [↓sxd, sxu, ↓zE, ↓exq, St.keep, ↓zM, Nat.reduceBEq, Nat.reduceAdd, Nat.reduceLT, Nat.reduceEqDiff, tysW47_57]
          (repeat' (first | rfl | exact trivial | exact fun h => h | exact fun h => (by rw [h]; rfl) | apply And.intro | omega | exact Nat.le_of_ble_eq_true rfl))) ?_
      refine ⟨_, _, ?_, ?_, ⟨s ^^^ (s &&& g), gs ++ [g], ⟨by omega, by omega, f, by omega, ?_⟩, rfl, rfl⟩⟩
      · exact g4
      · rw [List.length_append, List.length_singleton, rU_snoc]
        exact Imp.go (fun i => if i = 3 then 8 else if i = 4 then 9 else if i < 3 then i else i + 5) [(9, _), (8, _), (2, _), (1, _)] rfl rfl (.cons_cons _ (.cons_cons _ (.cons _ (.cons _ (.cons _ (.cons _ (.refl _))))))) (fun _ h => absurd h (Nat.not_lt_zero _)) (fun id h => by simp only [show ¬ id = 3 by omega, show ¬ id = 4 by omega, show ¬ id < 3 by omega, if_false]; omega) (by repeat' (first | exact TmT.cons rfl (TnS.d _) ?_ | exact trivial | exact F2.nil | refine F2.append ?_ ?_ | refine F2.map fun _ _ => ?_ | refine F2.cons ?_ ?_ | refine TmT.cons rfl ?_ ?_ | exact TnS.d _ | exact TnS.dx _ | exact TnS.dp _ | exact TnS.slc rfl | exact TnS.ptr rfl | refine TnS.frzf rfl (by simp) (by simp) (by simp) ?_ | refine TnS.frz0 rfl (by simp) (by simp) (by simp) ?_ | refine TnS.frzm rfl (by simp) ?_ | exact TnS.mapr rfl | exact TnS.yld rfl | refine ⟨rfl, ?_⟩ | refine TnO.arr ?_ | refine TnO.map ?_ | exact TnO.raw _ | exact TnO.iter _ _ | refine TnS.agg ?_ | refine TnS.tup ?_ | exact TnS.pure (Pure.clo (by assumption) (by assumption)) | refine TnS.clo ?_ ?_ | exact TnS.unk _ | exact TnS.pure (Pure.clo (by assumption) (by assumption)))) (by repeat' (first | exact TmT.cons rfl (TnS.d _) ?_ | exact trivial | exact F2.nil | refine F2.append ?_ ?_ | refine F2.map fun _ _ => ?_ | refine F2.cons ?_ ?_ | refine TmT.cons rfl ?_ ?_ | exact TnS.d _ | exact TnS.dx _ | exact TnS.dp _ | exact TnS.slc rfl | exact TnS.ptr rfl | refine TnS.frzf rfl (by simp) (by simp) (by simp) ?_ | refine TnS.frz0 rfl (by simp) (by simp) (by simp) ?_ | refine TnS.frzm rfl (by simp) ?_ | exact TnS.mapr rfl | exact TnS.yld rfl | refine ⟨rfl, ?_⟩ | refine TnO.arr ?_ | refine TnO.map ?_ | exact TnO.raw _ | exact TnO.iter _ _ | refine TnS.agg ?_ | refine TnS.tup ?_ | exact TnS.pure (Pure.clo (by assumption) (by assumption)) | refine TnS.clo ?_ ?_ | exact TnS.unk _ | exact TnS.pure (Pure.clo (by assumption) (by assumption)))) (fun h => by cases h)
      · rw [← hsg, List.append_assoc]; rfl
    · have hs0 : s = 0 := by simpa using h38
      refine Tr.exit ?_
      refine Tr.seq ?_
      subst hs0
      obtain ⟨f, rfl⟩ : ∃ f', f = f' + 1 := ⟨f - 1, by omega⟩
      rw [showG, if_pos rfl, List.append_nil] at hsg
      subst hsg
      obtain ⟨mn, hmm⟩ := Int.eq_ofNat_of_zero_le hm1
      have hml : gs.length ≤ mn := by
        have : lst c ≤ mn := by rw [← hmm]; exact hm2
        have hl : (readW c).least.getD (2 ^ (blocksOf c).length - 1) 0 = lst c := rfl
        omega
      have hmb : mn ≤ (blocksOf c).length := by omega
      refine Tr.reg [6, 8, 9, 12] (by
          simp only [↓sxd, sxu, ↓zE, ↓exq, St.keep, Nat.reduceBEq, Nat.reduceLT]
          (repeat' (first | rfl | exact trivial | exact fun h => h | exact fun h => (by rw [h]; rfl) | apply And.intro | omega | exact Nat.le_of_ble_eq_true rfl))) ?_
      refine Tr.imp (st' := ⟨[(6, .ptr 1 0 0), (8, I (c.manyS most)), (9, .ptr 2 0 0), (12, I 0)], [(3, .arr 1 (rU gs)), (2, .arr 1 [[.slc 3 1 0 gs.length gs.length]]), (1, .arr 1 [[.dp (readW c).d]])], 5, 130, [0], 0⟩) (Imp.go (fun i => i) [(3, _), (2, _), (1, _)] rfl rfl (.cons _ (.refl _)) (fun _ _ => rfl) (fun _ h => h) (by repeat' (first | exact TmT.cons rfl (TnS.d _) ?_ | exact trivial | exact F2.nil | refine F2.append ?_ ?_ | refine F2.map fun _ _ => ?_ | refine F2.cons ?_ ?_ | refine TmT.cons rfl ?_ ?_ | exact TnS.d _ | exact TnS.dx _ | exact TnS.dp _ | exact TnS.slc rfl | exact TnS.ptr rfl | refine TnS.frzf rfl (by simp) (by simp) (by simp) ?_ | refine TnS.frz0 rfl (by simp) (by simp) (by simp) ?_ | refine TnS.frzm rfl (by simp) ?_ | exact TnS.mapr rfl | exact TnS.yld rfl | refine ⟨rfl, ?_⟩ | refine TnO.arr ?_ | refine TnO.map ?_ | exact TnO.raw _ | exact TnO.iter _ _ | refine TnS.agg ?_ | refine TnS.tup ?_ | exact TnS.pure (Pure.clo (by assumption) (by assumption)) | refine TnS.clo ?_ ?_ | exact TnS.unk _ | exact TnS.pure (Pure.clo (by assumption) (by assumption)))) (by repeat' (first | exact TmT.cons rfl (TnS.d _) ?_ | exact trivial | exact F2.nil | refine F2.append ?_ ?_ | refine F2.map fun _ _ => ?_ | refine F2.cons ?_ ?_ | refine TmT.cons rfl ?_ ?_ | exact TnS.d _ | exact TnS.dx _ | exact TnS.dp _ | exact TnS.slc rfl | exact TnS.ptr rfl | refine TnS.frzf rfl (by simp) (by simp) (by simp) ?_ | refine TnS.frz0 rfl (by simp) (by simp) (by simp) ?_ | refine TnS.frzm rfl (by simp) ?_ | exact TnS.mapr rfl | exact TnS.yld rfl | refine ⟨rfl, ?_⟩ | refine TnO.arr ?_ | refine TnO.map ?_ | exact TnO.raw _ | exact TnO.iter _ _ | refine TnS.agg ?_ | refine TnS.tup ?_ | exact TnS.pure (Pure.clo (by assumption) (by assumption)) | refine TnS.clo ?_ ?_ | exact TnS.unk _ | exact TnS.pure (Pure.clo (by assumption) (by assumption)))) (fun h => by cases h)) (Tr.block (Tr.loopI (fun mm ss => ∃ (i : Nat) (qs : List Nat), (SplitOk (oneP c) (blocksOf c).length qs i ∧ qs.length ≤ mn ∧ ∃ f, splitG mn f qs i = c.groupsS most ∧ 2 * mn ≤ f + qs.length + i) ∧ 2 * mn - qs.length - i = mm ∧ ss = ⟨[(6, .ptr 1 0 0), (8, I (c.manyS most)), (9, .ptr 2 0 0), (12, I i)], [(3, .arr 1 (rU qs)), (2, .arr 1 [[.slc 3 1 0 qs.length qs.length]]), (1, .arr 1 [[.dp (readW c).d]])], 5, 130, [0], 0⟩) _ ⟨0, gs, ?_, rfl, rfl⟩ ?_))
      · exact ⟨⟨hGp, Nat.zero_le _, fun k hk => by omega⟩, hml, 20, by unfold Census.groupsS; rw [hmm, ← hG0]; rfl, by omega⟩
      rintro mm ss ⟨i, qs, hI, rfl, rfl⟩
      obtain ⟨hsp, hql, f2, hf2, hfl⟩ := hI
      refine Tr.seq ?_
      refine Tr.reg [6, 8, 9, 12, 70] (by
          simp only [↓sxd, sxu, ↓zE, ↓exq, ↓zB, St.keep, ↓zJ, ↓zD, Nat.reduceBEq, Nat.reduceLT, tysW47_57]
          (repeat' (first | rfl | exact trivial | exact fun h => h | exact fun h => (by rw [h]; rfl) | apply And.intro | omega | exact Nat.le_of_ble_eq_true rfl))) ?_
      refine Tr.cond rfl (fun h70 => ?_) (fun h70 => ?_)
      · have hlt : qs.length < mn := by have := of_decide_eq_true h70; omega
        have hi := hsp.lt hnb (by omega)
        obtain ⟨x0, x1, x2, x3⟩ := hsp.get hnb hi
        have hge := rU_get hi
        obtain ⟨f2, rfl⟩ : ∃ f', f2 = f' + 1 := ⟨f2 - 1, by omega⟩
        have hlb := (bits_le x1).1
        refine Tr.skip ?_
        refine Tr.block ?_
        refine Tr.regD [0, 1, 2, 3, 4, 5, 6, 7, 8, 9, 10] [] [] [6, 8, 9, 12, 13] mix (by kernel_rfl) (by
            simp only [↓sxd, sxu, ↓zC, zK, ↓exq, St.keep, ↓zL, ↓zD, Nat.reduceBEq, Nat.reduceLT, sxe, tysW47_57, hi, hge, lowb_u (show qs.getD i 0 < 4096 by omega)]
            (repeat' (first | rfl | exact trivial | exact fun h => h | exact fun h => (by rw [h]; rfl) | apply And.intro | omega | exact Nat.le_of_ble_eq_true rfl))) ?_
        refine Tr.seq ?_
        refine Tr.reg [6, 8, 9, 12, 13, 86] (by
            simp only [↓sxd, sxu, ↓zE, ↓exq, St.keep, ↓zD, Nat.reduceBEq, Nat.reduceLT, sxe, tysW47_57, hi, hge]
            (repeat' (first | rfl | exact trivial | exact fun h => h | exact fun h => (by rw [h]; rfl) | apply And.intro | omega | exact Nat.le_of_ble_eq_true rfl))) ?_
        refine Tr.cond rfl (fun h86 => ?_) (fun h86 => ?_)
        · have hs1 : lowb (qs.getD i 0) = qs.getD i 0 := by have := beq_iff_eq.1 h86; omega
          rw [splitG, if_pos hlt, if_pos hs1] at hf2
          have w1 : IntKind.i64.wrap ((i : Int) + 1) = ((i + 1 : Nat) : Int) := by rw [wr (by omega) (by omega)]; rfl
          refine Tr.reg [6, 8, 9, 12] (by
              simp only [↓sxd, sxu, ↓zE, ↓exq, St.keep, Nat.reduceBEq, Nat.reduceLT, w1]
              (repeat' (first | rfl | exact trivial | exact fun h => h | exact fun h => (by rw [h]; rfl) | apply And.intro | omega | exact Nat.le_of_ble_eq_true rfl))) ?_
          refine Tr.exit ?_
          first |(have hz := hs1.symm; exact ⟨_, _, by omega, Imp.keepAll, ⟨i + 1, qs, ⟨hsp.next hi hs1, hql, f2, hf2, by omega⟩, rfl, rfl⟩⟩) |(exact ⟨_, _, (by rw [cutG_len]; omega), (by rw [cutG_len, rU_cut]; exact Imp.go (fun i => if i = 3 then 5 else if i < 5 then i else i + 1) [(5, _), (2, _), (1, _)] rfl rfl (.refl _) (fun _ h => absurd h (Nat.not_lt_zero _)) (fun id h => by simp only [show ¬ id = 3 by omega, show ¬ id < 5 by omega, if_false]; omega) (by repeat' (first | exact TmT.cons rfl (TnS.d _) ?_ | exact trivial | exact F2.nil | refine F2.append ?_ ?_ | refine F2.map fun _ _ => ?_ | refine F2.cons ?_ ?_ | refine TmT.cons rfl ?_ ?_ | exact TnS.d _ | exact TnS.dx _ | exact TnS.dp _ | exact TnS.slc rfl | exact TnS.ptr rfl | refine TnS.frzf rfl (by simp) (by simp) (by simp) ?_ | refine TnS.frz0 rfl (by simp) (by simp) (by simp) ?_ | refine TnS.frzm rfl (by simp) ?_ | exact TnS.mapr rfl | exact TnS.yld rfl | refine ⟨rfl, ?_⟩ | refine TnO.arr ?_ | refine TnO.map ?_ | exact TnO.raw _ | exact TnO.iter _ _ | refine TnS.agg ?_ | refine TnS.tup ?_ | exact TnS.pure (Pure.clo (by assumption) (by assumption)) | refine TnS.clo ?_ ?_ | exact TnS.unk _ | exact TnS.pure (Pure.clo (by assumption) (by assumption)))) (.cons ⟨rfl, TnO.arr rU_cut_tn⟩ (.cons ⟨rfl, TnO.arr (by repeat' (first | exact TmT.cons rfl (TnS.d _) ?_ | exact trivial | exact F2.nil | refine F2.append ?_ ?_ | refine F2.map fun _ _ => ?_ | refine F2.cons ?_ ?_ | refine TmT.cons rfl ?_ ?_ | exact TnS.d _ | exact TnS.dx _ | exact TnS.dp _ | exact TnS.slc rfl | exact TnS.ptr rfl | refine TnS.frzf rfl (by simp) (by simp) (by simp) ?_ | refine TnS.frz0 rfl (by simp) (by simp) (by simp) ?_ | refine TnS.frzm rfl (by simp) ?_ | exact TnS.mapr rfl | exact TnS.yld rfl | refine ⟨rfl, ?_⟩ | refine TnO.arr ?_ | refine TnO.map ?_ | exact TnO.raw _ | exact TnO.iter _ _ | refine TnS.agg ?_ | refine TnS.tup ?_ | exact TnS.pure (Pure.clo (by assumption) (by assumption)) | refine TnS.clo ?_ ?_ | exact TnS.unk _ | exact TnS.pure (Pure.clo (by assumption) (by assumption))))⟩ (.cons ⟨rfl, TnO.arr (by repeat' (first | exact TmT.cons rfl (TnS.d _) ?_ | exact trivial | exact F2.nil | refine F2.append ?_ ?_ | refine F2.map fun _ _ => ?_ | refine F2.cons ?_ ?_ | refine TmT.cons rfl ?_ ?_ | exact TnS.d _ | exact TnS.dx _ | exact TnS.dp _ | exact TnS.slc rfl | exact TnS.ptr rfl | refine TnS.frzf rfl (by simp) (by simp) (by simp) ?_ | refine TnS.frz0 rfl (by simp) (by simp) (by simp) ?_ | refine TnS.frzm rfl (by simp) ?_ | exact TnS.mapr rfl | exact TnS.yld rfl | refine ⟨rfl, ?_⟩ | refine TnO.arr ?_ | refine TnO.map ?_ | exact TnO.raw _ | exact TnO.iter _ _ | refine TnS.agg ?_ | refine TnS.tup ?_ | exact TnS.pure (Pure.clo (by assumption) (by assumption)) | refine TnS.clo ?_ ?_ | exact TnS.unk _ | exact TnS.pure (Pure.clo (by assumption) (by assumption))))⟩ .nil))) (fun h => by cases h)), ⟨i, cutG qs i, ⟨hsp.cut (oneP_down ho.f.pairs ho.f.n10) hnb hi hs1, by rw [cutG_len]; omega, f2, hf2, by rw [cutG_len]; omega⟩, rfl, rfl⟩⟩)
        · have hs1 : lowb (qs.getD i 0) ≠ qs.getD i 0 := fun hc => by rw [hc] at h86; simp at h86
          rw [splitG, if_pos hlt, if_neg hs1] at hf2
          refine Tr.skip ?_
          refine Tr.reg [6, 8, 9, 12, 13] (by
              simp only [↓sxd, sxu, ↓zE, ↓exq, St.keep, ↓zD, Nat.reduceBEq, Nat.reduceLT, Nat.reduceEqDiff, sxe, tysW47_57, hi, hge, andNot_u (show qs.getD i 0 < 18446744073709551616 by omega) (show lowb (qs.getD i 0) < 18446744073709551616 by omega)]
              (repeat' (first | rfl | exact trivial | exact fun h => h | exact fun h => (by rw [h]; rfl) | apply And.intro | omega | exact Nat.le_of_ble_eq_true rfl))) ?_
          have hrl : (rU qs).length = qs.length := by simp
          have hk3 : (qs.length ≤ 1073741823) = True := eq_true (by omega)
          have hk2 : (qs.length + 1 ≤ 1073741824) = True := eq_true (by omega)
          refine Tr.reg1 [6, 8, 9, 12] (by
              simp only [↓sxd, sxu, ↓zE, ↓exq, ↓zB, St.keep, ↓zD, ↓zG, ↓zQ, Nat.reduceBEq, Nat.reduceAdd, Nat.reduceLT, Nat.reduceLeDiff, Nat.reduceEqDiff, tysW47_57, hk2, List.length_set, hrl]
              (repeat' (first | rfl | exact trivial | exact fun h => h | exact fun h => (by rw [h]; rfl) | apply And.intro | omega | exact Nat.le_of_ble_eq_true rfl))) ?_
          first |(have hz := hs1.symm; exact ⟨_, _, by omega, Imp.keepAll, ⟨i + 1, qs, ⟨hsp.next hi hs1, hql, f2, hf2, by omega⟩, rfl, rfl⟩⟩) |(exact ⟨_, _, (by rw [cutG_len]; omega), (by rw [cutG_len, rU_cut]; exact Imp.go (fun i => if i = 3 then 5 else if i < 5 then i else i + 1) [(5, _), (2, _), (1, _)] rfl rfl (.refl _) (fun _ h => absurd h (Nat.not_lt_zero _)) (fun id h => by simp only [show ¬ id = 3 by omega, show ¬ id < 5 by omega, if_false]; omega) (by repeat' (first | exact TmT.cons rfl (TnS.d _) ?_ | exact trivial | exact F2.nil | refine F2.append ?_ ?_ | refine F2.map fun _ _ => ?_ | refine F2.cons ?_ ?_ | refine TmT.cons rfl ?_ ?_ | exact TnS.d _ | exact TnS.dx _ | exact TnS.dp _ | exact TnS.slc rfl | exact TnS.ptr rfl | refine TnS.frzf rfl (by simp) (by simp) (by simp) ?_ | refine TnS.frz0 rfl (by simp) (by simp) (by simp) ?_ | refine TnS.frzm rfl (by simp) ?_ | exact TnS.mapr rfl | exact TnS.yld rfl | refine ⟨rfl, ?_⟩ | refine TnO.arr ?_ | refine TnO.map ?_ | exact TnO.raw _ | exact TnO.iter _ _ | refine TnS.agg ?_ | refine TnS.tup ?_ | exact TnS.pure (Pure.clo (by assumption) (by assumption)) | refine TnS.clo ?_ ?_ | exact TnS.unk _ | exact TnS.pure (Pure.clo (by assumption) (by assumption)))) (.cons ⟨rfl, TnO.arr rU_cut_tn⟩ (.cons ⟨rfl, TnO.arr (by repeat' (first | exact TmT.cons rfl (TnS.d _) ?_ | exact trivial | exact F2.nil | refine F2.append ?_ ?_ | refine F2.map fun _ _ => ?_ | refine F2.cons ?_ ?_ | refine TmT.cons rfl ?_ ?_ | exact TnS.d _ | exact TnS.dx _ | exact TnS.dp _ | exact TnS.slc rfl | exact TnS.ptr rfl | refine TnS.frzf rfl (by simp) (by simp) (by simp) ?_ | refine TnS.frz0 rfl (by simp) (by simp) (by simp) ?_ | refine TnS.frzm rfl (by simp) ?_ | exact TnS.mapr rfl | exact TnS.yld rfl | refine ⟨rfl, ?_⟩ | refine TnO.arr ?_ | refine TnO.map ?_ | exact TnO.raw _ | exact TnO.iter _ _ | refine TnS.agg ?_ | refine TnS.tup ?_ | exact TnS.pure (Pure.clo (by assumption) (by assumption)) | refine TnS.clo ?_ ?_ | exact TnS.unk _ | exact TnS.pure (Pure.clo (by assumption) (by assumption))))⟩ (.cons ⟨rfl, TnO.arr (by repeat' (first | exact TmT.cons rfl (TnS.d _) ?_ | exact trivial | exact F2.nil | refine F2.append ?_ ?_ | refine F2.map fun _ _ => ?_ | refine F2.cons ?_ ?_ | refine TmT.cons rfl ?_ ?_ | exact TnS.d _ | exact TnS.dx _ | exact TnS.dp _ | exact TnS.slc rfl | exact TnS.ptr rfl | refine TnS.frzf rfl (by simp) (by simp) (by simp) ?_ | refine TnS.frz0 rfl (by simp) (by simp) (by simp) ?_ | refine TnS.frzm rfl (by simp) ?_ | exact TnS.mapr rfl | exact TnS.yld rfl | refine ⟨rfl, ?_⟩ | refine TnO.arr ?_ | refine TnO.map ?_ | exact TnO.raw _ | exact TnO.iter _ _ | refine TnS.agg ?_ | refine TnS.tup ?_ | exact TnS.pure (Pure.clo (by assumption) (by assumption)) | refine TnS.clo ?_ ?_ | exact TnS.unk _ | exact TnS.pure (Pure.clo (by assumption) (by assumption))))⟩ .nil))) (fun h => by cases h)), ⟨i, cutG qs i, ⟨hsp.cut (oneP_down ho.f.pairs ho.f.n10) hnb hi hs1, by rw [cutG_len]; omega, f2, hf2, by rw [cutG_len]; omega⟩, rfl, rfl⟩⟩)
      · have hqe : qs.length = mn := by have := of_decide_eq_false h70; omega
        have hqs : qs = c.groupsS most := by
          rw [← hf2]
          cases f2 with
          | zero => rfl
          | succ f2 => rw [splitG, if_neg (by omega)]
        rw [← hqs]
        refine Tr.exit ?_
        refine Tr.reg [6, 9, 14] (by
            simp only [↓sxd, sxu, ↓zE, ↓exq, St.keep, Nat.reduceBEq, Nat.reduceLT]
            (repeat' (first | rfl | exact trivial | exact fun h => h | exact fun h => (by rw [h]; rfl) | apply And.intro | omega | exact Nat.le_of_ble_eq_true rfl))) ?_
        refine Tr.seq ?_
        refine Tr.reg [6, 14, 100, 101, 102] (by
            simp only [↓sxd, sxu, ↓zE, ↓exq, ↓zB, St.keep, ↓zJ, ↓zD, Nat.reduceBEq, Nat.reduceLT, tysW47_57]
            (repeat' (first | rfl | exact trivial | exact fun h => h | exact fun h => (by rw [h]; rfl) | apply And.intro | omega | exact Nat.le_of_ble_eq_true rfl))) ?_
        refine Tr.imp (st' := ⟨[(6, .ptr 1 0 0), (14, .slc 5 1 0 0 0), (100, .d (.sl (dU qs))), (101, I qs.length), (102, I 0)], [(5, .arr 1 []), (1, .arr 1 [[.dp (readW c).d]])], 6, 130, [0], 0⟩) (Imp.trans (b := ⟨[(6, .ptr 1 0 0), (14, .dx []), (100, .d (.sl (dU qs))), (101, I qs.length), (102, I 0)], [(1, .arr 1 [[.dp (readW c).d]])], 5, 130, [0], 0⟩) (Imp.go (fun i => i) [(1, _)] rfl rfl (.cons _ (.cons _ (.refl _))) (fun _ _ => rfl) (fun _ h => h) (.cons rfl (TnS.ptr rfl) (.cons rfl (TnS.dx _) (.cons rfl (TnS.frz0 (id := 3) (sz := 1) (len := qs.length) (es := rU qs) rfl (by simp) (by simp) (by simp) (rU_fz _)) (.cons rfl (TnS.d _) (.cons rfl (TnS.d _) trivial))))) (by repeat' (first | exact TmT.cons rfl (TnS.d _) ?_ | exact trivial | exact F2.nil | refine F2.append ?_ ?_ | refine F2.map fun _ _ => ?_ | refine F2.cons ?_ ?_ | refine TmT.cons rfl ?_ ?_ | exact TnS.d _ | exact TnS.dx _ | exact TnS.dp _ | exact TnS.slc rfl | exact TnS.ptr rfl | refine TnS.frzf rfl (by simp) (by simp) (by simp) ?_ | refine TnS.frz0 rfl (by simp) (by simp) (by simp) ?_ | refine TnS.frzm rfl (by simp) ?_ | exact TnS.mapr rfl | exact TnS.yld rfl | refine ⟨rfl, ?_⟩ | refine TnO.arr ?_ | refine TnO.map ?_ | exact TnO.raw _ | exact TnO.iter _ _ | refine TnS.agg ?_ | refine TnS.tup ?_ | exact TnS.pure (Pure.clo (by assumption) (by assumption)) | refine TnS.clo ?_ ?_ | exact TnS.unk _ | exact TnS.pure (Pure.clo (by assumption) (by assumption)))) (fun h => by cases h)) (Imp.goV 1 rfl rfl rfl rfl (by repeat' (first | exact trivial | exact F2.nil | refine F2.cons ?_ ?_ | refine TmV.cons rfl VnS.nil ?_ | refine TmV.cons rfl VnS.same ?_ | refine ⟨rfl, ?_⟩ | exact VnO.same _ | refine VnO.arr ?_ | exact VnS.nil | exact VnS.same | exact F2.refl fun _ _ => VnS.same)) (by repeat' (first | exact trivial | exact F2.nil | refine F2.cons ?_ ?_ | refine TmV.cons rfl VnS.nil ?_ | refine TmV.cons rfl VnS.same ?_ | refine ⟨rfl, ?_⟩ | exact VnO.same _ | refine VnO.arr ?_ | exact VnS.nil | exact VnS.same | exact F2.refl fun _ _ => VnS.same)))) ?_
        have hbl := (blocksOf_sem ho.f.pairs).ok
        have hn10 := ho.f.n10
        have hn2 : 2 ^ c.entries.length ≤ 2 ^ 10 := Nat.pow_le_pow_right (by omega) hn10
        have hbe : (readW c).blocks = blocksOf c := rfl
        refine Tr.imp (st' := ⟨[(6, .ptr 1 0 0), (14, .slc 5 1 0 0 0), (100, .d (.sl (dU qs))), (101, I qs.length), (102, I 0)], [(5, .arr 1 (uL ((qs.take 0).map fun g => nats (elems (unionB (blocksOf c) (elems g)))))), (1, .arr 1 [[.dp (readW c).d]])], 6, 130, [0], 0⟩) (Imp.keepAll) (Tr.block (Tr.loopI (fun mm ss => ∃ (k : Nat), (k ≤ qs.length) ∧ qs.length - k = mm ∧ ss = ⟨[(6, .ptr 1 0 0), (14, .slc 5 1 0 k k), (100, .d (.sl (dU qs))), (101, I qs.length), (102, I k)], [(5, .arr 1 (uL ((qs.take k).map fun g => nats (elems (unionB (blocksOf c) (elems g)))))), (1, .arr 1 [[.dp (readW c).d]])], 6, 130, [0], 0⟩) _ ⟨0, ?_, rfl, rfl⟩ ?_))
        · exact Nat.zero_le _
        rintro mm ss ⟨k, hI, rfl, rfl⟩
        refine Tr.reg [6, 14, 100, 101, 102, 103] (by
            simp only [↓sxd, sxu, ↓zE, ↓exq, St.keep, Nat.reduceBEq, Nat.reduceLT, sxe]
            (repeat' (first | rfl | exact trivial | exact fun h => h | exact fun h => (by rw [h]; rfl) | apply And.intro | omega | exact Nat.le_of_ble_eq_true rfl))) ?_
        refine Tr.seq ?_
        refine Tr.cond rfl (fun h103 => ?_) (fun h103 => ?_)
        · have hk : k < qs.length := by have := of_decide_eq_true h103; omega
          obtain ⟨x0, x1, x2, x3⟩ := hsp.get hnb hk
          generalize hgd : qs.getD k 0 = g at x0 x1 x2 x3
          refine Tr.skip ?_
          refine Tr.seq ?_
          refine Tr.block ?_
          refine Tr.reg [6, 14, 16, 100, 101, 102] (by
              simp only [↓sxd, sxu, ↓zE, ↓exq, St.keep, ↓zD, Nat.reduceBEq, Nat.reduceLT, sxe, tysW47_57, hk, hgd]
              (repeat' (first | rfl | exact trivial | exact fun h => h | exact fun h => (by rw [h]; rfl) | apply And.intro | omega | exact Nat.le_of_ble_eq_true rfl))) ?_
          refine Tr.reg [6, 14, 16, 17, 100, 101, 102] (by
              simp only [↓sxd, sxu, ↓zE, ↓exq, St.keep, Nat.reduceBEq, Nat.reduceLT]
              (repeat' (first | rfl | exact trivial | exact fun h => h | exact fun h => (by rw [h]; rfl) | apply And.intro | omega | exact Nat.le_of_ble_eq_true rfl))) ?_
          refine Tr.seq ?_
          refine Tr.reg [6, 14, 17, 100, 101, 102, 107, 108, 109] (by
              simp only [↓sxd, sxu, ↓zE, ↓exq, St.keep, Nat.reduceBEq, Nat.reduceLT]
              (repeat ((with_reducible refine And.intro ?_ ?_); (focus (first | with_reducible rfl | trivial | exact fun h => h | exact fun h => (by rw [h]; rfl) | omega | assumption))))
              refine CallO.use (list_c g (by omega)) ?_
              try simp only [↓sxd, sxu, ↓zE, ↓exq, ↓zB, ↓zJ, Nat.reduceBEq, Nat.reduceLT, sxe, tysW47_57]
              (repeat' (first | rfl | exact trivial | exact fun h => h | exact fun h => (by rw [h]; rfl) | apply And.intro | omega | exact Nat.le_of_ble_eq_true rfl))) ?_
          refine Tr.imp (st' := ⟨[(6, .ptr 1 0 0), (14, .slc 5 1 0 k k), (17, U (unionB (blocksOf c) ((elems g).take 0) : Nat)), (100, .d (.sl (dU qs))), (101, I qs.length), (102, I k), (107, SI (nats (elems g))), (108, I (elems g).length), (109, I 0)], [(5, .arr 1 (uL ((qs.take k).map fun g => nats (elems (unionB (blocksOf c) (elems g)))))), (1, .arr 1 [[.dp (readW c).d]])], 6, 130, [0], 0⟩) (by simp only [List.take_zero, nats_len]; exact Imp.keepAll) (Tr.block (Tr.loopI (fun mm ss => ∃ (j : Nat), (j ≤ (elems g).length) ∧ (elems g).length - j = mm ∧ ss = ⟨[(6, .ptr 1 0 0), (14, .slc 5 1 0 k k), (17, U (unionB (blocksOf c) ((elems g).take j) : Nat)), (100, .d (.sl (dU qs))), (101, I qs.length), (102, I k), (107, SI (nats (elems g))), (108, I (elems g).length), (109, I j)], [(5, .arr 1 (uL ((qs.take k).map fun g => nats (elems (unionB (blocksOf c) (elems g)))))), (1, .arr 1 [[.dp (readW c).d]])], 6, 130, [0], 0⟩) _ ⟨0, ?_, rfl, rfl⟩ ?_))
          · exact Nat.zero_le _
          rintro mm ss ⟨j, hI, rfl, rfl⟩
          refine Tr.reg [6, 14, 17, 100, 101, 102, 107, 108, 109, 110] (by
              simp only [↓sxd, sxu, ↓zE, ↓exq, St.keep, Nat.reduceBEq, Nat.reduceLT, sxe]
              (repeat' (first | rfl | exact trivial | exact fun h => h | exact fun h => (by rw [h]; rfl) | apply And.intro | omega | exact Nat.le_of_ble_eq_true rfl))) ?_
          refine Tr.seq ?_
          refine Tr.cond rfl (fun h110 => ?_) (fun h110 => ?_)
          · have hj : j < (elems g).length := by have := of_decide_eq_true h110; omega
            have hin : (elems g).getD j 0 < (blocksOf c).length := elems_lt (getD_mem hj) x3
            have u1 := unionB_lt hbl.lt ((elems g).take j)
            have u2 := hbl.lt _ (getD_mem (d := 0) hin)
            refine Tr.skip ?_
            refine Tr.seq ?_
            refine Tr.block ?_
            refine Tr.reg [6, 14, 17, 19, 100, 101, 102, 107, 108, 109] (by
                simp only [↓sxd, sxu, ↓zE, ↓exq, St.keep, ↓zD, Nat.reduceBEq, Nat.reduceLT, sxe, tysW47_57, nats_len, nats_get, hj]
                (repeat' (first | rfl | exact trivial | exact fun h => h | exact fun h => (by rw [h]; rfl) | apply And.intro | omega | exact Nat.le_of_ble_eq_true rfl))) ?_
            refine Tr.reg1 [6, 14, 17, 100, 101, 102, 107, 108, 109] (by
                simp only [↓sxd, sxu, ↓zE, ↓exq, St.keep, ↓zD, ↓zV, ↓zA, Nat.reduceBEq, Nat.reduceLT, Nat.reduceEqDiff, sxe, tysW47_57, hbe, hin, or_u (show unionB (blocksOf c) ((elems g).take j) < 18446744073709551616 by omega) (show (blocksOf c).getD ((elems g).getD j 0) 0 < 18446744073709551616 by omega)]
                (repeat' (first | rfl | exact trivial | exact fun h => h | exact fun h => (by rw [h]; rfl) | apply And.intro | omega | exact Nat.le_of_ble_eq_true rfl))) ?_
            have hel := elems_len g
            have w3 : IntKind.i64.wrap ((j : Int) + 1) = ((j + 1 : Nat) : Int) := by rw [wr (by omega) (by omega)]; rfl
            refine Tr.reg1 [6, 14, 17, 100, 101, 102, 107, 108, 109] (by
                simp only [↓sxd, sxu, ↓zE, ↓exq, St.keep, Nat.reduceBEq, Nat.reduceLT, w3]
                (repeat' (first | rfl | exact trivial | exact fun h => h | exact fun h => (by rw [h]; rfl) | apply And.intro | omega | exact Nat.le_of_ble_eq_true rfl))) ?_
            refine ⟨_, _, ?_, ?_, ⟨j + 1, hj, rfl, rfl⟩⟩
            · omega
            · have : unionB (blocksOf c) ((elems g).take (j + 1)) = unionB (blocksOf c) ((elems g).take j) ||| (blocksOf c).getD ((elems g).getD j 0) 0 := by
                rw [List.take_succ_eq_append_getElem hj, unionB_snoc, List.getD_eq_getElem?_getD (l := elems g), List.getElem?_eq_getElem hj]; rfl
              rw [this]; exact Imp.keepAll
          · have hje : j = (elems g).length := by have := of_decide_eq_false h110; omega
            subst hje
            have u3 := unionB_lt hbl.lt (elems g)
            refine Tr.exit ?_
            have htl : (qs.take k).length = k := by rw [List.length_take]; omega
            have hkk3 : (k ≤ 1073741823) = True := eq_true (by omega)
            have hkk : (k + 1 ≤ 1073741824) = True := eq_true (by omega)
            refine Tr.reg1 [6, 14, 100, 101, 102] (by
                simp only [↓sxd, sxu, ↓zE, ↓exq, St.keep, Nat.reduceBEq, Nat.reduceLT, List.take_length]
                (repeat ((with_reducible refine And.intro ?_ ?_); (focus (first | with_reducible rfl | trivial | exact fun h => h | exact fun h => (by rw [h]; rfl) | omega | assumption))))
                refine CallO.use (list_c (unionB (blocksOf c) (elems g)) (by omega)) ?_
                try simp only [↓sxd, sxu, ↓zE, ↓exq, ↓zB, ↓zG, ↓zQ, Nat.reduceBEq, Nat.reduceAdd, Nat.reduceLT, Nat.reduceLeDiff, Nat.reduceEqDiff, tysW47_57, hkk, htl]
                (repeat' (first | rfl | exact trivial | exact fun h => h | exact fun h => (by rw [h]; rfl) | apply And.intro | omega | exact Nat.le_of_ble_eq_true rfl))) ?_
            have w4 : IntKind.i64.wrap ((k : Int) + 1) = ((k + 1 : Nat) : Int) := by rw [wr (by omega) (by omega)]; rfl
            refine Tr.reg1 [6, 14, 100, 101, 102] (by
                simp only [↓sxd, sxu, ↓zE, ↓exq, St.keep, Nat.reduceBEq, Nat.reduceLT, w4]
                (repeat' (first | rfl | exact trivial | exact fun h => h | exact fun h => (by rw [h]; rfl) | apply And.intro | omega | exact Nat.le_of_ble_eq_true rfl))) ?_
            refine ⟨_, _, ?_, ?_, ⟨k + 1, hk, rfl, rfl⟩⟩
            · omega
            · have e : ((qs.take (k + 1)).map fun g => nats (elems (unionB (blocksOf c) (elems g)))) = ((qs.take k).map fun g => nats (elems (unionB (blocksOf c) (elems g)))) ++ [nats (elems (unionB (blocksOf c) (elems g)))] := by
                rw [List.take_succ_eq_append_getElem hk, List.map_append, ← hgd, List.getD_eq_getElem?_getD (l := qs), List.getElem?_eq_getElem hk]; rfl
              rw [e, uL_snoc]
              exact Imp.go (fun i => if i = 5 then 6 else if i < 5 then i else i + 1) [(6, _), (1, _)] rfl rfl (.refl _) (fun _ h => absurd h (Nat.not_lt_zero _)) (fun id h => by simp only [show ¬ id = 5 by omega, show ¬ id < 5 by omega, if_false]; omega) (by repeat' (first | exact TmT.cons rfl (TnS.d _) ?_ | exact trivial | exact F2.nil | refine F2.append ?_ ?_ | refine F2.map fun _ _ => ?_ | refine F2.cons ?_ ?_ | refine TmT.cons rfl ?_ ?_ | exact TnS.d _ | exact TnS.dx _ | exact TnS.dp _ | exact TnS.slc rfl | exact TnS.ptr rfl | refine TnS.frzf rfl (by simp) (by simp) (by simp) ?_ | refine TnS.frz0 rfl (by simp) (by simp) (by simp) ?_ | refine TnS.frzm rfl (by simp) ?_ | exact TnS.mapr rfl | exact TnS.yld rfl | refine ⟨rfl, ?_⟩ | refine TnO.arr ?_ | refine TnO.map ?_ | exact TnO.raw _ | exact TnO.iter _ _ | refine TnS.agg ?_ | refine TnS.tup ?_ | exact TnS.pure (Pure.clo (by assumption) (by assumption)) | refine TnS.clo ?_ ?_ | exact TnS.unk _ | exact TnS.pure (Pure.clo (by assumption) (by assumption)))) (by repeat' (first | exact TmT.cons rfl (TnS.d _) ?_ | exact trivial | exact F2.nil | refine F2.append ?_ ?_ | refine F2.map fun _ _ => ?_ | refine F2.cons ?_ ?_ | refine TmT.cons rfl ?_ ?_ | exact TnS.d _ | exact TnS.dx _ | exact TnS.dp _ | exact TnS.slc rfl | exact TnS.ptr rfl | refine TnS.frzf rfl (by simp) (by simp) (by simp) ?_ | refine TnS.frz0 rfl (by simp) (by simp) (by simp) ?_ | refine TnS.frzm rfl (by simp) ?_ | exact TnS.mapr rfl | exact TnS.yld rfl | refine ⟨rfl, ?_⟩ | refine TnO.arr ?_ | refine TnO.map ?_ | exact TnO.raw _ | exact TnO.iter _ _ | refine TnS.agg ?_ | refine TnS.tup ?_ | exact TnS.pure (Pure.clo (by assumption) (by assumption)) | refine TnS.clo ?_ ?_ | exact TnS.unk _ | exact TnS.pure (Pure.clo (by assumption) (by assumption)))) (fun h => by cases h)
        · have hke : k = qs.length := by have := of_decide_eq_false h103; omega
          subst hke
          rw [List.take_length]
          refine Tr.exit ?_
          refine Tr.reg [4, 5] (by
              simp only [↓sxd, sxu, ↓zE, ↓exq, St.keep, Nat.reduceBEq, Nat.reduceLT]
              (repeat' (first | rfl | exact trivial | exact fun h => h | exact fun h => (by rw [h]; rfl) | apply And.intro | omega | exact Nat.le_of_ble_eq_true rfl))) ?_
          refine Tr.imp (Imp.fin (tm' := [(4, SL (qs.map fun g => nats (elems (unionB (blocksOf c) (elems g))))), (5, I 0)]) ?_) ?_
          · exact .cons rfl (TnS.frz0 (es := uL _) rfl (by simp) (by simp) (by simp) (uL_fz _)) (.cons rfl (TnS.d _) trivial)
          refine Tr.ret ?_
          (refine ⟨.inr rfl, ?_⟩; first | rfl | exact ⟨rfl, rfl, trivial⟩ | exact ⟨rfl, rfl, rfl, trivial⟩ | (simp only [Res, ResL, ResOK, ↓sxd, sxu, ↓zE, ↓zC, zK, ↓exP, ↓exq, ↓zB, St.keep, ↓zL, ↓zJ, ↓zD, ↓zN, ↓zV, ↓zM, ↓zI, ↓zG, ↓zQ, ↓z7, ↓zA, Nat.reduceBEq, Nat.reduceAdd, Nat.reduceLT, Nat.reduceMul, Nat.reduceSub, Nat.reduceLeDiff, Nat.reduceEqDiff, Int.reduceLE, Int.reduceLT, Int.reduceToNat, reduceIte, implies_true, sxe, tysW47_57]; (repeat' (first | rfl | exact trivial | exact fun h => h | exact fun h => (by rw [h]; rfl) | apply And.intro | omega | exact Nat.le_of_ble_eq_true rfl))))
end Go.Proofs.YtcnkbdfkjhlbiaaDoor
namespace Go.Proofs.YtcnkbdfkjhlbiaaDoor
open Go.Sy
set_option maxRecDepth 8000
theorem sorted_get {l : List Nat} (h : l.Pairwise (· < ·)) {i k : Nat} (hik : i < k) (hk : k < l.length) : l.getD i 0 < l.getD k 0 := by
  have := (List.pairwise_iff_getElem.1 h) i k (by omega) hk hik
  simpa only [List.getD_eq_getElem?_getD, List.getElem?_eq_getElem hk, List.getElem?_eq_getElem (show i < l.length by omega), Option.getD_some] using this
theorem asgOne_law {n u sn : Nat} (hu : u < 2 ^ n) (hd : ∀ e, u.testBit e = true → sn.testBit e = false) : ∀ i, i ≤ (elems u).length →
    ∃ own s2, asgOne n (nats (elems u)) sn i = some (own, s2) ∧ (∀ e, own.testBit e = true ↔ ∃ k, k < i ∧ (elems u).getD k 0 = e) ∧ (∀ e, s2.testBit e = true ↔ sn.testBit e = true ∨ ∃ k, k < i ∧ (elems u).getD k 0 = e)
  | 0, _ => ⟨0, sn, rfl, fun e => by simp, fun e => by simp⟩
  | i + 1, hi => by
    obtain ⟨own, s2, h1, h2, h3⟩ := asgOne_law hu hd i (by omega)
    have hm := getD_mem (d := 0) (show i < (elems u).length by omega)
    have hx := (mem_elems.1 hm).2
    have hxn := elems_lt hm hu
    rw [asgOne_step h1, nats_get]
    generalize hxd : (elems u).getD i 0 = x at hm hx hxn
    have e1 : within (x : Int) 0 (n - 1) = true := by simp only [within, Bool.and_eq_true, decide_eq_true_eq]; omega
    have e2 : s2.testBit x = false := by
      cases h : s2.testBit x
      · rfl
      · rcases (h3 x).1 h with h | ⟨k, hk, h⟩
        · rw [hd x hx] at h; cases h
        · have := sorted_get (elems_sorted u) hk (show i < (elems u).length by omega)
          omega
    have e3 : (decide (0 < i) && decide ((x : Int) ≤ (nats (elems u)).getD (i - 1) 0)) = false := by
      rw [nats_get]
      by_cases h0 : 0 < i
      · have := sorted_get (elems_sorted u) (show i - 1 < i by omega) (show i < (elems u).length by omega)
        rw [decide_eq_false (show ¬ (x : Int) ≤ (((elems u).getD (i - 1) 0 : Nat) : Int) by omega), Bool.and_false]
      · rw [decide_eq_false h0, Bool.false_and]
    rw [e1, e3, Int.toNat_natCast, e2]
    have key : ∀ e, (∃ k, k < i + 1 ∧ (elems u).getD k 0 = e) ↔ ((∃ k, k < i ∧ (elems u).getD k 0 = e) ∨ e = x) := fun e => by
      constructor
      · rintro ⟨k, hk, h⟩
        rcases Nat.lt_or_ge k i with h' | h'
        · exact .inl ⟨k, h', h⟩
        · obtain rfl : k = i := by omega
          exact .inr (by rw [← h, hxd])
      · rintro (⟨k, hk, h⟩ | rfl)
        · exact ⟨k, by omega, h⟩
        · exact ⟨i, by omega, hxd⟩
    refine ⟨own ||| 2 ^ x, s2 ||| 2 ^ x, rfl, fun e => ?_, fun e => ?_⟩
    · rw [or_pow, h2, key]
    · rw [or_pow, h3, key, or_assoc]
theorem asgOne_all {n u sn : Nat} (hn : n ≤ 10) (hu : u < 2 ^ n) (hd : ∀ e, u.testBit e = true → sn.testBit e = false) :
    ∃ s2, asgOne n (nats (elems u)) sn (nats (elems u)).length = some (u, s2) ∧ ∀ e, s2.testBit e = true ↔ sn.testBit e = true ∨ u.testBit e = true := by
  obtain ⟨own, s2, h1, h2, h3⟩ := asgOne_law hu hd (elems u).length (Nat.le_refl _)
  have key : ∀ e, (∃ k, k < (elems u).length ∧ (elems u).getD k 0 = e) ↔ u.testBit e = true := fun e => by
    rw [← mem_getD, mem_elems]
    exact ⟨fun h => h.2, fun h => ⟨by have := testBit_lt h hu; omega, h⟩⟩
  have ho : own = u := Nat.eq_of_testBit_eq fun e => by
    rw [Bool.eq_iff_iff, h2, key]
  subst ho
  exact ⟨s2, by rw [nats_len]; exact h1, fun e => by rw [h3, key]⟩
def uni (c : Census) (g : Nat) : Nat := unionB (blocksOf c) (elems g)
theorem uni_test {c : Census} (h : Fine c) {g e : Nat} : (uni c g).testBit e = true ↔ e < c.entries.length ∧ g.testBit (blk (blocksOf c) e) = true := union_test (blocksOf_sem h.pairs) h.n10
theorem asgTo_parts {c : Census} (h : Fine c) {gs : List Nat} (hp : Parts (oneP c) (2 ^ (blocksOf c).length - 1) gs) : ∀ k, k ≤ gs.length →
    ∃ sn, c.asgTo (gs.map fun g => nats (elems (uni c g))) k = some sn ∧ ∀ e, sn.testBit e = true ↔ ∃ j, j < k ∧ (uni c (gs.getD j 0)).testBit e = true
  | 0, _ => ⟨0, rfl, fun e => by simp⟩
  | k + 1, hk => by
    obtain ⟨sn, h1, h2⟩ := asgTo_parts h hp k (by omega)
    have hm := getD_mem (d := 0) (show k < gs.length by omega)
    have hl : (gs.map fun g => nats (elems (uni c g))).getD k [] = nats (elems (uni c (gs.getD k 0))) := by
      simp [List.getD_eq_getElem?_getD, show k < gs.length by omega]
    have hu : uni c (gs.getD k 0) < 2 ^ c.entries.length := union_lt h.pairs _
    have hd : ∀ e, (uni c (gs.getD k 0)).testBit e = true → sn.testBit e = false := fun e he => by
      cases hs : sn.testBit e
      · rfl
      · obtain ⟨j, hj, hje⟩ := (h2 e).1 hs
        have := hp.idx (show j < gs.length by omega) (show k < gs.length by omega) ((uni_test h).1 hje).2 ((uni_test h).1 he).2
        omega
    obtain ⟨s2, h3, h4⟩ := asgOne_all h.n10 hu hd
    obtain ⟨g0, g1⟩ := hp.ok _ hm
    have hne : uni c (gs.getD k 0) ≠ 0 := fun hc => by
      obtain ⟨b, hb⟩ := nz_bit g0
      have hbl : b < (blocksOf c).length := testBit_lt (sub_test (hp.mem_sub hm) hb) (Nat.sub_lt (Nat.two_pow_pos _) (by omega))
      obtain ⟨e, he1, he2⟩ := nz_bit ((blocksOf_sem h.pairs).nz b hbl) |>.imp fun e he => And.intro ((blocksOf_sem h.pairs).lt hbl he) he
      have hbe := (blocksOf_sem h.pairs).eq he1 hbl he2
      have := (uni_test h (g := gs.getD k 0)).2 ⟨he1, by rw [hbe]; exact hb⟩
      rw [hc, Nat.zero_testBit] at this
      cases this
    have hfit : c.fitsSet (uni c (gs.getD k 0)) = true := g1
    have hkeep : c.keeps (uni c (gs.getD k 0)) = true := by
      unfold Census.keeps
      rw [List.all_eq_true]
      intro p hpp
      obtain ⟨q1, q2⟩ := h.pairs.ns p hpp
      rw [beq_iff_eq, Bool.eq_iff_iff, uni_test h, uni_test h, blk_same h.pairs hpp]
      exact ⟨fun x => ⟨q2, x.2⟩, fun x => ⟨q1, x.2⟩⟩
    refine ⟨s2, ?_, fun e => ?_⟩
    · rw [Census.asgTo, h1]
      show (match asgOne c.entries.length ((gs.map fun g => nats (elems (uni c g))).getD k []) sn ((gs.map fun g => nats (elems (uni c g))).getD k []).length with
        | none => none
        | some x => if x.1 = 0 ∨ c.fitsSet x.1 = false ∨ c.keeps x.1 = false then none else some x.2) = some s2
      rw [hl, h3]
      show (if uni c (gs.getD k 0) = 0 ∨ c.fitsSet (uni c (gs.getD k 0)) = false ∨ c.keeps (uni c (gs.getD k 0)) = false then none else some s2) = some s2
      rw [hfit, hkeep, if_neg (fun hc => by
        rcases hc with hc | hc | hc
        · exact hne hc
        · cases hc
        · cases hc)]
    · rw [h4, h2]
      constructor
      · rintro (⟨j, hj, hje⟩ | he)
        · exact ⟨j, by omega, hje⟩
        · exact ⟨k, by omega, he⟩
      · rintro ⟨j, hj, hje⟩
        rcases Nat.lt_or_ge j k with h' | h'
        · exact .inl ⟨j, h', hje⟩
        · obtain rfl : j = k := by omega
          exact .inr hje
theorem parts_asg {c : Census} (h : Fine c) {gs : List Nat} (hp : Parts (oneP c) (2 ^ (blocksOf c).length - 1) gs) (hs : c.sumsB gs.length = true) : c.isAsg (gs.map fun g => nats (elems (uni c g))) = true := by
  obtain ⟨sn, h1, h2⟩ := asgTo_parts h hp gs.length (Nat.le_refl _)
  have hw : within ((gs.map fun g => nats (elems (uni c g))).length : Int) c.limits.lo c.limits.hi = c.sumsB (gs.map fun g => nats (elems (uni c g))).length := by rw [limits_eq h.lims]; rfl
  rw [← asg_law h]
  unfold Census.asg
  rw [if_pos (fine_iff.2 h), hw]
  rw [List.length_map, h1]
  have hlt : sn < 2 ^ c.entries.length := Nat.lt_pow_two_of_testBit _ fun e he => by
    cases ht : sn.testBit e
    · rfl
    · obtain ⟨j, _, hj⟩ := (h2 e).1 ht
      have := ((uni_test h).1 hj).1
      omega
  have hf := (elems_full h.n10 hlt).2 fun e he => by
    obtain ⟨a, b⟩ := personOf_at h.pairs hp he
    exact (h2 e).2 ⟨_, a, (uni_test h).2 ⟨he, b⟩⟩
  show (decide ((elems sn).length = c.entries.length) && c.sumsB gs.length) = true
  rw [decide_eq_true hf, hs]; rfl
theorem show_law {c : Census} (h0 : c.tried true = 0) (most : Bool) : Fine c ∧ (c.showS most).2 = 0 ∧ c.isAsg (c.showS most).1 = true ∧ ((c.showS most).1.length : Int) = c.manyS most ∧ (c.showS most).1.length ≤ 10 ∧ ∀ l ∈ (c.showS most).1, l.length ≤ 10 := by
  have ho := show_ok h0
  have h := ho.f
  obtain ⟨m1, m2, m3⟩ := ho.m most
  have hnb := ho.t.nb
  have hp0 := Nat.two_pow_pos (blocksOf c).length
  have hp10 : 2 ^ (blocksOf c).length ≤ 2 ^ 10 := Nat.pow_le_pow_right (by omega) hnb
  obtain ⟨hGp, hGl⟩ := ho.t.show 1024 (2 ^ (blocksOf c).length - 1) (by omega) (by omega) ho.l
  have hl : (readW c).least.getD (2 ^ (blocksOf c).length - 1) 0 = lst c := rfl
  obtain ⟨hp, hlen⟩ := SplitOk.all (oneP_down h.pairs h.n10) hnb (most := (c.manyS most).toNat) (by omega) 20 _ 0 ⟨hGp, Nat.zero_le _, fun k hk => by omega⟩ (by omega) (by omega)
  have hS : c.showS most = ((c.groupsS most).map fun g => nats (elems (unionB (blocksOf c) (elems g))), 0) := if_pos h0
  have hlen : (c.groupsS most).length = (c.manyS most).toNat := hlen
  have hp : Parts (oneP c) (2 ^ (blocksOf c).length - 1) (c.groupsS most) := hp
  rw [hS]
  refine ⟨h, rfl, parts_asg h hp ?_, ?_, ?_, fun l hl => ?_⟩
  · rw [sumsB_iff h.lims, hlen]
    refine ((pers_iff h.pairs h.n10 h.lims).2 ?_).2
    have hle : (pers c).lo ≤ (pers c).hi := by
      unfold Census.tried at h0
      rw [if_neg (fun hc => hc (fine_iff.2 h))] at h0
      simp only [Bool.not_true, Bool.false_eq_true, if_false] at h0
      split at h0
      · cases h0
      · rename_i h'
        have h' : ¬ (pers c).lo > (pers c).hi := h'
        omega
    have : c.manyS most = if most = true then (pers c).hi else (pers c).lo := rfl
    rw [this] at m1 ⊢
    cases most
    · simp only [Bool.false_eq_true, if_false] at m1 ⊢; omega
    · simp only [if_true] at m1 ⊢; omega
  · show (((c.groupsS most).map fun g => nats (elems (unionB (blocksOf c) (elems g)))).length : Int) = _
    rw [List.length_map, hlen]; omega
  · show ((c.groupsS most).map fun g => nats (elems (unionB (blocksOf c) (elems g)))).length ≤ 10
    rw [List.length_map, hlen]; omega
  · obtain ⟨g, _, rfl⟩ := List.mem_map.1 hl
    rw [nats_len]
    have hnd : (elems (uni c g)).Nodup := (elems_sorted _).imp fun h => Nat.ne_of_lt h
    have hsub : elems (uni c g) ⊆ List.range c.entries.length := fun x hx => List.mem_range.2 (elems_lt hx (union_lt h.pairs g))
    have := hnd.length_le_of_subset hsub
    rw [List.length_range] at this
    have h10 := h.n10
    exact Nat.le_trans this h10
end Go.Proofs.YtcnkbdfkjhlbiaaDoor
namespace Go.Proofs.YtcnkbdfkjhlbiaaDoor
open Go.Sy
set_option maxRecDepth 8000
def wantS (most : Bool) (L : List (List Nat)) : Nat → Int
  | 0 => (many (L.getD 0 []) : Nat)
  | k + 1 => if (decide ((many (L.getD (k + 1) []) : Int) > wantS most L k) == most) = true then (many (L.getD (k + 1) []) : Nat) else wantS most L k
theorem wantS_law {most : Bool} {L : List (List Nat)} : ∀ k, (∃ j, j ≤ k ∧ wantS most L k = (many (L.getD j []) : Nat)) ∧ ∀ j, j ≤ k → (most = true → ((many (L.getD j []) : Nat) : Int) ≤ wantS most L k) ∧ (most = false → wantS most L k ≤ (many (L.getD j []) : Nat))
  | 0 => ⟨⟨0, Nat.le_refl _, rfl⟩, fun j hj => by obtain rfl : j = 0 := by omega
                                                  exact ⟨fun _ => Int.le_refl _, fun _ => Int.le_refl _⟩⟩
  | k + 1 => by
    obtain ⟨⟨j, h1, h2⟩, h3⟩ := wantS_law (most := most) (L := L) k
    rw [wantS]
    split
    · rename_i h
      refine ⟨⟨k + 1, Nat.le_refl _, rfl⟩, fun i hi => ?_⟩
      rcases Nat.lt_or_ge k i with hk | hk
      · obtain rfl : i = k + 1 := by omega
        exact ⟨fun _ => Int.le_refl _, fun _ => Int.le_refl _⟩
      · obtain ⟨a, b⟩ := h3 i hk
        rw [beq_iff_eq] at h
        refine ⟨fun hm => ?_, fun hm => ?_⟩
        · subst hm
          have := of_decide_eq_true h
          have := a rfl
          omega
        · subst hm
          have := of_decide_eq_false h
          have := b rfl
          omega
    · rename_i h
      refine ⟨⟨j, by omega, h2⟩, fun i hi => ?_⟩
      rcases Nat.lt_or_ge k i with hk | hk
      · obtain rfl : i = k + 1 := by omega
        rw [beq_iff_eq] at h
        refine ⟨fun hm => ?_, fun hm => ?_⟩
        · subst hm
          have : ¬ ((many (L.getD (k + 1) []) : Nat) : Int) > wantS true L k := fun hc => h (decide_eq_true hc)
          omega
        · subst hm
          have : ((many (L.getD (k + 1) []) : Nat) : Int) > wantS false L k := Classical.byContradiction fun hc => h (decide_eq_false hc)
          omega
      · exact h3 i hk
theorem want_law {c : Census} (h0 : c.tried true = 0) (most : Bool) (hne : 0 < c.all.length) : wantS most c.all (c.all.length - 1) = c.manyS most := by
  have ho := show_ok h0
  have h := ho.f
  obtain ⟨⟨j, hj, h1⟩, h2⟩ := wantS_law (most := most) (L := c.all) (c.all.length - 1)
  have hlo := pers_lo h.pairs h.n10
  have hm1 := (all_many h (m := many (c.all.getD j []))).1 ⟨_, getD_memL (by omega), rfl⟩
  have key : ∀ m : Nat, (pers c).lo ≤ m → (m : Int) ≤ (pers c).hi → ∃ i, i < c.all.length ∧ many (c.all.getD i []) = m := fun m a b => by
    obtain ⟨u, hu, hm⟩ := (all_many h).2 ⟨a, b⟩
    obtain ⟨i, hi, rfl⟩ := List.getElem_of_mem hu
    exact ⟨i, hi, by rw [show c.all.getD i [] = c.all[i] by simp [List.getD_eq_getElem?_getD, hi]]; exact hm⟩
  have e : c.manyS most = if most = true then (pers c).hi else (pers c).lo := rfl
  rw [e]
  cases most
  · simp only [Bool.false_eq_true, if_false]
    obtain ⟨i, hi, hm⟩ := key (pers c).lo.toNat (by omega) (by omega)
    have := (h2 i (by omega)).2 rfl
    rw [hm] at this
    omega
  · simp only [if_true]
    obtain ⟨i, hi, hm⟩ := key (pers c).hi.toNat (by omega) (by omega)
    have := (h2 i (by omega)).1 rfl
    rw [hm] at this
    omega
abbrev tysW48_16 := And.intro ty.sz0 <| And.intro ty.agg0 <| And.intro ty.elem0 <| And.intro ty.sz3 <| And.intro ty.agg3 <| And.intro ty.elem3 <| And.intro ty.zero3 <| And.intro ty.und3 <| And.intro ty.sz4 <| And.intro ty.agg4 <| And.intro ty.elem4 <| And.intro ty.zero4 <| And.intro ty.und4 <| And.intro ty.sz27 <| And.intro ty.agg27 <| And.intro ty.fld27_0 <| And.intro ty.fld27_1 <| And.intro ty.fld27_2 <| And.intro ty.fld27_3 <| And.intro ty.fld27_4 <| And.intro ty.elem27 <| And.intro ty.zero27 <| And.intro ty.pl27 <| And.intro ty.sz31 <| And.intro ty.agg31 <| And.intro ty.elem31 <| And.intro ty.zero31 <| And.intro ty.und31 <| And.intro ty.sz37 <| And.intro ty.agg37 <| And.intro ty.fld37_0 <| And.intro ty.fld37_1 <| And.intro ty.fld37_2 <| And.intro ty.fld37_3 <| And.intro ty.fld37_4 <| And.intro ty.elem37 <| And.intro ty.zero37 <| And.intro ty.pl37 <| And.intro ty.sz39 <| And.intro ty.agg39 <| And.intro ty.elem39 <| And.intro ty.by39 <| And.intro ty.ez39 <| And.intro ty.zero39 <| And.intro ty.und39 <| And.intro ty.sz40 <| And.intro ty.agg40 <| And.intro ty.elem40 <| And.intro ty.sz43 <| And.intro ty.agg43 <| And.intro ty.elem43 <| And.intro ty.by43 <| And.intro ty.ez43 <| And.intro ty.zero43 <| ty.und43
set_option maxHeartbeats 4000000 in
theorem SheetShows_c (c : Census) (most : Bool) : CallP Tryd.prog G0 16 [c.s, B most] (B true) := by
  refine CallP.body 78 [.tmp 4] Tryd.func16 (by kernel_rfl) rfl rfl rfl (by repeat' (first | exact Pure.d _ | exact Pure.dx _ | exact Pure.dp _ | exact fa_nil | refine fa_cons ?_ ?_ | refine Pure.agg ?_ | refine Pure.tup ?_ | refine Pure.clo ?_ ?_ | refine Pure.fp ?_ | exact Pure.mapd _ | assumption)) (by repeat' (first | exact Pure.d _ | exact Pure.dx _ | exact Pure.dp _ | exact fa_nil | refine fa_cons ?_ ?_ | refine Pure.agg ?_ | refine Pure.tup ?_ | refine Pure.clo ?_ ?_ | refine Pure.fp ?_ | exact Pure.mapd _ | assumption)) ?_
  refine Tr.reg [1, 2] (by
      simp only [↓sxd, sxu, ↓zE, ↓exq, St.keep, ↓zI, Nat.reduceBEq, Nat.reduceAdd, Nat.reduceLT, Nat.reduceEqDiff]
      (repeat' (first | rfl | exact trivial | exact fun h => h | exact fun h => (by rw [h]; rfl) | apply And.intro | omega | exact Nat.le_of_ble_eq_true rfl))) ?_
  refine Tr.seq ?_
  refine Tr.reg [1, 2, 14] (by
      simp only [↓sxd, sxu, ↓zE, ↓exq, St.keep, ↓zD, Nat.reduceBEq, Nat.reduceAdd, Nat.reduceLT, tysW48_16]
      (repeat ((with_reducible refine And.intro ?_ ?_); (focus (first | with_reducible rfl | trivial | exact fun h => h | exact fun h => (by rw [h]; rfl) | omega | assumption))))
      refine CallO.use (Few_c c) ?_
      try simp only [↓sxd, sxu, ↓zE, ↓exq, ↓zL, Nat.reduceBEq, Nat.reduceLT]
      (repeat' (first | rfl | exact trivial | exact fun h => h | exact fun h => (by rw [h]; rfl) | apply And.intro | omega | exact Nat.le_of_ble_eq_true rfl))) ?_
  refine Tr.cond rfl (fun h14 => ?_) (fun h14 => ?_)
  · refine Tr.reg [4] (by
        simp only [↓sxd, sxu, ↓zE, St.keep, Nat.reduceLT]
        (repeat ((with_reducible refine And.intro ?_ ?_); (focus (first | with_reducible rfl | trivial | exact fun h => h | exact fun h => (by rw [h]; rfl) | omega | assumption))))
        refine CallO.use (awake_c) ?_
        try simp only [↓sxd, sxu, ↓zE, ↓exq, Nat.reduceLT]
        (repeat' (first | rfl | exact trivial | exact fun h => h | exact fun h => (by rw [h]; rfl) | apply And.intro | omega | exact Nat.le_of_ble_eq_true rfl))) ?_
    refine Tr.ret ?_
    (refine ⟨.inr rfl, ?_⟩; first | rfl | exact ⟨rfl, rfl, trivial⟩ | exact ⟨rfl, rfl, rfl, trivial⟩ | (simp only [Res, ResL, ResOK, ↓sxd, sxu, ↓zE, ↓zC, zK, ↓exP, ↓exq, ↓zB, St.keep, ↓zH, ↓zL, ↓zJ, ↓zD, ↓zN, ↓zI, Nat.reduceBEq, Nat.reduceAdd, Nat.reduceLT, Nat.reduceMul, Nat.reduceSub, Nat.reduceLeDiff, Nat.reduceEqDiff, Int.reduceLE, Int.reduceLT, Int.reduceToNat, reduceIte, implies_true, sxe, tysW48_16]; (repeat' (first | rfl | exact trivial | exact fun h => h | exact fun h => (by rw [h]; rfl) | apply And.intro | omega | exact Nat.le_of_ble_eq_true rfl))))
  · have hfew : c.few = true := by simpa using h14
    have hth := few_len hfew
    have hsm := small_thin hth
    obtain ⟨t1, t2, t3⟩ := thin_len hth
    have hSh := Show_c c hsm most
    have hV := valid_c c (by omega) (by omega) (by omega) true
    have hdue := due_eq c true
    obtain ⟨sl, hsl⟩ : ∃ x, x = (c.showS most).1 := ⟨_, rfl⟩
    obtain ⟨se, hse⟩ : ∃ x, x = (c.showS most).2 := ⟨_, rfl⟩
    rw [← hsl, ← hse] at hSh
    refine Tr.skip ?_
    refine Tr.reg [1, 2, 5, 6] (by
        simp only [↓sxd, sxu, ↓zE, ↓exq, St.keep, ↓zD, Nat.reduceBEq, Nat.reduceAdd, Nat.reduceLT, tysW48_16]
        (repeat ((with_reducible refine And.intro ?_ ?_); (focus (first | with_reducible rfl | trivial | exact fun h => h | exact fun h => (by rw [h]; rfl) | omega | assumption))))
        refine CallO.use (lCensus_c c hsm) ?_
        try simp only [↓sxd, sxu, ↓zE, ↓exq, Nat.reduceBEq, Nat.reduceLT]
        (repeat ((with_reducible refine And.intro ?_ ?_); (focus (first | with_reducible rfl | trivial | exact fun h => h | exact fun h => (by rw [h]; rfl) | omega | assumption))))
        refine CallO.use (hSh) ?_
        try simp only [↓sxd, sxu, ↓zE, ↓exq, ↓zN, Nat.reduceBEq, Nat.reduceAdd, Nat.reduceLT]
        (repeat' (first | rfl | exact trivial | exact fun h => h | exact fun h => (by rw [h]; rfl) | apply And.intro | omega | exact Nat.le_of_ble_eq_true rfl))) ?_
    refine Tr.reg [1, 2, 5, 6, 7, 8] (by
        simp only [↓sxd, sxu, ↓zE, ↓exq, St.keep, ↓zD, Nat.reduceBEq, Nat.reduceAdd, Nat.reduceLT, tysW48_16]
        (repeat ((with_reducible refine And.intro ?_ ?_); (focus (first | with_reducible rfl | trivial | exact fun h => h | exact fun h => (by rw [h]; rfl) | omega | assumption))))
        refine CallO.use (hV) ?_
        try simp only [↓sxd, sxu, ↓zE, ↓exq, ↓zN, Nat.reduceBEq, Nat.reduceAdd, Nat.reduceLT]
        (repeat' (first | rfl | exact trivial | exact fun h => h | exact fun h => (by rw [h]; rfl) | apply And.intro | omega | exact Nat.le_of_ble_eq_true rfl))) ?_
    refine Tr.seq ?_
    refine Tr.reg [1, 2, 5, 6, 7, 8, 29] (by
        simp only [↓sxd, sxu, ↓zE, ↓exq, St.keep, Nat.reduceBEq, Nat.reduceLT]
        (repeat' (first | rfl | exact trivial | exact fun h => h | exact fun h => (by rw [h]; rfl) | apply And.intro | omega | exact Nat.le_of_ble_eq_true rfl))) ?_
    refine Tr.cond rfl (fun h29 => ?_) (fun h29 => ?_)
    · have hd : c.due true ≠ 0 := by simpa using h29
      have hS : c.showS most = ([], c.due true) := by rw [← hdue]; exact if_neg (by rw [hdue]; exact hd)
      rw [hS] at hsl hse
      have hsl : sl = [] := hsl
      have hse : se = c.due true := hse
      subst hsl hse
      refine Tr.reg [4] (by
          simp only [↓sxd, sxu, ↓zE, ↓exq, St.keep, Nat.reduceBEq, Nat.reduceLT]
          iterate 3
            (repeat ((with_reducible refine And.intro ?_ ?_); (focus (first | with_reducible rfl | trivial | exact fun h => h | exact fun h => (by rw [h]; rfl) | omega | assumption))))
            refine GdO.mk _ (fun hg => by simp only [↓sxd, sxu, ↓exq, ↓zB, ↓zJ, Nat.reduceBEq, sxe, tysW48_16]; (repeat' (first | rfl | exact trivial | exact fun h => h | exact fun h => (by rw [h]; rfl) | apply And.intro | omega | exact Nat.le_of_ble_eq_true rfl))) ?_
            simp only [↓sxd, sxu, ↓zE, ↓exq, ↓zH, Nat.reduceBEq, Nat.reduceLT]
          (repeat ((with_reducible refine And.intro ?_ ?_); (focus (first | with_reducible rfl | trivial | exact fun h => h | exact fun h => (by rw [h]; rfl) | omega | assumption))))
          refine GdO.mk _ (fun hg => by simp only [sxu, ↓exq, ↓zB]; (repeat ((with_reducible refine And.intro ?_ ?_); (focus (first | with_reducible rfl | trivial | exact fun h => h | exact fun h => (by rw [h]; rfl) | omega | assumption)))); exact CallP.use (awake_c) ⟨rfl, rfl, rfl⟩) ?_
          simp only [↓sxd, sxu, ↓zE, ↓exq, ↓zH, Nat.reduceBEq, Nat.reduceLT]
          (repeat' (first | rfl | exact trivial | exact fun h => h | exact fun h => (by rw [h]; rfl) | apply And.intro | omega | exact Nat.le_of_ble_eq_true rfl))) ?_
      refine Tr.ret ?_
      (refine ⟨.inr rfl, ?_⟩; first | rfl | exact ⟨rfl, rfl, trivial⟩ | exact ⟨rfl, rfl, rfl, trivial⟩ | (simp only [Res, ResL, ResOK, ↓sxd, sxu, ↓zE, ↓zC, zK, ↓exP, ↓exq, ↓zB, St.keep, ↓zH, ↓zL, ↓zJ, ↓zD, ↓zN, ↓zI, Nat.reduceBEq, Nat.reduceAdd, Nat.reduceLT, Nat.reduceMul, Nat.reduceSub, Nat.reduceLeDiff, Nat.reduceEqDiff, Int.reduceLE, Int.reduceLT, Int.reduceToNat, reduceIte, implies_true, sxe, tysW48_16]; (repeat' (first | rfl | exact trivial | exact fun h => h | exact fun h => (by rw [h]; rfl) | apply And.intro | omega | exact Nat.le_of_ble_eq_true rfl))))
    · have hd : c.due true = 0 := by simpa using h29
      have h0 : c.tried true = 0 := by rw [hdue]; exact hd
      obtain ⟨hf, hcc, hne⟩ := due_zero hd
      obtain ⟨_, s1, s2, s3, s4, s5⟩ := show_law h0 most
      rw [← hse] at s1
      rw [← hsl] at s2 s3 s4 s5
      subst s1
      have hvl : c.validL true = c.all := if_pos hd
      rw [hvl]
      have hn10 := hf.n10
      have hIs := IsAssignment_c c hf sl (by omega) (fun l hl => by have := s5 l hl; omega)
      rw [s2] at hIs
      have hmem : ∀ v ∈ c.all, Rgs v ∧ v.length = c.entries.length := fun v hv => by
        have := (mem_all hf.lims).1 hv
        exact ⟨this.2.1, this.1⟩
      have hal : c.all.length ≤ 3628800 := by
        have h1 := (allFrom_len c c.entries.length [] .nil).1
        have h2 : cap c.entries.length 0 ≤ 3628800 := cap_le (by have := hf.n10; omega)
        exact Nat.le_trans h1 h2
      have hl0 : 0 < c.all.length := by
        cases hc : c.all with
        | nil => exact absurd hc hne
        | cons a l => exact Nat.succ_pos _
      have hwant := want_law h0 most hl0
      rw [← s3] at hwant
      generalize c.all = L at hmem hal hl0 hwant
      have hgm : ∀ i, i < L.length → (L.map nats).getD i [] = nats (L.getD i []) ∧ CallP Tryd.prog G0 24 [SI (nats (L.getD i []))] (I (many (L.getD i []))) := fun i hi => by
        obtain ⟨hrg, hvn⟩ := hmem _ (getD_memL hi)
        refine ⟨by simp [List.getD_eq_getElem?_getD, hi], Many_c _ (by omega) (hrg.small (by omega))⟩
      obtain ⟨z1, z2⟩ := hgm 0 hl0
      refine Tr.skip ?_
      refine Tr.reg [1, 2, 5, 6, 7, 9] (by
          simp only [↓sxd, sxu, ↓zE, ↓exq, St.keep, ↓zD, Nat.reduceBEq, Nat.reduceLT, Int.reduceLE, sxe, tysW48_16, hl0, z1]
          (repeat ((with_reducible refine And.intro ?_ ?_); (focus (first | with_reducible rfl | trivial | exact fun h => h | exact fun h => (by rw [h]; rfl) | omega | assumption))))
          refine CallO.use (z2) ?_
          try simp only [↓sxd, sxu, ↓zE, ↓exq, Nat.reduceBEq, Nat.reduceLT]
          (repeat' (first | rfl | exact trivial | exact fun h => h | exact fun h => (by rw [h]; rfl) | apply And.intro | omega | exact Nat.le_of_ble_eq_true rfl))) ?_
      refine Tr.seq ?_
      refine Tr.reg [1, 2, 5, 6, 7, 9, 10] (by
          simp only [↓sxd, sxu, ↓zE, ↓exq, St.keep, Nat.reduceBEq, Nat.reduceLT]
          (repeat' (first | rfl | exact trivial | exact fun h => h | exact fun h => (by rw [h]; rfl) | apply And.intro | omega | exact Nat.le_of_ble_eq_true rfl))) ?_
      refine Tr.imp (st' := ⟨[(1, B most), (2, .ptr 0 0 0), (5, SL sl), (6, I 0), (7, SL (L.map nats)), (9, I (wantS most L 0)), (10, I (0 + 1 : Nat))], [(0, .arr 7 [[SE c.entries, SP c.same, SP c.apart, I c.omitted.lo, I c.omitted.hi, I c.number.lo, I c.number.hi]])], 1, 78, [], 0⟩) (Imp.keepAll) (Tr.block (Tr.loopI (fun mm ss => ∃ (k : Nat), (k + 1 ≤ L.length) ∧ L.length - k = mm ∧ ss = ⟨[(1, B most), (2, .ptr 0 0 0), (5, SL sl), (6, I 0), (7, SL (L.map nats)), (9, I (wantS most L k)), (10, I (k + 1 : Nat))], [(0, .arr 7 [[SE c.entries, SP c.same, SP c.apart, I c.omitted.lo, I c.omitted.hi, I c.number.lo, I c.number.hi]])], 1, 78, [], 0⟩) _ ⟨0, ?_, rfl, rfl⟩ ?_))
      · exact hl0
      rintro mm ss ⟨k, hI, rfl, rfl⟩
      refine Tr.seq ?_
      refine Tr.reg [1, 2, 5, 6, 7, 9, 10, 48] (by
          simp only [↓sxd, sxu, ↓zE, ↓exq, ↓zB, St.keep, ↓zJ, Nat.reduceBEq, Nat.reduceLT, sxe, tysW48_16]
          (repeat' (first | rfl | exact trivial | exact fun h => h | exact fun h => (by rw [h]; rfl) | apply And.intro | omega | exact Nat.le_of_ble_eq_true rfl))) ?_
      refine Tr.cond rfl (fun h48 => ?_) (fun h48 => ?_)
      · have hlt : k + 1 < L.length := by have := of_decide_eq_true h48; omega
        obtain ⟨y1, y2⟩ := hgm (k + 1) hlt
        have hwS : wantS most L (k + 1) = if (decide ((many (L.getD (k + 1) []) : Int) > wantS most L k) == most) = true then ((many (L.getD (k + 1) []) : Nat) : Int) else wantS most L k := rfl
        refine Tr.skip ?_
        refine Tr.seq ?_
        refine Tr.block ?_
        refine Tr.reg [1, 2, 5, 6, 7, 9, 10, 11] (by
            simp only [↓sxd, sxu, ↓zE, ↓exq, St.keep, ↓zD, Nat.reduceBEq, Nat.reduceLT, sxe, tysW48_16, hlt, y1]
            (repeat ((with_reducible refine And.intro ?_ ?_); (focus (first | with_reducible rfl | trivial | exact fun h => h | exact fun h => (by rw [h]; rfl) | omega | assumption))))
            refine CallO.use (y2) ?_
            try simp only [↓sxd, sxu, ↓zE, ↓exq, Nat.reduceBEq, Nat.reduceLT]
            (repeat' (first | rfl | exact trivial | exact fun h => h | exact fun h => (by rw [h]; rfl) | apply And.intro | omega | exact Nat.le_of_ble_eq_true rfl))) ?_
        refine Tr.reg [1, 2, 5, 6, 7, 9, 10, 11, 60] (by
            simp only [↓sxd, sxu, ↓zE, ↓exq, St.keep, Nat.reduceBEq, Nat.reduceLT, tysW48_16]
            (repeat' (first | rfl | exact trivial | exact fun h => h | exact fun h => (by rw [h]; rfl) | apply And.intro | omega | exact Nat.le_of_ble_eq_true rfl))) ?_
        refine Tr.cond rfl (fun h60 => ?_) (fun h60 => ?_)
        · rw [if_pos h60] at hwS
          refine Tr.reg1 [1, 2, 5, 6, 7, 9, 10] (by
              simp only [↓sxd, sxu, ↓zE, ↓exq, St.keep, Nat.reduceBEq, Nat.reduceLT]
              (repeat' (first | rfl | exact trivial | exact fun h => h | exact fun h => (by rw [h]; rfl) | apply And.intro | omega | exact Nat.le_of_ble_eq_true rfl))) ?_
          have w1 : IntKind.i64.wrap (((k + 1 : Nat) : Int) + 1) = ((k + 1 + 1 : Nat) : Int) := by rw [wr (by omega) (by omega)]; rfl
          refine Tr.reg1 [1, 2, 5, 6, 7, 9, 10] (by
              simp only [↓sxd, sxu, ↓zE, ↓exq, St.keep, Nat.reduceBEq, Nat.reduceLT, w1]
              (repeat' (first | rfl | exact trivial | exact fun h => h | exact fun h => (by rw [h]; rfl) | apply And.intro | omega | exact Nat.le_of_ble_eq_true rfl))) ?_
          refine ⟨_, _, ?_, ?_, ⟨k + 1, hlt, rfl, rfl⟩⟩
          · omega
          · rw [hwS]; exact Imp.keepAll
        · rw [if_neg (by rw [h60]; decide)] at hwS
          refine Tr.skip ?_
          have w1 : IntKind.i64.wrap (((k + 1 : Nat) : Int) + 1) = ((k + 1 + 1 : Nat) : Int) := by rw [wr (by omega) (by omega)]; rfl
          refine Tr.reg1 [1, 2, 5, 6, 7, 9, 10] (by
              simp only [↓sxd, sxu, ↓zE, ↓exq, St.keep, Nat.reduceBEq, Nat.reduceLT, w1]
              (repeat' (first | rfl | exact trivial | exact fun h => h | exact fun h => (by rw [h]; rfl) | apply And.intro | omega | exact Nat.le_of_ble_eq_true rfl))) ?_
          refine ⟨_, _, ?_, ?_, ⟨k + 1, hlt, rfl, rfl⟩⟩
          · omega
          · rw [hwS]; exact Imp.keepAll
      · have hge : k = L.length - 1 := by have := of_decide_eq_false h48; omega
        rw [hge, hwant]
        refine Tr.exit ?_
        refine Tr.reg [4] (by
            simp only [↓sxd, sxu, ↓zE, ↓exq, St.keep, Nat.reduceBEq, Nat.reduceLT]
            iterate 2
              (repeat ((with_reducible refine And.intro ?_ ?_); (focus (first | with_reducible rfl | trivial | exact fun h => h | exact fun h => (by rw [h]; rfl) | omega | assumption))))
              refine GdO.mk _ (fun hg => by simp only [sxu, ↓exq, ↓zD, Nat.reduceBEq, Nat.reduceAdd, Nat.reduceLT, tysW48_16]; (repeat' (first | rfl | exact trivial | exact fun h => h | exact fun h => (by rw [h]; rfl) | apply And.intro | omega | exact Nat.le_of_ble_eq_true rfl))) ?_
              simp only [↓sxd, sxu, ↓zE, Nat.reduceBEq, Nat.reduceLT]
            (repeat ((with_reducible refine And.intro ?_ ?_); (focus (first | with_reducible rfl | trivial | exact fun h => h | exact fun h => (by rw [h]; rfl) | omega | assumption))))
            refine GdO.mk _ (fun hg => by simp only [sxu, ↓exq, ↓zB, Nat.reduceBEq]; (repeat ((with_reducible refine And.intro ?_ ?_); (focus (first | with_reducible rfl | trivial | exact fun h => h | exact fun h => (by rw [h]; rfl) | omega | assumption)))); exact CallP.use (hIs) ⟨rfl, rfl, rfl⟩) ?_
            simp only [↓sxd, sxu, ↓zE, ↓exq, ↓zH, Nat.reduceBEq, Nat.reduceLT]
            iterate 4
              (repeat ((with_reducible refine And.intro ?_ ?_); (focus (first | with_reducible rfl | trivial | exact fun h => h | exact fun h => (by rw [h]; rfl) | omega | assumption))))
              refine GdO.mk _ (fun hg => by simp only [↓sxd, sxu, ↓exq, ↓zB, ↓zJ, Nat.reduceBEq, sxe, tysW48_16]; (repeat' (first | rfl | exact trivial | exact fun h => h | exact fun h => (by rw [h]; rfl) | apply And.intro | omega | exact Nat.le_of_ble_eq_true rfl))) ?_
              simp only [↓sxd, sxu, ↓zE, ↓exq, ↓zH, Nat.reduceBEq, Nat.reduceLT]
            (repeat ((with_reducible refine And.intro ?_ ?_); (focus (first | with_reducible rfl | trivial | exact fun h => h | exact fun h => (by rw [h]; rfl) | omega | assumption))))
            refine GdO.mk _ (fun hg => by simp only [sxu, ↓exq, ↓zB]; (repeat ((with_reducible refine And.intro ?_ ?_); (focus (first | with_reducible rfl | trivial | exact fun h => h | exact fun h => (by rw [h]; rfl) | omega | assumption)))); exact CallP.use (awake_c) ⟨rfl, rfl, rfl⟩) ?_
            simp only [↓sxd, sxu, ↓zE, ↓exq, ↓zH, Nat.reduceBEq, Nat.reduceLT]
            (repeat' (first | rfl | exact trivial | exact fun h => h | exact fun h => (by rw [h]; rfl) | apply And.intro | omega | exact Nat.le_of_ble_eq_true rfl))) ?_
        refine Tr.ret ?_
        (refine ⟨.inr rfl, ?_⟩; first | rfl | exact ⟨rfl, rfl, trivial⟩ | exact ⟨rfl, rfl, rfl, trivial⟩ | (simp only [Res, ResL, ResOK, ↓sxd, sxu, ↓zE, ↓zC, zK, ↓exP, ↓exq, ↓zB, St.keep, ↓zH, ↓zL, ↓zJ, ↓zD, ↓zN, ↓zI, Nat.reduceBEq, Nat.reduceAdd, Nat.reduceLT, Nat.reduceMul, Nat.reduceSub, Nat.reduceLeDiff, Nat.reduceEqDiff, Int.reduceLE, Int.reduceLT, Int.reduceToNat, reduceIte, implies_true, sxe, tysW48_16]; (repeat' (first | rfl | exact trivial | exact fun h => h | exact fun h => (by rw [h]; rfl) | apply And.intro | omega | exact Nat.le_of_ble_eq_true rfl))))
end Go.Proofs.YtcnkbdfkjhlbiaaDoor
