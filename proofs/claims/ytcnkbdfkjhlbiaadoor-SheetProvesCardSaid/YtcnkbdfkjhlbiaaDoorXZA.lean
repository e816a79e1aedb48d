/- Lemmas, part XZA. Conditions: none. -/
import Derived.Test.YtcnkbdfkjhlbiaaDoorXPBC
import Derived.Carry
set_option linter.unusedVariables false
namespace Go.Proofs.YtcnkbdfkjhlbiaaDoor
open Go.Sy
theorem ty.sz148 : tsz Tryd.prog 148 = some 1 := by kernel_rfl
theorem ty.agg148 : tagg Tryd.prog 148 = some false := by kernel_rfl
theorem ty.elem148 : telem Tryd.prog 148 = none := by kernel_rfl
end Go.Proofs.YtcnkbdfkjhlbiaaDoor
namespace Go.Proofs.YtcnkbdfkjhlbiaaDoor
open Go.Sy Go.Deep
section
variable {H : Type} {enc : TypeId × Value → H} {W : World} {spare : Nat → Bool}
theorem rd43 : Reads enc Tryd.prog W spare 43 1 (fun l : List Int => [.sl (l.map fun n => [cI n])]) := reads_slice (e := 3) (n := 1) (by kernel_rfl) (by kernel_rfl) (by decide) (R3 enc W spare)
theorem rd39 : Reads enc Tryd.prog W spare 39 1 (fun l : List (List Int) => [.sl (l.map fun l => [.sl (l.map fun n => [cI n])])]) := reads_slice (e := 43) (n := 1) (by kernel_rfl) (by kernel_rfl) (by decide) rd43
end
end Go.Proofs.YtcnkbdfkjhlbiaaDoor
namespace Go.Proofs.YtcnkbdfkjhlbiaaDoor
open Go.Sy Go.Deep
section
variable {H : Type} {enc : TypeId × Value → H} {P : Program} {W : World} {spare : Nat → Bool}
theorem one_of {x : D} {v : Value} {pl : Nat → Option Pl} (hc : v.cells.toList = [v]) (h : DRs W [x] v.cells.toList) : SR pl (fun B => ¬ False) W (.d x) v := by
  obtain ⟨_, hd⟩ := h
  have := hd 0 (by simp)
  rw [hc] at this
  exact SR.d _ _ (this.ext (Ext.weak fun _ _ _ h => h))
end
end Go.Proofs.YtcnkbdfkjhlbiaaDoor
namespace Go.Sy
theorem exPick_and (a b : Bool) (K : SV → Prop) (h : K (.d (.lit (.bool (a && b))))) : zH (.d (.lit (.bool a))) (if a = true then .d (.lit (.bool b)) else .unk) (.d (.lit (.bool false))) K := by
  cases a <;> cases b <;> exact h
section
variable {P : Program} {G : Nat → Option (List D)}
theorem GdO.and {all : List Oper} {o : Oper} {os : List Oper} {st : St} {g : Bool} {K : St → Prop} {a b : Bool} (h : g = true → pickArgs o (fun x => gstrip (ev G st.tm x)) = some (.d (.lit (.bool a)), if a = true then .d (.lit (.bool b)) else .unk, .d (.lit (.bool false))))
    (k : xA P G all os ⟨putT o.dst (.whn g (.d (.lit (.bool (a && b))))) st.tm, st.hp, st.nx, st.nt, st.df, st.nb⟩ K) : GdO P G all o os st g K :=
  GdO.mk _ (fun hg => exq_pick (h hg) (exPick_and a b _ ⟨rfl, rfl, rfl⟩)) k
end
end Go.Sy
namespace Go.Proofs.YtcnkbdfkjhlbiaaDoor
open Go.Sy
set_option maxRecDepth 8000
theorem ib (p q : Nat) : ((p : Int) == (q : Int)) = (p == q) := by
  rw [Bool.eq_iff_iff, beq_iff_eq, beq_iff_eq]; omega
end Go.Proofs.YtcnkbdfkjhlbiaaDoor
namespace Go.Proofs.YtcnkbdfkjhlbiaaDoor
set_option maxRecDepth 8000
structure Says (c x : Census) : Prop where
  len : x.entries.length = c.entries.length
  ent : ∀ i, i < c.entries.length → (x.entry i).sched = (c.entry i).sched ∧ (x.entry i).sex = (c.entry i).sex ∧ (x.entry i).key = (c.entry i).key ∧ (c.entry i).ages.lo ≤ (x.entry i).ages.lo ∧ (x.entry i).ages.hi ≤ (c.entry i).ages.hi
  same : ∀ p ∈ c.same, p ∈ x.same
  apart : ∀ p ∈ c.apart, p ∈ x.apart
  om : c.omitted.lo ≤ x.omitted.lo ∧ x.omitted.hi ≤ c.omitted.hi
  nu : c.number.lo ≤ x.number.lo ∧ x.number.hi ≤ c.number.hi
structure Moves (c x : Census) (s : Nat → Nat) : Prop where
  len : x.entries.length = c.entries.length
  to : ∀ i, i < c.entries.length → s i < c.entries.length
  inj : ∀ i k, i < c.entries.length → k < c.entries.length → s i = s k → i = k
  sur : ∀ j, j < c.entries.length → ∃ i, i < c.entries.length ∧ s i = j
  ent : ∀ i, i < c.entries.length → x.entry i = c.entry (s i)
  same : ∀ p ∈ x.same, ∃ q ∈ c.same, s p.fst.toNat = q.fst.toNat ∧ s p.snd.toNat = q.snd.toNat
  apart : ∀ p ∈ x.apart, ∃ q ∈ c.apart, s p.fst.toNat = q.fst.toNat ∧ s p.snd.toNat = q.snd.toNat
end Go.Proofs.YtcnkbdfkjhlbiaaDoor
namespace Go.Proofs.YtcnkbdfkjhlbiaaDoor
open Go.Sy
set_option maxRecDepth 8000
structure Nar (c : Census) (E : List Entry) (O N : Rng) : Prop where
  len : E.length = c.entries.length
  val : ∀ e ∈ E, Entry.valid e = true
  ent : ∀ i, i < c.entries.length → (E.getD i default).sched = (c.entry i).sched ∧ (E.getD i default).sex = (c.entry i).sex ∧ (E.getD i default).key = (c.entry i).key ∧ (c.entry i).ages.lo ≤ (E.getD i default).ages.lo ∧ (E.getD i default).ages.hi ≤ (c.entry i).ages.hi
  om : c.omitted.lo ≤ O.lo ∧ O.lo ≤ O.hi ∧ O.hi ≤ c.omitted.hi
  nu : c.number.lo ≤ N.lo ∧ N.lo ≤ N.hi ∧ N.hi ≤ c.number.hi
end Go.Proofs.YtcnkbdfkjhlbiaaDoor
namespace Go.Proofs.YtcnkbdfkjhlbiaaDoor
open Go.Sy (aput)
set_option maxRecDepth 8000
def off (c : Coding) (k p : Nat) (x : Int) : Nat := if (c.codes.getD k []).getD p 0 ≠ x then 1 else 0
def errsAt (c : Coding) (k : Nat) : Nat → List Int → Nat
  | _, [] => 0
  | p, x :: w => off c k p x + errsAt c k (p + 1) w
def sumTo (f : Nat → Nat) : Nat → Nat
  | 0 => 0
  | n + 1 => sumTo f n + f n
def totAt (c : Coding) (p : Nat) (w : List Int) : Nat := sumTo (fun k => errsAt c k p w) c.codes.length
structure Comp (c : Coding) (p : Nat) (es : List Int) (w : List Int) : Prop where
  len : p + w.length = c.cols
  cod : ∀ x ∈ w, 0 ≤ x ∧ x ≤ 9
  few : ∀ k, k < c.codes.length → es.getD k 0 + errsAt c k p w ≤ c.wrong.getD k 0
structure Es (c : Coding) (p : Nat) (es : List Int) : Prop where
  len : es.length = 3
  bd : ∀ k, 0 ≤ es.getD k 0 ∧ es.getD k 0 ≤ p
def esNext (c : Coding) (p : Nat) (es : List Int) (x : Int) : List Int := (c.nextTo p es x c.codes.length).1
def OkNext (c : Coding) (p : Nat) (es : List Int) (x : Int) : Prop := ∀ k, k < c.codes.length → es.getD k 0 + off c k p x ≤ c.wrong.getD k 0
instance (c : Coding) (p : Nat) (es : List Int) (x : Int) : Decidable (OkNext c p es x) := by unfold OkNext; infer_instance
def IsBest (c : Coding) (p : Nat) (es : List Int) (n : Int) : Prop :=
  (n = -1 ∧ ∀ w, ¬ Comp c p es w) ∨ (∃ w, Comp c p es w ∧ n = totAt c p w ∧ ∀ w', Comp c p es w' → n ≤ totAt c p w')
structure MemOk (c : Coding) (m : Mem) : Prop where
  ok : ∀ p es n, p < c.cols → Es c p es → m.lookup (keyOf p es) = some n → IsBest c p es n
  shut : ∀ p es, p < c.cols → Es c p es → (m.lookup (keyOf p es)).isSome = true → ∀ x : Int, 0 ≤ x → x ≤ 9 → OkNext c p es x → p + 1 = c.cols ∨ (m.lookup (keyOf (p + 1) (esNext c p es x))).isSome = true
end Go.Proofs.YtcnkbdfkjhlbiaaDoor
namespace Go.Proofs.YtcnkbdfkjhlbiaaDoor
open Go.Sy (aput)
set_option maxRecDepth 8000
inductive Pre (c : Coding) : Nat → List Int → List Int → Prop
  | nil : Pre c 0 [] e000
  | snoc {p : Nat} {v es : List Int} {x : Int} (h : Pre c p v es) (h1 : 0 ≤ x ∧ x ≤ 9) (h2 : OkNext c p es x) : Pre c (p + 1) (v ++ [x]) (esNext c p es x)
structure CodingFine (c : Coding) : Prop where
  ok : CodingOk c
  n0 : 0 < c.codes.length
  c0 : 0 < c.cols
  wr : ∀ k, k < c.codes.length → 0 ≤ c.wrong.getD k 0 ∧ c.wrong.getD k 0 ≤ 10
  cd : ∀ k, k < c.codes.length → (c.codes.getD k []).all isCode = true
end Go.Proofs.YtcnkbdfkjhlbiaaDoor
namespace Go.Proofs.YtcnkbdfkjhlbiaaDoor
open Go.Sy
set_option maxRecDepth 8000
theorem getD_memI {l : List (List Int)} {i : Nat} (h : i < l.length) : l.getD i [] ∈ l := getD_mem h
theorem allI_getD {p : Int → Bool} {l : List Int} (h : ∀ j, j < l.length → p (l.getD j 0) = true) : l.all p = true := by
  rw [List.all_eq_true]
  intro x hx
  obtain ⟨j, hj, rfl⟩ := List.getElem_of_mem hx
  have := h j hj
  rwa [show l.getD j 0 = l[j] by simp [List.getD_eq_getElem?_getD, hj]] at this
def shortB (l : List (List Int)) : Bool := decide (l.length ≤ 13) && l.all fun x => decide (x.length ≤ 13)
theorem short_iff {l : List (List Int)} : shortB l = true ↔ l.length ≤ 13 ∧ ∀ x ∈ l, x.length ≤ 13 := by
  simp [shortB]
abbrev tysW31_35 := And.intro ty.sz0 <| And.intro ty.agg0 <| And.intro ty.elem0 <| And.intro ty.sz3 <| And.intro ty.agg3 <| And.intro ty.elem3 <| And.intro ty.zero3 <| And.intro ty.und3 <| And.intro ty.sz4 <| And.intro ty.agg4 <| And.intro ty.elem4 <| And.intro ty.zero4 <| And.intro ty.und4 <| And.intro ty.sz39 <| And.intro ty.agg39 <| And.intro ty.elem39 <| And.intro ty.by39 <| And.intro ty.ez39 <| And.intro ty.zero39 <| And.intro ty.und39 <| And.intro ty.sz43 <| And.intro ty.agg43 <| And.intro ty.elem43 <| And.intro ty.by43 <| And.intro ty.ez43 <| And.intro ty.zero43 <| ty.und43
theorem short_c (l : List (List Int)) : CallP Tryd.prog G0 35 [SL l] (B (shortB l)) := by
  refine CallP.body 23 [.tmp 2] Tryd.func35 (by kernel_rfl) rfl rfl rfl (by repeat' (first | exact Pure.d _ | exact Pure.dx _ | exact Pure.dp _ | exact fa_nil | refine fa_cons ?_ ?_ | refine Pure.agg ?_ | refine Pure.tup ?_ | refine Pure.clo ?_ ?_ | refine Pure.fp ?_ | exact Pure.mapd _ | assumption)) (by repeat' (first | exact Pure.d _ | exact Pure.dx _ | exact Pure.dp _ | exact fa_nil | refine fa_cons ?_ ?_ | refine Pure.agg ?_ | refine Pure.tup ?_ | refine Pure.clo ?_ ?_ | refine Pure.fp ?_ | exact Pure.mapd _ | assumption)) ?_
  refine Tr.reg [0] (by
      simp only [↓sxd, sxu, ↓zE, ↓exq, St.keep, Nat.reduceBEq, Nat.reduceLT]
      (repeat' (first | rfl | exact trivial | exact fun h => h | exact fun h => (by rw [h]; rfl) | apply And.intro | omega | exact Nat.le_of_ble_eq_true rfl))) ?_
  refine Tr.seq ?_
  refine Tr.reg [0, 3] (by
      simp only [↓sxd, sxu, ↓zE, ↓exq, St.keep, Nat.reduceBEq, Nat.reduceLT]
      (repeat' (first | rfl | exact trivial | exact fun h => h | exact fun h => (by rw [h]; rfl) | apply And.intro | omega | exact Nat.le_of_ble_eq_true rfl))) ?_
  refine Tr.imp (st' := ⟨[(0, SL l), (3, I 0)], [], 0, 23, [], 0⟩) (Imp.keepAll) (Tr.block (Tr.loopI (fun mm ss => ∃ (i : Nat), (i ≤ l.length ∧ i ≤ 14 ∧ ∀ j, j < i → (l.getD j []).length ≤ 13) ∧ l.length - i = mm ∧ ss = ⟨[(0, SL l), (3, I i)], [], 0, 23, [], 0⟩) _ ⟨0, ?_, rfl, rfl⟩ ?_))
  · exact ⟨Nat.zero_le _, by omega, fun j hj => absurd hj (Nat.not_lt_zero _)⟩
  rintro mm ss ⟨i, hI, rfl, rfl⟩
  obtain ⟨hI, hi14, hall⟩ := hI
  refine Tr.seq ?_
  refine Tr.reg [0, 3, 11] (by
      simp only [↓sxd, sxu, ↓zE, ↓exq, ↓zB, St.keep, ↓zJ, Nat.reduceBEq, Nat.reduceLT, sxe, tysW31_35]
      iterate 2
        (repeat ((with_reducible refine And.intro ?_ ?_); (focus (first | with_reducible rfl | trivial | exact fun h => h | exact fun h => (by rw [h]; rfl) | omega | assumption))))
        refine GdO.mk _ (fun hg => by simp only [↓sxd, sxu, ↓exq, Nat.reduceBEq, hg]; (repeat' (first | rfl | exact trivial | exact fun h => h | exact fun h => (by rw [h]; rfl) | apply And.intro | omega | exact Nat.le_of_ble_eq_true rfl))) ?_
        simp only [↓sxd, sxu, ↓zE, ↓exq, ↓zH, Nat.reduceBEq, Nat.reduceLT]
      (repeat' (first | rfl | exact trivial | exact fun h => h | exact fun h => (by rw [h]; rfl) | apply And.intro | omega | exact Nat.le_of_ble_eq_true rfl))) ?_
  refine Tr.cond rfl (fun h11 => ?_) (fun h11 => ?_)
  · have hlt : i < l.length := by simp at h11; omega
    have hi13 : i < 14 := by simp at h11; omega
    refine Tr.skip ?_
    refine Tr.seq ?_
    refine Tr.block ?_
    refine Tr.reg [0, 3, 19] (by
        simp only [↓sxd, sxu, ↓zE, ↓exq, ↓zB, St.keep, ↓zJ, ↓zD, Nat.reduceBEq, Nat.reduceLT, sxe, tysW31_35, hlt]
        (repeat' (first | rfl | exact trivial | exact fun h => h | exact fun h => (by rw [h]; rfl) | apply And.intro | omega | exact Nat.le_of_ble_eq_true rfl))) ?_
    refine Tr.cond rfl (fun h19 => ?_) (fun h19 => ?_)
    · have hgt : 13 < (l.getD i []).length := by have := of_decide_eq_true h19; omega
      have hf : shortB l = false := by
        rw [← Bool.not_eq_true, short_iff]
        exact fun h => absurd (h.2 _ (getD_memI hlt)) (by omega)
      rw [hf]
      refine Tr.reg [2] (by
          simp only [↓sxd, sxu, ↓zE, ↓exq, St.keep, Nat.reduceLT]
          (repeat' (first | rfl | exact trivial | exact fun h => h | exact fun h => (by rw [h]; rfl) | apply And.intro | omega | exact Nat.le_of_ble_eq_true rfl))) ?_
      refine Tr.ret ?_
      (refine ⟨.inr rfl, ?_⟩; first | rfl | exact ⟨rfl, rfl, trivial⟩ | exact ⟨rfl, rfl, rfl, trivial⟩ | (simp only [Res, ResL, ResOK, ↓sxd, sxu, ↓zE, ↓zC, zK, ↓exP, ↓exq, ↓zB, St.keep, ↓zH, ↓zL, ↓zJ, ↓zD, Nat.reduceBEq, Nat.reduceAdd, Nat.reduceLT, Nat.reduceMul, Nat.reduceSub, Nat.reduceLeDiff, Nat.reduceEqDiff, Int.reduceLE, Int.reduceLT, Int.reduceToNat, reduceIte, implies_true, sxe, tysW31_35]; (repeat' (first | rfl | exact trivial | exact fun h => h | exact fun h => (by rw [h]; rfl) | apply And.intro | omega | exact Nat.le_of_ble_eq_true rfl))))
    · have hle : (l.getD i []).length ≤ 13 := by have := of_decide_eq_false h19; omega
      refine Tr.skip ?_
      have w1 : IntKind.i64.wrap ((i : Int) + 1) = ((i + 1 : Nat) : Int) := by rw [wr (by omega) (by omega)]; rfl
      refine Tr.reg1 [0, 3] (by
          simp only [↓sxd, sxu, ↓zE, ↓exq, St.keep, Nat.reduceBEq, Nat.reduceLT, w1]
          (repeat' (first | rfl | exact trivial | exact fun h => h | exact fun h => (by rw [h]; rfl) | apply And.intro | omega | exact Nat.le_of_ble_eq_true rfl))) ?_
      exact ⟨_, _, by omega, Imp.keepAll, ⟨i + 1, ⟨hlt, by omega, fun j hj => by
        by_cases hji : j = i
        · subst hji; exact hle
        · exact hall j (by omega)⟩, rfl, rfl⟩⟩
  · have hend : i = l.length ∨ i = 14 := by simp at h11; omega
    have hfin : shortB l = decide ((l.length : Int) ≤ 13) := by
      rw [Bool.eq_iff_iff, short_iff, decide_eq_true_eq]
      refine ⟨fun h => by omega, fun h => ⟨by omega, fun x hx => ?_⟩⟩
      obtain ⟨j, hj, rfl⟩ := List.getElem_of_mem hx
      have := hall j (by omega)
      simpa [List.getD_eq_getElem?_getD, hj] using this
    rw [hfin]
    refine Tr.exit ?_
    refine Tr.reg [2] (by
        simp only [↓sxd, sxu, ↓zE, ↓exq, ↓zB, St.keep, ↓zJ, Nat.reduceLT, sxe, tysW31_35]
        (repeat' (first | rfl | exact trivial | exact fun h => h | exact fun h => (by rw [h]; rfl) | apply And.intro | omega | exact Nat.le_of_ble_eq_true rfl))) ?_
    refine Tr.ret ?_
    (refine ⟨.inr rfl, ?_⟩; first | rfl | exact ⟨rfl, rfl, trivial⟩ | exact ⟨rfl, rfl, rfl, trivial⟩ | (simp only [Res, ResL, ResOK, ↓sxd, sxu, ↓zE, ↓zC, zK, ↓exP, ↓exq, ↓zB, St.keep, ↓zH, ↓zL, ↓zJ, ↓zD, Nat.reduceBEq, Nat.reduceAdd, Nat.reduceLT, Nat.reduceMul, Nat.reduceSub, Nat.reduceLeDiff, Nat.reduceEqDiff, Int.reduceLE, Int.reduceLT, Int.reduceToNat, reduceIte, implies_true, sxe, tysW31_35]; (repeat' (first | rfl | exact trivial | exact fun h => h | exact fun h => (by rw [h]; rfl) | apply And.intro | omega | exact Nat.le_of_ble_eq_true rfl))))
abbrev uL (l : List (List Int)) : List (List SV) := l.map fun u => [SI u]
abbrev vI (v : List Int) : List (List SV) := v.map fun n => [I n]
theorem src_vI (v : List Int) : ((dI v).map fun e => e.map SV.d) = vI v := by simp [dI, vI]
theorem vI_all (v : List Int) : (∀ e ∈ vI v, e.length = 1 ∧ e.all SV.one = true) = True := by simp [SV.one]
theorem vI_fz {r : Nat → Nat} {hp hp' : HpT} (v : List Int) : F2 (F2 fun s x => TnS r hp hp' s (.d x)) (vI v) (dI v) := by
  rw [dI]; exact F2.map fun n _ => .cons (TnS.d _) .nil
theorem uL_fz {r : Nat → Nat} {hp hp' : HpT} (l : List (List Int)) : F2 (F2 fun s x => TnS r hp hp' s (.d x)) (uL l) (dL l) := by
  rw [dL]; exact F2.map fun n _ => .cons (TnS.d _) .nil
theorem uL_tn {r : Nat → Nat} {hp hp' : HpT} (l : List (List Int)) : F2 (F2 (TnS r hp hp')) (uL l) (uL l) := F2.map fun n _ => .cons (TnS.d _) .nil
theorem uL_take {l : List (List Int)} {k : Nat} (h : k < l.length) : uL (l.take (k + 1)) = uL (l.take k) ++ [[SI (l.getD k [])]] := by
  unfold uL
  rw [List.take_succ_eq_append_getElem h, List.map_append]
  simp [List.getD_eq_getElem?_getD, h]
end Go.Proofs.YtcnkbdfkjhlbiaaDoor
namespace Go.Proofs.YtcnkbdfkjhlbiaaDoor
open Go.Sy
set_option maxRecDepth 8000
def asgOne (n : Nat) (l : List Int) (seen : Nat) : Nat → Option (Nat × Nat)
  | 0 => some (0, seen)
  | i + 1 => match asgOne n l seen i with
    | none => none
    | some x => if !(within (l.getD i 0) 0 (n - 1)) || x.2.testBit (l.getD i 0).toNat || (decide (0 < i) && decide (l.getD i 0 ≤ l.getD (i - 1) 0)) then none
      else some (x.1 ||| 2 ^ (l.getD i 0).toNat, x.2 ||| 2 ^ (l.getD i 0).toNat)
def Census.keeps (c : Census) (s : Nat) : Bool := c.same.all fun p => s.testBit p.fst.toNat == s.testBit p.snd.toNat
def Census.asgTo (c : Census) (ls : List (List Int)) : Nat → Option Nat
  | 0 => some 0
  | k + 1 => match c.asgTo ls k with
    | none => none
    | some sn => match asgOne c.entries.length (ls.getD k []) sn (ls.getD k []).length with
      | none => none
      | some x => if x.1 = 0 ∨ c.fitsSet x.1 = false ∨ c.keeps x.1 = false then none else some x.2
def Census.asg (c : Census) (ls : List (List Int)) : Bool := if c.check = 0 then (match c.asgTo ls ls.length with
    | none => false
    | some sn => decide ((elems sn).length = c.entries.length) && within ls.length c.limits.lo c.limits.hi) else false
theorem asgOne_none {n : Nat} {l : List Int} {seen i : Nat} (h : asgOne n l seen i = none) : ∀ d, asgOne n l seen (i + d) = none
  | 0 => h
  | d + 1 => by show asgOne n l seen (i + d + 1) = none; rw [asgOne, asgOne_none h d]
theorem asgTo_none {c : Census} {ls : List (List Int)} {k : Nat} (h : c.asgTo ls k = none) : ∀ d, c.asgTo ls (k + d) = none
  | 0 => h
  | d + 1 => by show c.asgTo ls (k + d + 1) = none; rw [Census.asgTo, asgTo_none h d]
theorem asgOne_lt {n : Nat} {l : List Int} {seen : Nat} (hs : seen < 2 ^ n) : ∀ i x, asgOne n l seen i = some x → x.1 < 2 ^ n ∧ x.2 < 2 ^ n
  | 0, x, h => by simp [asgOne] at h; subst h; exact ⟨Nat.two_pow_pos n, hs⟩
  | i + 1, x, h => by
    rw [asgOne] at h
    split at h
    · cases h
    · rename_i y hy
      obtain ⟨h1, h2⟩ := asgOne_lt hs i y hy
      split at h
      · cases h
      · rename_i g
        cases h
        have hw : within (l.getD i 0) 0 (n - 1) = true := by
          simp only [Bool.or_eq_true, not_or, Bool.not_eq_true', Bool.not_eq_false] at g
          exact g.1.1
        simp only [within, Bool.and_eq_true, decide_eq_true_eq] at hw
        have : 2 ^ (l.getD i 0).toNat < 2 ^ n := Nat.pow_lt_pow_right (by omega) (by omega)
        exact ⟨Nat.or_lt_two_pow h1 this, Nat.or_lt_two_pow h2 this⟩
theorem frzW0 {hp hp' : HpT} {iw : Nat} {c : Census} {one : List Bool} {least : List Int} (hw : hp.lookup iw = some (.arr 2056 [wsOf c (.dx []) one least])) (h1 : ∀ p ∈ hp', p.1 ≠ iw) : TnS (fun i => i) hp hp' (.ptr iw 0 0) (.dp (Work.mk c [] one least).d) := by
  refine TnS.frzp hw h1 (by decide) (by simp) ?_
  show F2 _ (wsOf c (.dx []) one least) _
  refine .cons (TnS.d _) (.cons (TnS.d _) (.cons (TnS.d _) (.cons (TnS.d _) (.cons (TnS.d _) (.cons (TnS.d _) (.cons (TnS.d _) (.cons (TnS.dxd _) (F2.append ?_ ?_))))))))
  · exact F2.map fun _ _ => TnS.d _
  · exact F2.map fun _ _ => TnS.d _
theorem asgOne_step {n : Nat} {l : List Int} {seen i : Nat} {x : Nat × Nat} (h : asgOne n l seen i = some x) : asgOne n l seen (i + 1) = if !(within (l.getD i 0) 0 (n - 1)) || x.2.testBit (l.getD i 0).toNat || (decide (0 < i) && decide (l.getD i 0 ≤ l.getD (i - 1) 0)) then none
      else some (x.1 ||| 2 ^ (l.getD i 0).toNat, x.2 ||| 2 ^ (l.getD i 0).toNat) := by rw [asgOne, h]
theorem asg_none {c : Census} {ls : List (List Int)} {k : Nat} (hk : k < ls.length) (h : c.asgTo ls (k + 1) = none) : c.asg ls = false := by
  unfold Census.asg
  have := asgTo_none h (ls.length - (k + 1))
  rw [show k + 1 + (ls.length - (k + 1)) = ls.length by omega] at this
  rw [this]
  split <;> rfl
theorem frzOwn {hp hp' : HpT} {id own : Nat} (h : hp.lookup id = some (.arr 1 [[U own]])) (hn : ∀ p ∈ hp', p.1 ≠ id) : TnS (fun i => i) hp hp' (.ptr id 0 0) (.fp [U own]) := TnS.frzf h hn (by decide) (by simp) (.cons (TnS.d _) .nil)
theorem keeps_c (c : Census) (hpr : ∀ p ∈ c.same, 0 ≤ p.fst ∧ 0 ≤ p.snd) (hl : c.same.length < 4611686018427387904) (s : Nat) (hs : s < 4096) : CallP Tryd.prog G0 85 [SP c.same, .clo (.func 89) [] [.fp [U s]]] (B (c.keeps s)) :=
  allP_c (fun p => s.testBit p.fst.toNat == s.testBit p.snd.toNat) c.same hl 89 [] [.fp [U s]] fa_nil (by repeat' (first | exact Pure.d _ | exact Pure.dx _ | exact Pure.dp _ | exact fa_nil | refine fa_cons ?_ ?_ | refine Pure.agg ?_ | refine Pure.tup ?_ | refine Pure.clo ?_ ?_ | refine Pure.fp ?_ | exact Pure.mapd _ | assumption)) (fun p hp => keeps1_c p s (by omega) (hpr p hp).1 (hpr p hp).2)
abbrev tysW40_49 := And.intro ty.sz0 <| And.intro ty.agg0 <| And.intro ty.elem0 <| And.intro ty.sz3 <| And.intro ty.agg3 <| And.intro ty.elem3 <| And.intro ty.zero3 <| And.intro ty.und3 <| And.intro ty.sz4 <| And.intro ty.agg4 <| And.intro ty.elem4 <| And.intro ty.zero4 <| And.intro ty.und4 <| And.intro ty.sz30 <| And.intro ty.agg30 <| And.intro ty.fld30_0 <| And.intro ty.fld30_1 <| And.intro ty.elem30 <| And.intro ty.zero30 <| And.intro ty.pl30 <| And.intro ty.sz31 <| And.intro ty.agg31 <| And.intro ty.elem31 <| And.intro ty.zero31 <| And.intro ty.und31 <| And.intro ty.sz34 <| And.intro ty.agg34 <| And.intro ty.elem34 <| And.intro ty.by34 <| And.intro ty.ez34 <| And.intro ty.zero34 <| And.intro ty.und34 <| And.intro ty.sz35 <| And.intro ty.agg35 <| And.intro ty.elem35 <| And.intro ty.by35 <| And.intro ty.ez35 <| And.intro ty.zero35 <| And.intro ty.und35 <| And.intro ty.sz37 <| And.intro ty.agg37 <| And.intro ty.fld37_0 <| And.intro ty.fld37_1 <| And.intro ty.fld37_2 <| And.intro ty.fld37_3 <| And.intro ty.fld37_4 <| And.intro ty.elem37 <| And.intro ty.zero37 <| And.intro ty.pl37 <| And.intro ty.sz39 <| And.intro ty.agg39 <| And.intro ty.elem39 <| And.intro ty.by39 <| And.intro ty.ez39 <| And.intro ty.zero39 <| And.intro ty.und39 <| And.intro ty.sz43 <| And.intro ty.agg43 <| And.intro ty.elem43 <| And.intro ty.by43 <| And.intro ty.ez43 <| And.intro ty.zero43 <| And.intro ty.und43 <| And.intro ty.sz108 <| And.intro ty.agg108 <| And.intro ty.elem108 <| And.intro ty.zero108 <| And.intro ty.sz114 <| And.intro ty.agg114 <| And.intro ty.elem114 <| And.intro ty.zero114 <| And.intro ty.und114 <| And.intro ty.sz138 <| And.intro ty.agg138 <| And.intro ty.elem138 <| And.intro ty.zero138 <| And.intro ty.sz146 <| And.intro ty.agg146 <| And.intro ty.fld146_0 <| And.intro ty.fld146_1 <| And.intro ty.fld146_2 <| And.intro ty.fld146_3 <| And.intro ty.elem146 <| And.intro ty.zero146 <| ty.pl146
set_option maxHeartbeats 4000000 in
theorem ProveAssignment_c (c : Census) (hs : c.small) (ls : List (List Int)) (hl : ls.length ≤ 1000) (hls : ∀ l ∈ ls, l.length ≤ 1000) : CallP Tryd.prog G0 49 [c.s, SL ls] (B (c.asg ls)) := by
  obtain ⟨z1, hz1⟩ : ∃ x, x = List.replicate 1024 false := ⟨_, rfl⟩
  obtain ⟨z2, hz2⟩ : ∃ x, x = List.replicate 1024 (0 : Int) := ⟨_, rfl⟩
  have e1 : List.replicate 1024 (SV.d (D.lit (Value.bool false))) = z1.map B := by rw [hz1, List.map_replicate]
  have e2 : List.replicate 1024 (SV.d (D.lit (Value.int .i64 0))) = z2.map I := by rw [hz2, List.map_replicate]
  have l1 : z1.length = 1024 := by rw [hz1, List.length_replicate]
  have l2 : z2.length = 1024 := by rw [hz2, List.length_replicate]
  refine CallP.body 100 [.tmp 4] Tryd.func49 (by kernel_rfl) rfl rfl rfl (by repeat' (first | exact Pure.d _ | exact Pure.dx _ | exact Pure.dp _ | exact fa_nil | refine fa_cons ?_ ?_ | refine Pure.agg ?_ | refine Pure.tup ?_ | refine Pure.clo ?_ ?_ | refine Pure.fp ?_ | exact Pure.mapd _ | assumption)) (by repeat' (first | exact Pure.d _ | exact Pure.dx _ | exact Pure.dp _ | exact fa_nil | refine fa_cons ?_ ?_ | refine Pure.agg ?_ | refine Pure.tup ?_ | refine Pure.clo ?_ ?_ | refine Pure.fp ?_ | exact Pure.mapd _ | assumption)) ?_
  refine Tr.reg [1, 2] (by
      simp only [↓sxd, sxu, ↓zE, ↓exq, St.keep, ↓zI, Nat.reduceBEq, Nat.reduceAdd, Nat.reduceLT, Nat.reduceEqDiff]
      (repeat' (first | rfl | exact trivial | exact fun h => h | exact fun h => (by rw [h]; rfl) | apply And.intro | omega | exact Nat.le_of_ble_eq_true rfl))) ?_
  refine Tr.seq ?_
  refine Tr.reg [1, 2, 15] (by
      simp only [↓sxd, sxu, ↓zE, ↓exq, St.keep, ↓zD, Nat.reduceBEq, Nat.reduceAdd, Nat.reduceLT, tysW40_49]
      (repeat ((with_reducible refine And.intro ?_ ?_); (focus (first | with_reducible rfl | trivial | exact fun h => h | exact fun h => (by rw [h]; rfl) | omega | assumption))))
      refine CallO.use (checkCensus_c c (by have := hs.1; omega) (by have := hs.2.1; omega) (by have := hs.2.2; omega)) ?_
      try simp only [↓sxd, sxu, ↓zE, ↓exq, Nat.reduceBEq, Nat.reduceLT]
      (repeat' (first | rfl | exact trivial | exact fun h => h | exact fun h => (by rw [h]; rfl) | apply And.intro | omega | exact Nat.le_of_ble_eq_true rfl))) ?_
  refine Tr.cond rfl (fun h15 => ?_) (fun h15 => ?_)
  · have hf : c.asg ls = false := if_neg (by simpa using h15)
    rw [hf]
    refine Tr.reg [4] (by
        simp only [↓sxd, sxu, ↓zE, ↓exq, St.keep, Nat.reduceLT]
        (repeat' (first | rfl | exact trivial | exact fun h => h | exact fun h => (by rw [h]; rfl) | apply And.intro | omega | exact Nat.le_of_ble_eq_true rfl))) ?_
    refine Tr.ret ?_
    (refine ⟨.inr rfl, ?_⟩; first | rfl | exact ⟨rfl, rfl, trivial⟩ | exact ⟨rfl, rfl, rfl, trivial⟩ | (simp only [Res, ResL, ResOK, ↓sxd, sxu, ↓zE, ↓zC, zK, ↓exP, ↓exq, ↓zB, St.keep, ↓zH, ↓zL, ↓zJ, ↓zD, ↓zM, ↓zI, ↓zO, ↓zA, Nat.reduceBEq, Nat.reduceAdd, Nat.reduceLT, Nat.reduceMul, Nat.reduceSub, Nat.reduceLeDiff, Nat.reduceEqDiff, Int.reduceLE, Int.reduceLT, Int.reduceToNat, reduceIte, implies_true, sxe, tysW40_49]; (repeat' (first | rfl | exact trivial | exact fun h => h | exact fun h => (by rw [h]; rfl) | apply And.intro | omega | exact Nat.le_of_ble_eq_true rfl))))
  · have hk : c.check = 0 := by simpa using h15
    have hfi := fine_iff.1 hk
    have hn := Census.small_of hk
    have hpn : 2 ^ c.entries.length ≤ 2 ^ 10 := Nat.pow_le_pow_right (by omega) hn.1
    have hprS : ∀ p ∈ c.same, 0 ≤ p.fst ∧ 0 ≤ p.snd := fun p hp => by have := hfi.ps p hp; rw [pair_iff] at this; omega
    have hprA : ∀ p ∈ c.apart, 0 ≤ p.fst ∧ 0 ≤ p.snd := fun p hp => by have := hfi.pa p hp; rw [pair_iff] at this; omega
    have w0 : IntKind.i64.wrap ((c.entries.length : Int) - 1) = (c.entries.length : Int) - 1 := wr (by omega) (by omega)
    refine Tr.skip ?_
    refine Tr.reg [1, 2, 5] (by
        simp only [↓sxd, sxu, ↓zE, ↓exq, St.keep, ↓zD, ↓zI, ↓zO, Nat.reduceBEq, Nat.reduceAdd, Nat.reduceLT, Nat.reduceLeDiff, Nat.reduceEqDiff, tysW40_49, e1, e2, l1, l2]
        (repeat' (first | rfl | exact trivial | exact fun h => h | exact fun h => (by rw [h]; rfl) | apply And.intro | omega | exact Nat.le_of_ble_eq_true rfl))) ?_
    refine Tr.reg [1, 2, 5, 6] (by
        simp only [↓sxd, sxu, ↓zE, ↓exq, St.keep, Nat.reduceBEq, Nat.reduceLT]
        (repeat' (first | rfl | exact trivial | exact fun h => h | exact fun h => (by rw [h]; rfl) | apply And.intro | omega | exact Nat.le_of_ble_eq_true rfl))) ?_
    refine Tr.seq ?_
    refine Tr.reg [1, 2, 5, 6, 19, 20, 21] (by
        simp only [↓sxd, sxu, ↓zE, ↓exq, ↓zB, St.keep, ↓zJ, Nat.reduceBEq, Nat.reduceLT, sxe, tysW40_49]
        (repeat' (first | rfl | exact trivial | exact fun h => h | exact fun h => (by rw [h]; rfl) | apply And.intro | omega | exact Nat.le_of_ble_eq_true rfl))) ?_
    refine Tr.imp (st' := ⟨[(1, SL ls), (2, .ptr 0 0 0), (5, .ptr 1 0 0), (6, U 0), (19, SL ls), (20, I ls.length), (21, I 0)], [(1, .arr 2056 [wsOf c (.dx []) z1 z2]), (0, .arr 7 [cs c (SP c.same) (SP c.apart)])], 2, 100, [], 0⟩) (Imp.keepAll) (Tr.block (Tr.loopI (fun mm ss => ∃ (k sn : Nat), (k ≤ ls.length ∧ c.asgTo ls k = some sn ∧ sn < 2 ^ c.entries.length) ∧ ls.length - k = mm ∧ ss = ⟨[(1, SL ls), (2, .ptr 0 0 0), (5, .ptr 1 0 0), (6, U sn), (19, SL ls), (20, I ls.length), (21, I k)], [(1, .arr 2056 [wsOf c (.dx []) z1 z2]), (0, .arr 7 [cs c (SP c.same) (SP c.apart)])], 2, 100, [], 0⟩) _ ⟨0, 0, ?_, rfl, rfl⟩ ?_))
    · exact ⟨Nat.zero_le _, rfl, Nat.two_pow_pos _⟩
    rintro mm ss ⟨k, sn, hI, rfl, rfl⟩
    obtain ⟨hI, hto, hsn⟩ := hI
    refine Tr.reg [1, 2, 5, 6, 19, 20, 21, 22] (by
        simp only [↓sxd, sxu, ↓zE, ↓exq, St.keep, Nat.reduceBEq, Nat.reduceLT, sxe]
        (repeat' (first | rfl | exact trivial | exact fun h => h | exact fun h => (by rw [h]; rfl) | apply And.intro | omega | exact Nat.le_of_ble_eq_true rfl))) ?_
    refine Tr.seq ?_
    refine Tr.cond rfl (fun h22 => ?_) (fun h22 => ?_)
    · have hlt : k < ls.length := by have := of_decide_eq_true h22; omega
      have hll := hls _ (getD_memI hlt)
      have hnx : c.asgTo ls (k + 1) = match asgOne c.entries.length (ls.getD k []) sn (ls.getD k []).length with | none => none | some x => if x.1 = 0 ∨ c.fitsSet x.1 = false ∨ c.keeps x.1 = false then none else some x.2 := by rw [Census.asgTo, hto]
      generalize hL : ls.getD k [] = L at hll hnx
      refine Tr.skip ?_
      refine Tr.seq ?_
      refine Tr.block ?_
      refine Tr.reg [1, 2, 5, 6, 8, 19, 20, 21] (by
          simp only [↓sxd, sxu, ↓zE, ↓exq, St.keep, ↓zD, Nat.reduceBEq, Nat.reduceLT, sxe, tysW40_49, hlt, hL]
          (repeat' (first | rfl | exact trivial | exact fun h => h | exact fun h => (by rw [h]; rfl) | apply And.intro | omega | exact Nat.le_of_ble_eq_true rfl))) ?_
      refine Tr.reg [1, 2, 5, 6, 8, 9, 19, 20, 21] (by
          simp only [↓sxd, sxu, ↓zE, ↓exq, St.keep, ↓zM, Nat.reduceBEq, Nat.reduceAdd, Nat.reduceLT, Nat.reduceEqDiff, tysW40_49]
          (repeat' (first | rfl | exact trivial | exact fun h => h | exact fun h => (by rw [h]; rfl) | apply And.intro | omega | exact Nat.le_of_ble_eq_true rfl))) ?_
      refine Tr.seq ?_
      refine Tr.reg [1, 2, 5, 6, 8, 9, 19, 20, 21, 25, 26, 27] (by
          simp only [↓sxd, sxu, ↓zE, ↓exq, ↓zB, St.keep, ↓zJ, Nat.reduceBEq, Nat.reduceLT, sxe, tysW40_49]
          (repeat' (first | rfl | exact trivial | exact fun h => h | exact fun h => (by rw [h]; rfl) | apply And.intro | omega | exact Nat.le_of_ble_eq_true rfl))) ?_
      refine Tr.imp (st' := ⟨[(1, SL ls), (2, .ptr 0 0 0), (5, .ptr 1 0 0), (6, U sn), (8, SI L), (9, .ptr 2 0 0), (19, SL ls), (20, I ls.length), (21, I k), (25, SI L), (26, I L.length), (27, I 0)], [(2, .arr 1 [[U 0]]), (1, .arr 2056 [wsOf c (.dx []) z1 z2]), (0, .arr 7 [cs c (SP c.same) (SP c.apart)])], 3, 100, [], 0⟩) (Imp.keepAll) (Tr.block (Tr.loopI (fun mm ss => ∃ (i own s2 : Nat), (i ≤ L.length ∧ asgOne c.entries.length L sn i = some (own, s2) ∧ own < 2 ^ c.entries.length ∧ s2 < 2 ^ c.entries.length) ∧ L.length - i = mm ∧ ss = ⟨[(1, SL ls), (2, .ptr 0 0 0), (5, .ptr 1 0 0), (6, U s2), (8, SI L), (9, .ptr 2 0 0), (19, SL ls), (20, I ls.length), (21, I k), (25, SI L), (26, I L.length), (27, I i)], [(2, .arr 1 [[U own]]), (1, .arr 2056 [wsOf c (.dx []) z1 z2]), (0, .arr 7 [cs c (SP c.same) (SP c.apart)])], 3, 100, [], 0⟩) _ ⟨0, 0, sn, ?_, rfl, rfl⟩ ?_))
      · exact ⟨Nat.zero_le _, rfl, Nat.two_pow_pos _, hsn⟩
      rintro mm ss ⟨i, own, s2, hI, rfl, rfl⟩
      obtain ⟨hI2, hone, hown, hs2⟩ := hI
      refine Tr.reg [1, 2, 5, 6, 8, 9, 19, 20, 21, 25, 26, 27, 28] (by
          simp only [↓sxd, sxu, ↓zE, ↓exq, St.keep, Nat.reduceBEq, Nat.reduceLT, sxe]
          (repeat' (first | rfl | exact trivial | exact fun h => h | exact fun h => (by rw [h]; rfl) | apply And.intro | omega | exact Nat.le_of_ble_eq_true rfl))) ?_
      refine Tr.seq ?_
      refine Tr.cond rfl (fun h28 => ?_) (fun h28 => ?_)
      · have hlt2 : i < L.length := by have := of_decide_eq_true h28; omega
        have hi1 : i - 1 < L.length := by omega
        have hst := asgOne_step hone
        refine Tr.skip ?_
        refine Tr.seq ?_
        refine Tr.block ?_
        refine Tr.reg [1, 2, 5, 6, 8, 9, 10, 11, 19, 20, 21, 25, 26, 27] (by
            simp only [↓sxd, sxu, ↓zE, ↓exq, St.keep, ↓zD, Nat.reduceBEq, Nat.reduceLT, sxe, tysW40_49, hlt2]
            (repeat' (first | rfl | exact trivial | exact fun h => h | exact fun h => (by rw [h]; rfl) | apply And.intro | omega | exact Nat.le_of_ble_eq_true rfl))) ?_
        refine Tr.seq ?_
        refine Tr.reg [1, 2, 5, 6, 8, 9, 11, 19, 20, 21, 25, 26, 27, 56] (by
            simp only [↓sxd, sxu, ↓zE, ↓exq, ↓zB, St.keep, ↓zJ, ↓zD, ↓zA, Nat.reduceBEq, Nat.reduceAdd, Nat.reduceLT, Nat.reduceEqDiff, sxe, tysW40_49, w0]
            (repeat ((with_reducible refine And.intro ?_ ?_); (focus (first | with_reducible rfl | trivial | exact fun h => h | exact fun h => (by rw [h]; rfl) | omega | assumption))))
            refine CallO.use (within_c _ _ _ _) ?_
            try simp only [↓sxd, sxu, ↓zE, ↓exq, ↓zL, Nat.reduceLT]
            iterate 2
              (repeat ((with_reducible refine And.intro ?_ ?_); (focus (first | with_reducible rfl | trivial | exact fun h => h | exact fun h => (by rw [h]; rfl) | omega | assumption))))
              refine GdO.mk _ (fun hg => by simp only [sxu, ↓exq, Nat.reduceBEq, hg]; (repeat' (first | rfl | exact trivial | exact fun h => h | exact fun h => (by rw [h]; rfl) | apply And.intro | omega | exact Nat.le_of_ble_eq_true rfl))) ?_
              simp only [↓sxd, sxu, ↓zE, Nat.reduceBEq, Nat.reduceLT]
            (repeat ((with_reducible refine And.intro ?_ ?_); (focus (first | with_reducible rfl | trivial | exact fun h => h | exact fun h => (by rw [h]; rfl) | omega | assumption))))
            refine GdO.mk (B (s2.testBit (L.getD i 0).toNat)) (fun hg => by
              have hx : 0 ≤ L.getD i 0 := by
                have hg : (decide (0 ≤ L.getD i 0) && decide (L.getD i 0 ≤ (c.entries.length : Int) - 1)) = true := by simpa using hg
                rw [Bool.and_eq_true, decide_eq_true_eq] at hg
                exact hg.1
              obtain ⟨y, hy⟩ := Int.eq_ofNat_of_zero_le hx
              simp only [sxu, ↓exq, ↓zB, Nat.reduceBEq, hg]
              simp only [hy, Int.toNat_natCast]
              (repeat ((with_reducible refine And.intro ?_ ?_); (focus (first | with_reducible rfl | trivial | exact fun h => h | exact fun h => (by rw [h]; rfl) | omega | assumption))))
              exact CallP.use (has_c s2 y (by omega)) ⟨rfl, rfl, rfl⟩) ?_
            try simp only [↓sxd, sxu, ↓zE, ↓exq, ↓zH, Nat.reduceBEq, Nat.reduceLT]
            iterate 6
              (repeat ((with_reducible refine And.intro ?_ ?_); (focus (first | with_reducible rfl | trivial | exact fun h => h | exact fun h => (by rw [h]; rfl) | omega | assumption))))
              refine GdO.mk _ (fun hg => by simp only [↓sxd, sxu, ↓exq, Nat.reduceBEq, hg]; (repeat' (first | rfl | exact trivial | exact fun h => h | exact fun h => (by rw [h]; rfl) | apply And.intro | omega | exact Nat.le_of_ble_eq_true rfl))) ?_
              simp only [↓sxd, sxu, ↓zE, Nat.reduceBEq, Nat.reduceLT]
            (repeat ((with_reducible refine And.intro ?_ ?_); (focus (first | with_reducible rfl | trivial | exact fun h => h | exact fun h => (by rw [h]; rfl) | omega | assumption))))
            refine GdO.mk (I ((i - 1 : Nat) : Int)) (fun hg => by
              have h0 : 0 < i := by
                rw [Bool.and_eq_true, decide_eq_true_eq] at hg; omega
              have hw : IntKind.i64.wrap ((i : Int) - 1) = ((i - 1 : Nat) : Int) := by rw [wr (by omega) (by omega)]; omega
              simp only [↓sxd, sxu, ↓exq, hg, hw]
              (repeat' (first | rfl | exact trivial | exact fun h => h | exact fun h => (by rw [h]; rfl) | apply And.intro | omega | exact Nat.le_of_ble_eq_true rfl))) ?_
            try simp only [↓sxd, sxu, ↓zE, Nat.reduceBEq, Nat.reduceLT]
            iterate 3
              (repeat ((with_reducible refine And.intro ?_ ?_); (focus (first | with_reducible rfl | trivial | exact fun h => h | exact fun h => (by rw [h]; rfl) | omega | assumption))))
              refine GdO.mk _ (fun hg => by simp only [↓sxd, sxu, ↓exq, ↓zD, Nat.reduceBEq, Nat.reduceLT, sxe, tysW40_49, hi1, hg]; (repeat' (first | rfl | exact trivial | exact fun h => h | exact fun h => (by rw [h]; rfl) | apply And.intro | omega | exact Nat.le_of_ble_eq_true rfl))) ?_
              simp only [↓sxd, sxu, ↓zE, Nat.reduceBEq, Nat.reduceLT]
            (repeat ((with_reducible refine And.intro ?_ ?_); (focus (first | with_reducible rfl | trivial | exact fun h => h | exact fun h => (by rw [h]; rfl) | omega | assumption))))
            first | refine GdO.and (fun hg => by simp only [sxu, Nat.reduceBEq, pickArgs, hg]; (repeat' (first | rfl | exact trivial | exact fun h => h | exact fun h => (by rw [h]; rfl) | apply And.intro | omega | exact Nat.le_of_ble_eq_true rfl))) ?_ | refine GdO.mk _ (fun hg => by simp only [↓sxd, sxu, ↓zE, ↓zC, zK, ↓exP, ↓exq, ↓zB, St.keep, ↓zH, ↓zL, ↓zJ, ↓zD, ↓zM, ↓zI, ↓zO, ↓zA, Nat.reduceBEq, Nat.reduceAdd, Nat.reduceLT, Nat.reduceMul, Nat.reduceSub, Nat.reduceLeDiff, Nat.reduceEqDiff, Int.reduceLE, Int.reduceLT, Int.reduceToNat, reduceIte, implies_true, sxe, tysW40_49, w0, hi1, hlt2, hg, if_true]; (repeat' (first | rfl | exact trivial | exact fun h => h | exact fun h => (by rw [h]; rfl) | apply And.intro | omega | exact Nat.le_of_ble_eq_true rfl))) ?_
            simp only [↓sxd, sxu, ↓zE, ↓exq, ↓zH, Nat.reduceBEq, Nat.reduceLT]
            (repeat' (first | rfl | exact trivial | exact fun h => h | exact fun h => (by rw [h]; rfl) | apply And.intro | omega | exact Nat.le_of_ble_eq_true rfl))) ?_
        refine Tr.cond rfl (fun h56 => ?_) (fun h56 => ?_)
        · have hbad : asgOne c.entries.length L sn (i + 1) = none := by
            rw [hst, if_pos]
            have hi0 : decide ((i : Int) > 0) = decide (0 < i) := decide_eq_decide.2 (by omega)
            rw [hi0] at h56
            exact h56
          have hno : c.asgTo ls (k + 1) = none := by
            have := asgOne_none hbad (L.length - (i + 1))
            rw [show i + 1 + (L.length - (i + 1)) = L.length by omega] at this
            rw [hnx, this]
          have hf : c.asg ls = false := asg_none hlt hno
          rw [hf]
          refine Tr.reg [4] (by
              simp only [↓sxd, sxu, ↓zE, ↓exq, St.keep, Nat.reduceLT]
              (repeat' (first | rfl | exact trivial | exact fun h => h | exact fun h => (by rw [h]; rfl) | apply And.intro | omega | exact Nat.le_of_ble_eq_true rfl))) ?_
          refine Tr.ret ?_
          (refine ⟨.inr rfl, ?_⟩; first | rfl | exact ⟨rfl, rfl, trivial⟩ | exact ⟨rfl, rfl, rfl, trivial⟩ | (simp only [Res, ResL, ResOK, ↓sxd, sxu, ↓zE, ↓zC, zK, ↓exP, ↓exq, ↓zB, St.keep, ↓zH, ↓zL, ↓zJ, ↓zD, ↓zM, ↓zI, ↓zO, ↓zA, Nat.reduceBEq, Nat.reduceAdd, Nat.reduceLT, Nat.reduceMul, Nat.reduceSub, Nat.reduceLeDiff, Nat.reduceEqDiff, Int.reduceLE, Int.reduceLT, Int.reduceToNat, reduceIte, implies_true, sxe, tysW40_49]; (repeat' (first | rfl | exact trivial | exact fun h => h | exact fun h => (by rw [h]; rfl) | apply And.intro | omega | exact Nat.le_of_ble_eq_true rfl))))
        · have hgood : asgOne c.entries.length L sn (i + 1) = some (own ||| 2 ^ (L.getD i 0).toNat, s2 ||| 2 ^ (L.getD i 0).toNat) := by
            rw [hst, if_neg]
            have hi0 : decide ((i : Int) > 0) = decide (0 < i) := decide_eq_decide.2 (by omega)
            rw [hi0] at h56
            have h56 : _ = false := h56
            rw [Bool.not_eq_true]
            exact h56
          have hlts := asgOne_lt hsn (i + 1) _ hgood
          have hxr : 0 ≤ L.getD i 0 ∧ L.getD i 0 ≤ (c.entries.length : Int) - 1 := by
            simp only [Bool.or_eq_false_iff, Bool.not_eq_false', Bool.and_eq_true, decide_eq_true_eq] at h56
            exact h56.1.1
          obtain ⟨y, hy⟩ := Int.eq_ofNat_of_zero_le hxr.1
          have hyt : (L.getD i 0).toNat = y := by omega
          rw [hyt] at hgood hlts
          have hy64 : y < 64 := by omega
          have hpy : 2 ^ y ≤ 2 ^ 10 := Nat.pow_le_pow_right (by omega) (by omega)
          refine Tr.skip ?_
          refine Tr.regD [0, 1, 2, 3, 4] [4] [] [1, 2, 5, 6, 8, 9, 11, 19, 20, 21, 25, 26, 27] mix (by kernel_rfl) (by
              simp only [↓sxd, sxu, ↓zC, zK, ↓exq, St.keep, ↓zD, Nat.reduceBEq, Nat.reduceLT, Nat.reduceEqDiff, sxe, tysW40_49, hy, shl_u hy64, or_u (show own < 18446744073709551616 by omega) (show 2 ^ y < 18446744073709551616 by omega)]
              (repeat' (first | rfl | exact trivial | exact fun h => h | exact fun h => (by rw [h]; rfl) | apply And.intro | omega | exact Nat.le_of_ble_eq_true rfl))) ?_
          refine Tr.reg1 [1, 2, 5, 6, 8, 9, 19, 20, 21, 25, 26, 27] (by
              simp only [↓sxd, sxu, ↓zE, ↓exq, St.keep, Nat.reduceBEq, Nat.reduceLT, sxe, shl_u hy64, or_u (show s2 < 18446744073709551616 by omega) (show 2 ^ y < 18446744073709551616 by omega)]
              (repeat' (first | rfl | exact trivial | exact fun h => h | exact fun h => (by rw [h]; rfl) | apply And.intro | omega | exact Nat.le_of_ble_eq_true rfl))) ?_
          have w1 : IntKind.i64.wrap ((i : Int) + 1) = ((i + 1 : Nat) : Int) := by rw [wr (by omega) (by omega)]; rfl
          refine Tr.reg1 [1, 2, 5, 6, 8, 9, 19, 20, 21, 25, 26, 27] (by
              simp only [↓sxd, sxu, ↓zE, ↓exq, St.keep, Nat.reduceBEq, Nat.reduceLT, w1]
              (repeat' (first | rfl | exact trivial | exact fun h => h | exact fun h => (by rw [h]; rfl) | apply And.intro | omega | exact Nat.le_of_ble_eq_true rfl))) ?_
          exact ⟨_, _, by omega, Imp.keepAll, ⟨i + 1, own ||| 2 ^ y, s2 ||| 2 ^ y, ⟨hlt2, hgood, hlts.1, hlts.2⟩, rfl, rfl⟩⟩
      · have hge2 : i = L.length := by have := of_decide_eq_false h28; omega
        subst hge2
        rw [hone] at hnx
        have hnx : c.asgTo ls (k + 1) = if own = 0 ∨ c.fitsSet own = false ∨ c.keeps own = false then none else some s2 := hnx
        have hob : ∀ e ∈ elems own, e < c.entries.length := fun e he => elems_lt he hown
        refine Tr.exit ?_
        refine Tr.reg [1, 2, 5, 6, 19, 20, 21, 80] (by
            simp only [↓sxd, sxu, ↓zE, ↓exq, St.keep, ↓zD, Nat.reduceBEq, Nat.reduceLT, tysW40_49]
            iterate 2
              (repeat ((with_reducible refine And.intro ?_ ?_); (focus (first | with_reducible rfl | trivial | exact fun h => h | exact fun h => (by rw [h]; rfl) | omega | assumption))))
              refine GdO.mk _ (fun hg => by simp only [sxu, ↓exq, ↓zD, Nat.reduceBEq, Nat.reduceLT, tysW40_49, hg]; (repeat' (first | rfl | exact trivial | exact fun h => h | exact fun h => (by rw [h]; rfl) | apply And.intro | omega | exact Nat.le_of_ble_eq_true rfl))) ?_
              simp only [↓sxd, sxu, ↓zE, Nat.reduceBEq, Nat.reduceLT]
            (repeat ((with_reducible refine And.intro ?_ ?_); (focus (first | with_reducible rfl | trivial | exact fun h => h | exact fun h => (by rw [h]; rfl) | omega | assumption))))
            refine GdO.mk (B (c.fitsSet own)) (fun hg => by
              simp only [sxu, ↓exq, ↓zB, Nat.reduceBEq, hg]
              (repeat ((with_reducible refine And.intro ?_ ?_); (focus (first | with_reducible rfl | trivial | exact fun h => h | exact fun h => (by rw [h]; rfl) | omega | assumption))))
              exact CallP.useB [] (fits_c (Work.mk c [] z1 z2) own (by omega) hob hprA (show c.apart.length < 4611686018427387904 by omega)) (List.nil_sublist _) (.cons (frzW0 rfl (by simp)) (.cons (TnS.d _) .nil)) (Rigid.lit _) ⟨rfl, rfl, rfl⟩) ?_
            try simp only [↓sxd, sxu, ↓zE, Nat.reduceBEq, Nat.reduceLT]
            iterate 4
              (repeat ((with_reducible refine And.intro ?_ ?_); (focus (first | with_reducible rfl | trivial | exact fun h => h | exact fun h => (by rw [h]; rfl) | omega | assumption))))
              refine GdO.mk _ (fun hg => by simp only [sxu, ↓exq, ↓zL, ↓zD, ↓zA, Nat.reduceBEq, Nat.reduceAdd, Nat.reduceLT, Nat.reduceEqDiff, tysW40_49, hg]; (repeat' (first | rfl | exact trivial | exact fun h => h | exact fun h => (by rw [h]; rfl) | apply And.intro | omega | exact Nat.le_of_ble_eq_true rfl))) ?_
              simp only [↓sxd, sxu, ↓zE, ↓exq, ↓zH, Nat.reduceBEq, Nat.reduceLT]
            (repeat ((with_reducible refine And.intro ?_ ?_); (focus (first | with_reducible rfl | trivial | exact fun h => h | exact fun h => (by rw [h]; rfl) | omega | assumption))))
            refine GdO.mk (B (c.keeps own)) (fun hg => by
              simp only [sxu, ↓exq, ↓zB, Nat.reduceBEq, hg]
              (repeat ((with_reducible refine And.intro ?_ ?_); (focus (first | with_reducible rfl | trivial | exact fun h => h | exact fun h => (by rw [h]; rfl) | omega | assumption))))
              exact CallP.useB [] (keeps_c c hprS (by omega) own (by omega)) (List.nil_sublist _) (.cons (TnS.d _) (.cons (TnS.clo .nil (.cons (frzOwn rfl (by simp)) .nil)) .nil)) (Rigid.lit _) ⟨rfl, rfl, rfl⟩) ?_
            try simp only [↓sxd, sxu, ↓zE, Nat.reduceBEq, Nat.reduceLT]
            (repeat ((with_reducible refine And.intro ?_ ?_); (focus (first | with_reducible rfl | trivial | exact fun h => h | exact fun h => (by rw [h]; rfl) | omega | assumption))))
            refine GdO.mk _ (fun hg => by simp only [sxu, ↓exq, ↓zL, hg]; (repeat' (first | rfl | exact trivial | exact fun h => h | exact fun h => (by rw [h]; rfl) | apply And.intro | omega | exact Nat.le_of_ble_eq_true rfl))) ?_
            simp only [↓sxd, sxu, ↓zE, ↓exq, ↓zH, Nat.reduceBEq, Nat.reduceLT]
            (repeat' (first | rfl | exact trivial | exact fun h => h | exact fun h => (by rw [h]; rfl) | apply And.intro | omega | exact Nat.le_of_ble_eq_true rfl))) ?_
        refine Tr.cond rfl (fun h80 => ?_) (fun h80 => ?_)
        · have hno : c.asgTo ls (k + 1) = none := by
            rw [hnx, if_pos]
            simp only [Bool.or_eq_true, beq_iff_eq, Bool.not_eq_true'] at h80
            rcases h80 with (h | h) | h
            · exact .inl (by omega)
            · exact .inr (.inl h)
            · exact .inr (.inr h)
          have hf : c.asg ls = false := asg_none hlt hno
          rw [hf]
          refine Tr.reg [4] (by
              simp only [↓sxd, sxu, ↓zE, ↓exq, St.keep, Nat.reduceLT]
              (repeat' (first | rfl | exact trivial | exact fun h => h | exact fun h => (by rw [h]; rfl) | apply And.intro | omega | exact Nat.le_of_ble_eq_true rfl))) ?_
          refine Tr.ret ?_
          (refine ⟨.inr rfl, ?_⟩; first | rfl | exact ⟨rfl, rfl, trivial⟩ | exact ⟨rfl, rfl, rfl, trivial⟩ | (simp only [Res, ResL, ResOK, ↓sxd, sxu, ↓zE, ↓zC, zK, ↓exP, ↓exq, ↓zB, St.keep, ↓zH, ↓zL, ↓zJ, ↓zD, ↓zM, ↓zI, ↓zO, ↓zA, Nat.reduceBEq, Nat.reduceAdd, Nat.reduceLT, Nat.reduceMul, Nat.reduceSub, Nat.reduceLeDiff, Nat.reduceEqDiff, Int.reduceLE, Int.reduceLT, Int.reduceToNat, reduceIte, implies_true, sxe, tysW40_49]; (repeat' (first | rfl | exact trivial | exact fun h => h | exact fun h => (by rw [h]; rfl) | apply And.intro | omega | exact Nat.le_of_ble_eq_true rfl))))
        · have hyes : c.asgTo ls (k + 1) = some s2 := by
            rw [hnx, if_neg]
            simp only [Bool.or_eq_false_iff, beq_eq_false_iff_ne, ne_eq, Bool.not_eq_false'] at h80
            rintro (h | h | h)
            · exact h80.1.1 (by omega)
            · rw [h80.1.2] at h; cases h
            · rw [h80.2] at h; cases h
          refine Tr.skip ?_
          have w2 : IntKind.i64.wrap ((k : Int) + 1) = ((k + 1 : Nat) : Int) := by rw [wr (by omega) (by omega)]; rfl
          refine Tr.reg1 [1, 2, 5, 6, 19, 20, 21] (by
              simp only [↓sxd, sxu, ↓zE, ↓exq, St.keep, Nat.reduceBEq, Nat.reduceLT, w2]
              (repeat' (first | rfl | exact trivial | exact fun h => h | exact fun h => (by rw [h]; rfl) | apply And.intro | omega | exact Nat.le_of_ble_eq_true rfl))) ?_
          exact ⟨_, _, by omega, Imp.go (fun i => if i < 2 then i else i + 1) _ rfl rfl (.cons _ (.refl _)) (fun _ h => absurd h (Nat.not_lt_zero _)) (fun id h => by simp only [show ¬ id < 2 by omega, if_false]; omega) (by repeat' (first | exact TmT.cons rfl (TnS.d _) ?_ | exact trivial | exact F2.nil | refine F2.append ?_ ?_ | refine F2.map fun _ _ => ?_ | refine F2.cons ?_ ?_ | refine TmT.cons rfl ?_ ?_ | exact TnS.d _ | exact TnS.dx _ | exact TnS.dp _ | exact TnS.slc rfl | exact TnS.ptr rfl | refine TnS.frzf rfl (by simp) (by simp) (by simp) ?_ | refine TnS.frz0 rfl (by simp) (by simp) (by simp) ?_ | refine TnS.frzm rfl (by simp) ?_ | exact TnS.mapr rfl | exact TnS.yld rfl | refine ⟨rfl, ?_⟩ | refine TnO.arr ?_ | refine TnO.map ?_ | exact TnO.raw _ | exact TnO.iter _ _ | refine TnS.agg ?_ | refine TnS.tup ?_ | exact TnS.pure (Pure.clo (by assumption) (by assumption)) | refine TnS.clo ?_ ?_ | exact TnS.unk _ | exact TnS.pure (Pure.clo (by assumption) (by assumption)))) (by repeat' (first | exact TmT.cons rfl (TnS.d _) ?_ | exact trivial | exact F2.nil | refine F2.append ?_ ?_ | refine F2.map fun _ _ => ?_ | refine F2.cons ?_ ?_ | refine TmT.cons rfl ?_ ?_ | exact TnS.d _ | exact TnS.dx _ | exact TnS.dp _ | exact TnS.slc rfl | exact TnS.ptr rfl | refine TnS.frzf rfl (by simp) (by simp) (by simp) ?_ | refine TnS.frz0 rfl (by simp) (by simp) (by simp) ?_ | refine TnS.frzm rfl (by simp) ?_ | exact TnS.mapr rfl | exact TnS.yld rfl | refine ⟨rfl, ?_⟩ | refine TnO.arr ?_ | refine TnO.map ?_ | exact TnO.raw _ | exact TnO.iter _ _ | refine TnS.agg ?_ | refine TnS.tup ?_ | exact TnS.pure (Pure.clo (by assumption) (by assumption)) | refine TnS.clo ?_ ?_ | exact TnS.unk _ | exact TnS.pure (Pure.clo (by assumption) (by assumption)))) (fun _ => rfl), ⟨k + 1, s2, ⟨hlt, hyes, hs2⟩, rfl, rfl⟩⟩
    · have hge : k = ls.length := by have := of_decide_eq_false h22; omega
      subst hge
      refine Tr.exit ?_
      refine Tr.reg [1, 2, 6, 12] (by
          simp only [↓sxd, sxu, ↓zE, ↓exq, St.keep, ↓zD, Nat.reduceBEq, Nat.reduceAdd, Nat.reduceLT, tysW40_49]
          (repeat ((with_reducible refine And.intro ?_ ?_); (focus (first | with_reducible rfl | trivial | exact fun h => h | exact fun h => (by rw [h]; rfl) | omega | assumption))))
          refine CallO.use (limits_c _ c) ?_
          try simp only [↓sxd, sxu, ↓zE, ↓exq, ↓zM, Nat.reduceBEq, Nat.reduceAdd, Nat.reduceLT, Nat.reduceEqDiff, tysW40_49]
          (repeat' (first | rfl | exact trivial | exact fun h => h | exact fun h => (by rw [h]; rfl) | apply And.intro | omega | exact Nat.le_of_ble_eq_true rfl))) ?_
      have hfin : c.asg ls = (decide ((elems sn).length = c.entries.length) && within ls.length c.limits.lo c.limits.hi) := by
        unfold Census.asg
        rw [if_pos hk, hto]
      rw [hfin]
      have hed : decide ((elems sn).length = c.entries.length) = (((elems sn).length : Int) == (c.entries.length : Int)) := by rw [ib]; rfl
      rw [hed]
      refine Tr.regD [0, 1, 2, 3, 4, 5, 6, 7, 8, 9, 10, 11, 12, 13, 14, 15, 16] [] [] [4] mix (by kernel_rfl) (by
          simp only [↓sxd, sxu, ↓zC, zK, ↓exq, St.keep, Nat.reduceBEq, Nat.reduceLT]
          (repeat ((with_reducible refine And.intro ?_ ?_); (focus (first | with_reducible rfl | trivial | exact fun h => h | exact fun h => (by rw [h]; rfl) | omega | assumption))))
          refine CallD.use (list_c sn (by omega)) ?_
          try simp only [↓sxd, sxu, ↓zC, zK, ↓exq, ↓zB, ↓zJ, ↓zD, ↓zA, Nat.reduceBEq, Nat.reduceAdd, Nat.reduceLT, Nat.reduceEqDiff, sxe, tysW40_49, nats_len]
          iterate 6
            (repeat ((with_reducible refine And.intro ?_ ?_); (focus (first | with_reducible rfl | trivial | exact fun h => h | exact fun h => (by rw [h]; rfl) | omega | assumption))))
            refine GdD.mk _ (fun hg => by simp only [sxu, ↓exP, ↓exq, ↓zB, ↓zJ, ↓zD, ↓zA, Nat.reduceBEq, Nat.reduceAdd, Nat.reduceLT, Nat.reduceEqDiff, sxe, tysW40_49, hg]; (repeat' (first | rfl | exact trivial | exact fun h => h | exact fun h => (by rw [h]; rfl) | apply And.intro | omega | exact Nat.le_of_ble_eq_true rfl))) ?_
            simp only [↓sxd, sxu, ↓zC, zK, Nat.reduceBEq, Nat.reduceLT]
          (repeat ((with_reducible refine And.intro ?_ ?_); (focus (first | with_reducible rfl | trivial | exact fun h => h | exact fun h => (by rw [h]; rfl) | omega | assumption))))
          refine GdD.mk _ (fun hg => by simp only [sxu, ↓exP, Nat.reduceBEq, hg]; first | exact within_c _ _ _ _ | exact ⟨within_c _ _ _ _, rfl, rfl⟩ | exact ⟨within_c _ _ _ _, trivial⟩ | exact ⟨within_c _ _ _ _, trivial, trivial⟩) ?_
          simp only [↓sxd, sxu, ↓zC, zK, ↓exq, ↓zH, Nat.reduceBEq, Nat.reduceLT]
          (repeat' (first | rfl | exact trivial | exact fun h => h | exact fun h => (by rw [h]; rfl) | apply And.intro | omega | exact Nat.le_of_ble_eq_true rfl))) ?_
      refine Tr.ret ?_
      (refine ⟨.inr rfl, ?_⟩; first | rfl | exact ⟨rfl, rfl, trivial⟩ | exact ⟨rfl, rfl, rfl, trivial⟩ | (simp only [Res, ResL, ResOK, ↓sxd, sxu, ↓zE, ↓zC, zK, ↓exP, ↓exq, ↓zB, St.keep, ↓zH, ↓zL, ↓zJ, ↓zD, ↓zM, ↓zI, ↓zO, ↓zA, Nat.reduceBEq, Nat.reduceAdd, Nat.reduceLT, Nat.reduceMul, Nat.reduceSub, Nat.reduceLeDiff, Nat.reduceEqDiff, Int.reduceLE, Int.reduceLT, Int.reduceToNat, reduceIte, implies_true, sxe, tysW40_49]; (repeat' (first | rfl | exact trivial | exact fun h => h | exact fun h => (by rw [h]; rfl) | apply And.intro | omega | exact Nat.le_of_ble_eq_true rfl))))
end Go.Proofs.YtcnkbdfkjhlbiaaDoor
namespace Go.Proofs.YtcnkbdfkjhlbiaaDoor
open Go.Sy
set_option maxRecDepth 8000
abbrev tysW32_50 := And.intro ty.sz0 <| And.intro ty.agg0 <| And.intro ty.elem0 <| And.intro ty.sz3 <| And.intro ty.agg3 <| And.intro ty.elem3 <| And.intro ty.zero3 <| And.intro ty.und3 <| And.intro ty.sz4 <| And.intro ty.agg4 <| And.intro ty.elem4 <| And.intro ty.zero4 <| And.intro ty.und4 <| And.intro ty.sz39 <| And.intro ty.agg39 <| And.intro ty.elem39 <| And.intro ty.by39 <| And.intro ty.ez39 <| And.intro ty.zero39 <| And.intro ty.und39 <| And.intro ty.sz43 <| And.intro ty.agg43 <| And.intro ty.elem43 <| And.intro ty.by43 <| And.intro ty.ez43 <| And.intro ty.zero43 <| ty.und43
theorem rows_c (l : List (List Int)) (hl : l.length ≤ 1000) (hls : ∀ x ∈ l, x.length ≤ 1000) : CallP Tryd.prog G0 50 [SL l] (SL l) := by
  refine CallP.body 21 [.tmp 2] Tryd.func50 (by kernel_rfl) rfl rfl rfl (by repeat' (first | exact Pure.d _ | exact Pure.dx _ | exact Pure.dp _ | exact fa_nil | refine fa_cons ?_ ?_ | refine Pure.agg ?_ | refine Pure.tup ?_ | refine Pure.clo ?_ ?_ | refine Pure.fp ?_ | exact Pure.mapd _ | assumption)) (by repeat' (first | exact Pure.d _ | exact Pure.dx _ | exact Pure.dp _ | exact fa_nil | refine fa_cons ?_ ?_ | refine Pure.agg ?_ | refine Pure.tup ?_ | refine Pure.clo ?_ ?_ | refine Pure.fp ?_ | exact Pure.mapd _ | assumption)) ?_
  refine Tr.reg [0] (by
      simp only [↓sxd, sxu, ↓zE, ↓exq, St.keep, Nat.reduceBEq, Nat.reduceLT]
      (repeat' (first | rfl | exact trivial | exact fun h => h | exact fun h => (by rw [h]; rfl) | apply And.intro | omega | exact Nat.le_of_ble_eq_true rfl))) ?_
  refine Tr.reg [0, 3] (by
      simp only [↓sxd, sxu, ↓zE, ↓exq, St.keep, Nat.reduceBEq, Nat.reduceLT]
      (repeat' (first | rfl | exact trivial | exact fun h => h | exact fun h => (by rw [h]; rfl) | apply And.intro | omega | exact Nat.le_of_ble_eq_true rfl))) ?_
  refine Tr.seq ?_
  refine Tr.reg [0, 3, 4] (by
      simp only [↓sxd, sxu, ↓zE, ↓exq, St.keep, Nat.reduceBEq, Nat.reduceLT]
      (repeat' (first | rfl | exact trivial | exact fun h => h | exact fun h => (by rw [h]; rfl) | apply And.intro | omega | exact Nat.le_of_ble_eq_true rfl))) ?_
  refine Tr.imp (st' := ⟨[(0, SL l), (3, .slc 0 1 0 0 0), (4, I 0)], [(0, .arr 1 (uL (l.take 0)))], 1, 21, [], 0⟩) (Imp.goV 1 rfl rfl rfl rfl (by repeat' (first | exact trivial | exact F2.nil | refine F2.cons ?_ ?_ | refine TmV.cons rfl VnS.nil ?_ | refine TmV.cons rfl VnS.same ?_ | refine ⟨rfl, ?_⟩ | exact VnO.same _ | refine VnO.arr ?_ | exact VnS.nil | exact VnS.same | exact F2.refl fun _ _ => VnS.same)) (by repeat' (first | exact trivial | exact F2.nil | refine F2.cons ?_ ?_ | refine TmV.cons rfl VnS.nil ?_ | refine TmV.cons rfl VnS.same ?_ | refine ⟨rfl, ?_⟩ | exact VnO.same _ | refine VnO.arr ?_ | exact VnS.nil | exact VnS.same | exact F2.refl fun _ _ => VnS.same))) (Tr.block (Tr.loopI (fun mm ss => ∃ (k : Nat), (k ≤ l.length) ∧ l.length - k = mm ∧ ss = ⟨[(0, SL l), (3, .slc 0 1 0 k k), (4, I k)], [(0, .arr 1 (uL (l.take k)))], 1, 21, [], 0⟩) _ ⟨0, ?_, rfl, rfl⟩ ?_))
  · (repeat' (first | rfl | exact trivial | exact fun h => h | exact fun h => (by rw [h]; rfl) | apply And.intro | omega | exact Nat.le_of_ble_eq_true rfl))
  rintro mm ss ⟨k, hI, rfl, rfl⟩
  refine Tr.seq ?_
  refine Tr.reg [0, 3, 4, 8] (by
      simp only [↓sxd, sxu, ↓zE, ↓exq, ↓zB, St.keep, ↓zJ, Nat.reduceBEq, Nat.reduceLT, sxe, tysW32_50]
      (repeat' (first | rfl | exact trivial | exact fun h => h | exact fun h => (by rw [h]; rfl) | apply And.intro | omega | exact Nat.le_of_ble_eq_true rfl))) ?_
  refine Tr.cond rfl (fun h8 => ?_) (fun h8 => ?_)
  · have hlt : k < l.length := by simpa using h8
    have hx := hls _ (getD_memI hlt)
    have htl : (l.take k).length = k := by rw [List.length_take]; omega
    refine Tr.skip ?_
    refine Tr.seq ?_
    refine Tr.block ?_
    have hx2 : ((l.getD k []).length ≤ 1073741824) = True := eq_true (by omega)
    have hk2 : (k + 1 ≤ 1073741824) = True := by simp; omega
    refine Tr.reg1 [0, 3, 4] (by
        simp only [↓sxd, sxu, ↓zE, ↓exq, ↓zB, St.keep, ↓zD, ↓zG, ↓zQ, Nat.reduceBEq, Nat.reduceAdd, Nat.reduceLT, Nat.reduceLeDiff, Nat.reduceEqDiff, sxe, tysW32_50, hlt, src_vI, vI_all, hx2, hk2, htl]
        (repeat' (first | rfl | exact trivial | exact fun h => h | exact fun h => (by rw [h]; rfl) | apply And.intro | omega | exact Nat.le_of_ble_eq_true rfl))) ?_
    have w1 : IntKind.i64.wrap ((k : Int) + 1) = ((k + 1 : Nat) : Int) := by rw [wr (by omega) (by omega)]; rfl
    refine Tr.reg1 [0, 3, 4] (by
        simp only [↓sxd, sxu, ↓zE, ↓exq, St.keep, Nat.reduceBEq, Nat.reduceLT, w1]
        (repeat' (first | rfl | exact trivial | exact fun h => h | exact fun h => (by rw [h]; rfl) | apply And.intro | omega | exact Nat.le_of_ble_eq_true rfl))) ?_
    refine ⟨_, _, ?_, ?_, ⟨k + 1, hlt, rfl, rfl⟩⟩
    · omega
    · rw [uL_take hlt]
      exact Imp.go (fun i => i + 3) [(3, .arr 1 (uL (l.take k) ++ [[.slc 1 1 0 (l.getD k []).length (l.getD k []).length]]))] rfl rfl (.cons_cons _ (.cons _ (.cons _ .slnil))) (fun _ h => absurd h (Nat.not_lt_zero _)) (fun id h => Nat.add_le_add_right h 3) (by repeat' (first | exact TmT.cons rfl (TnS.d _) ?_ | exact trivial | exact F2.nil | refine F2.append ?_ ?_ | refine F2.map fun _ _ => ?_ | refine F2.cons ?_ ?_ | refine TmT.cons rfl ?_ ?_ | exact TnS.d _ | exact TnS.dx _ | exact TnS.dp _ | exact TnS.slc rfl | exact TnS.ptr rfl | refine TnS.frzf rfl (by simp) (by simp) (by simp) ?_ | refine TnS.frz0 rfl (by simp) (by simp) (by simp) ?_ | refine TnS.frzm rfl (by simp) ?_ | exact TnS.mapr rfl | exact TnS.yld rfl | refine ⟨rfl, ?_⟩ | refine TnO.arr ?_ | refine TnO.map ?_ | exact TnO.raw _ | exact TnO.iter _ _ | refine TnS.agg ?_ | refine TnS.tup ?_ | exact TnS.pure (Pure.clo (by assumption) (by assumption)) | refine TnS.clo ?_ ?_ | exact TnS.unk _ | exact TnS.pure (Pure.clo (by assumption) (by assumption)))) (.cons ⟨rfl, TnO.arr (F2.append (uL_tn _) (.cons (.cons (TnS.frz0 (id := 1) (sz := 1) (len := (l.getD k []).length) (es := vI (l.getD k [])) rfl (by simp) (by simp) (by simp) (vI_fz _)) .nil) .nil))⟩ .nil) (fun h => h)
  · have hge : k = l.length := by simp at h8; omega
    subst hge
    rw [List.take_length]
    refine Tr.exit ?_
    refine Tr.reg [2] (by
        simp only [↓sxd, sxu, ↓zE, ↓exq, St.keep, Nat.reduceBEq, Nat.reduceLT]
        (repeat' (first | rfl | exact trivial | exact fun h => h | exact fun h => (by rw [h]; rfl) | apply And.intro | omega | exact Nat.le_of_ble_eq_true rfl))) ?_
    refine Tr.imp (Imp.fin (tm' := [(2, SL l)]) ?_) ?_
    · exact .cons rfl (TnS.frz0 (es := uL l) rfl (by simp) (by simp) (by simp) (uL_fz _)) trivial
    refine Tr.ret ?_
    (refine ⟨.inr rfl, ?_⟩; first | rfl | exact ⟨rfl, rfl, trivial⟩ | exact ⟨rfl, rfl, rfl, trivial⟩ | (simp only [Res, ResL, ResOK, ↓sxd, sxu, ↓zE, ↓zC, zK, ↓exP, ↓exq, ↓zB, St.keep, ↓zL, ↓zJ, ↓zD, ↓zG, ↓zQ, Nat.reduceBEq, Nat.reduceAdd, Nat.reduceLT, Nat.reduceMul, Nat.reduceSub, Nat.reduceLeDiff, Nat.reduceEqDiff, Int.reduceLE, Int.reduceLT, Int.reduceToNat, reduceIte, implies_true, sxe, tysW32_50]; (repeat' (first | rfl | exact trivial | exact fun h => h | exact fun h => (by rw [h]; rfl) | apply And.intro | omega | exact Nat.le_of_ble_eq_true rfl))))
end Go.Proofs.YtcnkbdfkjhlbiaaDoor
namespace Go.Proofs.YtcnkbdfkjhlbiaaDoor
open Go.Sy
set_option maxRecDepth 8000
abbrev cells (f : Nat → Nat → Bool) : List SV := (List.range 30).map fun q => B (f (q / 10) (q % 10))
end Go.Proofs.YtcnkbdfkjhlbiaaDoor
namespace Go.Proofs.YtcnkbdfkjhlbiaaDoor
open Go.Sy
set_option maxRecDepth 8000
theorem vI_snoc (v : List Int) (n : Int) : vI (v ++ [n]) = vI v ++ [[I n]] := by simp [vI]
theorem vI_tn {r : Nat → Nat} {hp hp' : HpT} (v : List Int) : F2 (F2 (TnS r hp hp')) (vI v) (vI v) := F2.map fun n _ => .cons (TnS.d _) .nil
theorem vI_len (v : List Int) : (vI v).length = v.length := by simp
end Go.Proofs.YtcnkbdfkjhlbiaaDoor
namespace Go.Proofs.YtcnkbdfkjhlbiaaDoor
open Go.Sy
set_option maxRecDepth 8000
def refOne (l : List Int) (n k : Nat) (o0 : List Int) : Nat → Option (List Int)
  | 0 => some o0
  | i + 1 => match refOne l n k o0 i with
    | none => none
    | some o => if !(within (l.getD i 0) 0 (n - 1)) || decide (o.getD (l.getD i 0).toNat 0 ≥ 0) || (decide (0 < i) && decide (l.getD i 0 ≤ l.getD (i - 1) 0)) then none else some (o.set (l.getD i 0).toNat k)
def refTo (n : Nat) (ls : List (List Int)) : Nat → Option (List Int)
  | 0 => some (List.replicate n (-1))
  | k + 1 => match refTo n ls k with
    | none => none
    | some o => if (ls.getD k []).length = 0 then none else refOne (ls.getD k []) n k o (ls.getD k []).length
def ofS (n : Nat) (ls : List (List Int)) : Option (List Int) := match refTo n ls ls.length with
  | none => none
  | some o => if o.all (fun x => decide (0 ≤ x)) then some o else none
theorem refOne_none {l : List Int} {n k : Nat} {o0 : List Int} {i : Nat} (h : refOne l n k o0 i = none) : ∀ d, refOne l n k o0 (i + d) = none
  | 0 => h
  | d + 1 => by show refOne l n k o0 (i + d + 1) = none; rw [refOne, refOne_none h d]
theorem refTo_none {n : Nat} {ls : List (List Int)} {k : Nat} (h : refTo n ls k = none) : ∀ d, refTo n ls (k + d) = none
  | 0 => h
  | d + 1 => by show refTo n ls (k + d + 1) = none; rw [refTo, refTo_none h d]
theorem ofS_none {n : Nat} {ls : List (List Int)} {k : Nat} (hk : k < ls.length) (h : refTo n ls (k + 1) = none) : ofS n ls = none := by
  unfold ofS
  have := refTo_none h (ls.length - (k + 1))
  rw [show k + 1 + (ls.length - (k + 1)) = ls.length by omega] at this
  rw [this]
theorem refOne_step {l : List Int} {n k : Nat} {o0 o : List Int} {i : Nat} (h : refOne l n k o0 i = some o) : refOne l n k o0 (i + 1) = if !(within (l.getD i 0) 0 (n - 1)) || decide (o.getD (l.getD i 0).toNat 0 ≥ 0) || (decide (0 < i) && decide (l.getD i 0 ≤ l.getD (i - 1) 0)) then none else some (o.set (l.getD i 0).toNat k) := by rw [refOne, h]
theorem vI_rep (i : Nat) : vI (List.replicate (i + 1) (-1)) = vI (List.replicate i (-1)) ++ [[I (-1)]] := by
  rw [List.replicate_succ', vI_snoc]
theorem vI_getD {o : List Int} {j : Nat} (h : j < o.length) : (vI o).getD j [] = [I (o.getD j 0)] := by simp [vI, List.getD_eq_getElem?_getD, h]
theorem vI_set {o : List Int} {j : Nat} {x : Int} : (vI o).set j [I x] = vI (o.set j x) := by simp [vI, List.map_set]
abbrev tysW41_91 := And.intro ty.sz0 <| And.intro ty.agg0 <| And.intro ty.elem0 <| And.intro ty.sz3 <| And.intro ty.agg3 <| And.intro ty.elem3 <| And.intro ty.zero3 <| And.intro ty.und3 <| And.intro ty.sz4 <| And.intro ty.agg4 <| And.intro ty.elem4 <| And.intro ty.zero4 <| And.intro ty.und4 <| And.intro ty.sz22 <| And.intro ty.agg22 <| And.intro ty.elem22 <| And.intro ty.by22 <| And.intro ty.ez22 <| And.intro ty.zero22 <| And.intro ty.und22 <| And.intro ty.sz27 <| And.intro ty.agg27 <| And.intro ty.fld27_0 <| And.intro ty.fld27_1 <| And.intro ty.fld27_2 <| And.intro ty.fld27_3 <| And.intro ty.fld27_4 <| And.intro ty.elem27 <| And.intro ty.zero27 <| And.intro ty.pl27 <| And.intro ty.sz39 <| And.intro ty.agg39 <| And.intro ty.elem39 <| And.intro ty.by39 <| And.intro ty.ez39 <| And.intro ty.zero39 <| And.intro ty.und39 <| And.intro ty.sz43 <| And.intro ty.agg43 <| And.intro ty.elem43 <| And.intro ty.by43 <| And.intro ty.ez43 <| And.intro ty.zero43 <| ty.und43
set_option maxHeartbeats 4000000 in
theorem Of_c (c : Census) (hn : c.entries.length ≤ 13) (ls : List (List Int)) (hl : ls.length ≤ 13) (hls : ∀ l ∈ ls, l.length ≤ 13) : CallP Tryd.prog G0 91 [c.s, SL ls] (.tup [SI ((ofS c.entries.length ls).getD []), B (ofS c.entries.length ls).isSome]) := by
  have w0 : IntKind.i64.wrap ((c.entries.length : Int) - 1) = (c.entries.length : Int) - 1 := wr (by omega) (by omega)
  refine CallP.body 95 [.tmp 4, .tmp 5] Tryd.func91 (by kernel_rfl) rfl rfl rfl (by repeat' (first | exact Pure.d _ | exact Pure.dx _ | exact Pure.dp _ | exact fa_nil | refine fa_cons ?_ ?_ | refine Pure.agg ?_ | refine Pure.tup ?_ | refine Pure.clo ?_ ?_ | refine Pure.fp ?_ | exact Pure.mapd _ | assumption)) (by repeat' (first | exact Pure.d _ | exact Pure.dx _ | exact Pure.dp _ | exact fa_nil | refine fa_cons ?_ ?_ | refine Pure.agg ?_ | refine Pure.tup ?_ | refine Pure.clo ?_ ?_ | refine Pure.fp ?_ | exact Pure.mapd _ | assumption)) ?_
  refine Tr.reg [1, 2] (by
      simp only [↓sxd, sxu, ↓zE, ↓exq, St.keep, ↓zI, Nat.reduceBEq, Nat.reduceAdd, Nat.reduceLT, Nat.reduceEqDiff]
      (repeat' (first | rfl | exact trivial | exact fun h => h | exact fun h => (by rw [h]; rfl) | apply And.intro | omega | exact Nat.le_of_ble_eq_true rfl))) ?_
  refine Tr.reg [1, 2, 6] (by
      simp only [↓sxd, sxu, ↓zE, ↓exq, St.keep, Nat.reduceBEq, Nat.reduceLT]
      (repeat' (first | rfl | exact trivial | exact fun h => h | exact fun h => (by rw [h]; rfl) | apply And.intro | omega | exact Nat.le_of_ble_eq_true rfl))) ?_
  refine Tr.seq ?_
  refine Tr.reg [1, 2, 6, 7] (by
      simp only [↓sxd, sxu, ↓zE, ↓exq, St.keep, Nat.reduceBEq, Nat.reduceLT]
      (repeat' (first | rfl | exact trivial | exact fun h => h | exact fun h => (by rw [h]; rfl) | apply And.intro | omega | exact Nat.le_of_ble_eq_true rfl))) ?_
  refine Tr.imp (st' := ⟨[(1, SL ls), (2, .ptr 0 0 0), (6, .slc 1 1 0 0 0), (7, I 0)], [(1, .arr 1 (vI (List.replicate 0 (-1)))), (0, .arr 7 [cs c (SP c.same) (SP c.apart)])], 2, 95, [], 0⟩) (Imp.goV 1 rfl rfl rfl rfl (by repeat' (first | exact trivial | exact F2.nil | refine F2.cons ?_ ?_ | refine TmV.cons rfl VnS.nil ?_ | refine TmV.cons rfl VnS.same ?_ | refine ⟨rfl, ?_⟩ | exact VnO.same _ | refine VnO.arr ?_ | exact VnS.nil | exact VnS.same | exact F2.refl fun _ _ => VnS.same)) (by repeat' (first | exact trivial | exact F2.nil | refine F2.cons ?_ ?_ | refine TmV.cons rfl VnS.nil ?_ | refine TmV.cons rfl VnS.same ?_ | refine ⟨rfl, ?_⟩ | exact VnO.same _ | refine VnO.arr ?_ | exact VnS.nil | exact VnS.same | exact F2.refl fun _ _ => VnS.same))) (Tr.block (Tr.loopI (fun mm ss => ∃ (i : Nat), (i ≤ c.entries.length) ∧ c.entries.length - i = mm ∧ ss = ⟨[(1, SL ls), (2, .ptr 0 0 0), (6, .slc 1 1 0 i i), (7, I i)], [(1, .arr 1 (vI (List.replicate i (-1)))), (0, .arr 7 [cs c (SP c.same) (SP c.apart)])], 2, 95, [], 0⟩) _ ⟨0, ?_, rfl, rfl⟩ ?_))
  · exact Nat.zero_le _
  rintro mm ss ⟨i, hI, rfl, rfl⟩
  refine Tr.seq ?_
  refine Tr.reg [1, 2, 6, 7, 16] (by
      simp only [↓sxd, sxu, ↓zE, ↓exq, ↓zB, St.keep, ↓zJ, ↓zD, ↓zA, Nat.reduceBEq, Nat.reduceAdd, Nat.reduceLT, Nat.reduceEqDiff, sxe, tysW41_91]
      (repeat' (first | rfl | exact trivial | exact fun h => h | exact fun h => (by rw [h]; rfl) | apply And.intro | omega | exact Nat.le_of_ble_eq_true rfl))) ?_
  refine Tr.cond rfl (fun h16 => ?_) (fun h16 => ?_)
  · have hlt : i < c.entries.length := by have := of_decide_eq_true h16; omega
    refine Tr.skip ?_
    refine Tr.seq ?_
    refine Tr.block ?_
    have hk2 : (i + 1 ≤ 1073741824) = True := eq_true (by omega)
    refine Tr.reg1 [1, 2, 6, 7] (by
        simp only [↓sxd, sxu, ↓zE, ↓exq, ↓zB, St.keep, ↓zG, ↓zQ, Nat.reduceBEq, Nat.reduceAdd, Nat.reduceLT, Nat.reduceLeDiff, Nat.reduceEqDiff, tysW41_91, hk2]
        (repeat' (first | rfl | exact trivial | exact fun h => h | exact fun h => (by rw [h]; rfl) | apply And.intro | omega | exact Nat.le_of_ble_eq_true rfl))) ?_
    have w1 : IntKind.i64.wrap ((i : Int) + 1) = ((i + 1 : Nat) : Int) := by rw [wr (by omega) (by omega)]; rfl
    refine Tr.reg1 [1, 2, 6, 7] (by
        simp only [↓sxd, sxu, ↓zE, ↓exq, St.keep, Nat.reduceBEq, Nat.reduceLT, w1]
        (repeat' (first | rfl | exact trivial | exact fun h => h | exact fun h => (by rw [h]; rfl) | apply And.intro | omega | exact Nat.le_of_ble_eq_true rfl))) ?_
    refine ⟨_, _, ?_, ?_, ⟨i + 1, hlt, rfl, rfl⟩⟩
    · omega
    · rw [vI_rep]
      exact Imp.go (fun i => if i < 1 then i else i + 1) [(2, _), (0, _)] rfl rfl (.refl _) (fun _ h => absurd h (Nat.not_lt_zero _)) (fun id h => by simp only [show ¬ id < 1 by omega, if_false]; omega) (by repeat' (first | exact TmT.cons rfl (TnS.d _) ?_ | exact trivial | exact F2.nil | refine F2.append ?_ ?_ | refine F2.map fun _ _ => ?_ | refine F2.cons ?_ ?_ | refine TmT.cons rfl ?_ ?_ | exact TnS.d _ | exact TnS.dx _ | exact TnS.dp _ | exact TnS.slc rfl | exact TnS.ptr rfl | refine TnS.frzf rfl (by simp) (by simp) (by simp) ?_ | refine TnS.frz0 rfl (by simp) (by simp) (by simp) ?_ | refine TnS.frzm rfl (by simp) ?_ | exact TnS.mapr rfl | exact TnS.yld rfl | refine ⟨rfl, ?_⟩ | refine TnO.arr ?_ | refine TnO.map ?_ | exact TnO.raw _ | exact TnO.iter _ _ | refine TnS.agg ?_ | refine TnS.tup ?_ | exact TnS.pure (Pure.clo (by assumption) (by assumption)) | refine TnS.clo ?_ ?_ | exact TnS.unk _ | exact TnS.pure (Pure.clo (by assumption) (by assumption)))) (.cons ⟨rfl, TnO.arr (F2.append (vI_tn _) (.cons (.cons (TnS.d _) .nil) .nil))⟩ (.cons ⟨rfl, TnO.arr (by repeat' (first | exact TmT.cons rfl (TnS.d _) ?_ | exact trivial | exact F2.nil | refine F2.append ?_ ?_ | refine F2.map fun _ _ => ?_ | refine F2.cons ?_ ?_ | refine TmT.cons rfl ?_ ?_ | exact TnS.d _ | exact TnS.dx _ | exact TnS.dp _ | exact TnS.slc rfl | exact TnS.ptr rfl | refine TnS.frzf rfl (by simp) (by simp) (by simp) ?_ | refine TnS.frz0 rfl (by simp) (by simp) (by simp) ?_ | refine TnS.frzm rfl (by simp) ?_ | exact TnS.mapr rfl | exact TnS.yld rfl | refine ⟨rfl, ?_⟩ | refine TnO.arr ?_ | refine TnO.map ?_ | exact TnO.raw _ | exact TnO.iter _ _ | refine TnS.agg ?_ | refine TnS.tup ?_ | exact TnS.pure (Pure.clo (by assumption) (by assumption)) | refine TnS.clo ?_ ?_ | exact TnS.unk _ | exact TnS.pure (Pure.clo (by assumption) (by assumption))))⟩ .nil)) (fun h => h)
  · have hge : i = c.entries.length := by have := of_decide_eq_false h16; omega
    subst hge
    obtain ⟨n, hnd⟩ : ∃ n, n = c.entries.length := ⟨_, rfl⟩
    rw [← hnd] at hn w0 ⊢
    refine Tr.exit ?_
    refine Tr.seq ?_
    refine Tr.reg [1, 6, 8] (by
        simp only [↓sxd, sxu, ↓zE, ↓exq, St.keep, Nat.reduceBEq, Nat.reduceLT]
        (repeat' (first | rfl | exact trivial | exact fun h => h | exact fun h => (by rw [h]; rfl) | apply And.intro | omega | exact Nat.le_of_ble_eq_true rfl))) ?_
    refine Tr.imp (st' := ⟨[(1, SL ls), (6, .slc 1 1 0 n n), (8, I 0)], [(1, .arr 1 (vI ((List.replicate n (-1))))), (0, .arr 7 [cs c (SP c.same) (SP c.apart)])], 2, 95, [], 0⟩) (Imp.keepAll) (Tr.block (Tr.loopI (fun mm ss => ∃ (k : Nat) (o : List Int), (k ≤ ls.length ∧ refTo n ls k = some o ∧ o.length = n) ∧ ls.length - k = mm ∧ ss = ⟨[(1, SL ls), (6, .slc 1 1 0 n n), (8, I k)], [(1, .arr 1 (vI o)), (0, .arr 7 [cs c (SP c.same) (SP c.apart)])], 2, 95, [], 0⟩) _ ⟨0, (List.replicate n (-1)), ?_, rfl, rfl⟩ ?_))
    · exact ⟨Nat.zero_le _, rfl, List.length_replicate⟩
    rintro mm ss ⟨k, o, hI, rfl, rfl⟩
    obtain ⟨hK, hto, hol⟩ := hI
    refine Tr.seq ?_
    refine Tr.reg [1, 6, 8, 25] (by
        simp only [↓sxd, sxu, ↓zE, ↓exq, ↓zB, St.keep, ↓zJ, Nat.reduceBEq, Nat.reduceLT, sxe, tysW41_91]
        (repeat' (first | rfl | exact trivial | exact fun h => h | exact fun h => (by rw [h]; rfl) | apply And.intro | omega | exact Nat.le_of_ble_eq_true rfl))) ?_
    refine Tr.cond rfl (fun h25 => ?_) (fun h25 => ?_)
    · have hlk : k < ls.length := by have := of_decide_eq_true h25; omega
      have hll := hls _ (getD_memI hlk)
      have hnx : refTo n ls (k + 1) = if (ls.getD k []).length = 0 then none else refOne (ls.getD k []) n k o (ls.getD k []).length := by rw [refTo, hto]
      generalize hL : ls.getD k [] = L at hll hnx
      refine Tr.skip ?_
      refine Tr.seq ?_
      refine Tr.block ?_
      refine Tr.seq ?_
      refine Tr.reg [1, 6, 8, 33] (by
          simp only [↓sxd, sxu, ↓zE, ↓exq, ↓zB, St.keep, ↓zJ, ↓zD, Nat.reduceBEq, Nat.reduceLT, sxe, tysW41_91, hlk, hL]
          (repeat' (first | rfl | exact trivial | exact fun h => h | exact fun h => (by rw [h]; rfl) | apply And.intro | omega | exact Nat.le_of_ble_eq_true rfl))) ?_
      refine Tr.cond rfl (fun h33 => ?_) (fun h33 => ?_)
      · have h0 : L.length = 0 := by have := beq_iff_eq.1 h33; omega
        have hf : ofS n ls = none := ofS_none hlk (by rw [hnx, if_pos h0])
        rw [hf]
        refine Tr.reg [4, 5] (by
            simp only [↓sxd, sxu, ↓zE, ↓exq, St.keep, Nat.reduceBEq, Nat.reduceLT]
            (repeat' (first | rfl | exact trivial | exact fun h => h | exact fun h => (by rw [h]; rfl) | apply And.intro | omega | exact Nat.le_of_ble_eq_true rfl))) ?_
        refine Tr.imp (Imp.fin (tm' := [(4, SI []), (5, B false)]) ?_) ?_
        · exact .cons rfl (TnS.dxd _) (.cons rfl (TnS.d _) trivial)
        refine Tr.ret ?_
        (refine ⟨.inr rfl, ?_⟩; first | rfl | exact ⟨rfl, rfl, trivial⟩ | exact ⟨rfl, rfl, rfl, trivial⟩ | (simp only [Res, ResL, ResOK, ↓sxd, sxu, ↓zE, ↓zC, zK, ↓exP, ↓exq, ↓zB, St.keep, ↓zH, ↓zL, ↓zJ, ↓zD, ↓zI, ↓zG, ↓zQ, ↓zA, Nat.reduceBEq, Nat.reduceAdd, Nat.reduceLT, Nat.reduceMul, Nat.reduceSub, Nat.reduceLeDiff, Nat.reduceEqDiff, Int.reduceLE, Int.reduceLT, Int.reduceToNat, reduceIte, implies_true, sxe, tysW41_91]; (repeat' (first | rfl | exact trivial | exact fun h => h | exact fun h => (by rw [h]; rfl) | apply And.intro | omega | exact Nat.le_of_ble_eq_true rfl))))
      · have h0 : ¬ L.length = 0 := fun hc => by rw [hc] at h33; cases h33
        rw [if_neg h0] at hnx
        refine Tr.skip ?_
        refine Tr.reg [1, 6, 8, 9] (by
            simp only [↓sxd, sxu, ↓zE, ↓exq, St.keep, Nat.reduceBEq, Nat.reduceLT]
            (repeat' (first | rfl | exact trivial | exact fun h => h | exact fun h => (by rw [h]; rfl) | apply And.intro | omega | exact Nat.le_of_ble_eq_true rfl))) ?_
        refine Tr.imp (st' := ⟨[(1, SL ls), (6, .slc 1 1 0 n n), (8, I k), (9, I 0)], [(1, .arr 1 (vI o)), (0, .arr 7 [cs c (SP c.same) (SP c.apart)])], 2, 95, [], 0⟩) (Imp.keepAll) (Tr.block (Tr.loopI (fun mm ss => ∃ (i : Nat) (o2 : List Int), (i ≤ L.length ∧ refOne L n k o i = some o2 ∧ o2.length = n) ∧ L.length - i = mm ∧ ss = ⟨[(1, SL ls), (6, .slc 1 1 0 n n), (8, I k), (9, I i)], [(1, .arr 1 (vI o2)), (0, .arr 7 [cs c (SP c.same) (SP c.apart)])], 2, 95, [], 0⟩) _ ⟨0, o, ?_, rfl, rfl⟩ ?_))
        · exact ⟨Nat.zero_le _, rfl, hol⟩
        rintro mm ss ⟨i, o2, hI, rfl, rfl⟩
        obtain ⟨hI, hone, ho2⟩ := hI
        refine Tr.seq ?_
        refine Tr.reg [1, 6, 8, 9, 40] (by
            simp only [↓sxd, sxu, ↓zE, ↓exq, ↓zB, St.keep, ↓zJ, ↓zD, Nat.reduceBEq, Nat.reduceLT, sxe, tysW41_91, hlk, hL]
            (repeat' (first | rfl | exact trivial | exact fun h => h | exact fun h => (by rw [h]; rfl) | apply And.intro | omega | exact Nat.le_of_ble_eq_true rfl))) ?_
        refine Tr.cond rfl (fun h40 => ?_) (fun h40 => ?_)
        · have hlt : i < L.length := by have := of_decide_eq_true h40; omega
          have hi1 : i - 1 < L.length := by omega
          have hst := refOne_step hone
          refine Tr.skip ?_
          refine Tr.seq ?_
          refine Tr.block ?_
          refine Tr.reg [1, 6, 8, 9, 10] (by
              simp only [↓sxd, sxu, ↓zE, ↓exq, St.keep, ↓zD, Nat.reduceBEq, Nat.reduceLT, sxe, tysW41_91, hlk, hL, hlt]
              (repeat' (first | rfl | exact trivial | exact fun h => h | exact fun h => (by rw [h]; rfl) | apply And.intro | omega | exact Nat.le_of_ble_eq_true rfl))) ?_
          refine Tr.seq ?_
          refine Tr.reg [1, 6, 8, 9, 10, 78] (by
              simp only [↓sxd, sxu, ↓zE, ↓exq, ↓zB, St.keep, ↓zJ, Nat.reduceBEq, Nat.reduceLT, tysW41_91, w0]
              (repeat ((with_reducible refine And.intro ?_ ?_); (focus (first | with_reducible rfl | trivial | exact fun h => h | exact fun h => (by rw [h]; rfl) | omega | assumption))))
              refine CallO.use (In_c _ _ _ _) ?_
              try simp only [↓sxd, sxu, ↓zE, ↓exq, ↓zL, Nat.reduceLT]
              iterate 2
                (repeat ((with_reducible refine And.intro ?_ ?_); (focus (first | with_reducible rfl | trivial | exact fun h => h | exact fun h => (by rw [h]; rfl) | omega | assumption))))
                refine GdO.mk _ (fun hg => by simp only [sxu, ↓exq, Nat.reduceBEq, hg]; (repeat' (first | rfl | exact trivial | exact fun h => h | exact fun h => (by rw [h]; rfl) | apply And.intro | omega | exact Nat.le_of_ble_eq_true rfl))) ?_
                simp only [↓sxd, sxu, ↓zE, Nat.reduceBEq, Nat.reduceLT]
              (repeat ((with_reducible refine And.intro ?_ ?_); (focus (first | with_reducible rfl | trivial | exact fun h => h | exact fun h => (by rw [h]; rfl) | omega | assumption))))
              refine GdO.mk (.ptr 1 (L.getD i 0).toNat 0) (fun hg => by
                have hg2 : (decide (L.getD i 0 ≥ 0) && decide (L.getD i 0 ≤ (n : Int) - 1)) = true := by simpa only [Bool.not_not] using hg
                rw [Bool.and_eq_true, decide_eq_true_eq, decide_eq_true_eq] at hg2
                have q1 : 0 ≤ L.getD i 0 := hg2.1
                have q2 : L.getD i 0 < (n : Int) := by omega
                simp only [↓sxd, sxu, ↓exq, Nat.reduceBEq, tysW41_91, hg]
                (repeat' (first | rfl | exact trivial | exact fun h => h | exact fun h => (by rw [h]; rfl) | apply And.intro | omega | exact Nat.le_of_ble_eq_true rfl))) ?_
              try simp only [↓sxd, sxu, ↓zE, Nat.reduceBEq, Nat.reduceLT]
              (repeat ((with_reducible refine And.intro ?_ ?_); (focus (first | with_reducible rfl | trivial | exact fun h => h | exact fun h => (by rw [h]; rfl) | omega | assumption))))
              refine GdO.mk (I (o2.getD (L.getD i 0).toNat 0)) (fun hg => by
                have hg2 : (decide (L.getD i 0 ≥ 0) && decide (L.getD i 0 ≤ (n : Int) - 1)) = true := by simpa only [Bool.not_not] using hg
                rw [Bool.and_eq_true, decide_eq_true_eq, decide_eq_true_eq] at hg2
                have q3 : (L.getD i 0).toNat < o2.length := by omega
                simp only [sxu, ↓exq, ↓zD, Nat.reduceLT, tysW41_91, hg, q3, vI_getD q3]
                (repeat' (first | rfl | exact trivial | exact fun h => h | exact fun h => (by rw [h]; rfl) | apply And.intro | omega | exact Nat.le_of_ble_eq_true rfl))) ?_
              try simp only [↓sxd, sxu, ↓zE, Nat.reduceBEq, Nat.reduceLT]
              iterate 10
                (repeat ((with_reducible refine And.intro ?_ ?_); (focus (first | with_reducible rfl | trivial | exact fun h => h | exact fun h => (by rw [h]; rfl) | omega | assumption))))
                refine GdO.mk _ (fun hg => by simp only [↓sxd, sxu, ↓exq, ↓zD, Nat.reduceBEq, Nat.reduceLT, sxe, tysW41_91, hlk, hL, hg]; (repeat' (first | rfl | exact trivial | exact fun h => h | exact fun h => (by rw [h]; rfl) | apply And.intro | omega | exact Nat.le_of_ble_eq_true rfl))) ?_
                simp only [↓sxd, sxu, ↓zE, ↓exq, ↓zH, Nat.reduceBEq, Nat.reduceLT]
              (repeat ((with_reducible refine And.intro ?_ ?_); (focus (first | with_reducible rfl | trivial | exact fun h => h | exact fun h => (by rw [h]; rfl) | omega | assumption))))
              refine GdO.mk (I ((i - 1 : Nat) : Int)) (fun hg => by
                have h0 : 0 < i := by
                  rw [Bool.and_eq_true, decide_eq_true_eq] at hg; omega
                have hw : IntKind.i64.wrap ((i : Int) - 1) = ((i - 1 : Nat) : Int) := by rw [wr (by omega) (by omega)]; omega
                simp only [↓sxd, sxu, ↓exq, hg, hw]
                (repeat' (first | rfl | exact trivial | exact fun h => h | exact fun h => (by rw [h]; rfl) | apply And.intro | omega | exact Nat.le_of_ble_eq_true rfl))) ?_
              try simp only [↓sxd, sxu, ↓zE, Nat.reduceBEq, Nat.reduceLT]
              iterate 3
                (repeat ((with_reducible refine And.intro ?_ ?_); (focus (first | with_reducible rfl | trivial | exact fun h => h | exact fun h => (by rw [h]; rfl) | omega | assumption))))
                refine GdO.mk _ (fun hg => by simp only [↓sxd, sxu, ↓exq, ↓zD, Nat.reduceBEq, Nat.reduceLT, sxe, tysW41_91, hi1, hg]; (repeat' (first | rfl | exact trivial | exact fun h => h | exact fun h => (by rw [h]; rfl) | apply And.intro | omega | exact Nat.le_of_ble_eq_true rfl))) ?_
                simp only [↓sxd, sxu, ↓zE, Nat.reduceBEq, Nat.reduceLT]
              (repeat ((with_reducible refine And.intro ?_ ?_); (focus (first | with_reducible rfl | trivial | exact fun h => h | exact fun h => (by rw [h]; rfl) | omega | assumption))))
              first | refine GdO.and (fun hg => by simp only [sxu, Nat.reduceBEq, pickArgs, hg]; (repeat' (first | rfl | exact trivial | exact fun h => h | exact fun h => (by rw [h]; rfl) | apply And.intro | omega | exact Nat.le_of_ble_eq_true rfl))) ?_ | refine GdO.mk _ (fun hg => by simp only [↓sxd, sxu, ↓zE, ↓zC, zK, ↓exP, ↓exq, ↓zB, St.keep, ↓zH, ↓zL, ↓zJ, ↓zD, ↓zI, ↓zG, ↓zQ, ↓zA, Nat.reduceBEq, Nat.reduceAdd, Nat.reduceLT, Nat.reduceMul, Nat.reduceSub, Nat.reduceLeDiff, Nat.reduceEqDiff, Int.reduceLE, Int.reduceLT, Int.reduceToNat, reduceIte, implies_true, sxe, tysW41_91, w0, hlk, hL, hi1, hlt, hg, if_true]; (repeat' (first | rfl | exact trivial | exact fun h => h | exact fun h => (by rw [h]; rfl) | apply And.intro | omega | exact Nat.le_of_ble_eq_true rfl))) ?_
              simp only [↓sxd, sxu, ↓zE, ↓exq, ↓zH, Nat.reduceBEq, Nat.reduceLT]
              (repeat' (first | rfl | exact trivial | exact fun h => h | exact fun h => (by rw [h]; rfl) | apply And.intro | omega | exact Nat.le_of_ble_eq_true rfl))) ?_
          refine Tr.cond rfl (fun h78 => ?_) (fun h78 => ?_)
          · have hbad : refOne L n k o (i + 1) = none := by
              rw [hst, if_pos]
              have hi0 : decide ((i : Int) > 0) = decide (0 < i) := decide_eq_decide.2 (by omega)
              rw [hi0] at h78
              exact h78
            have hno : refTo n ls (k + 1) = none := by
              have := refOne_none hbad (L.length - (i + 1))
              rw [show i + 1 + (L.length - (i + 1)) = L.length by omega] at this
              rw [hnx, this]
            have hf : ofS n ls = none := ofS_none hlk hno
            rw [hf]
            refine Tr.reg [4, 5] (by
                simp only [↓sxd, sxu, ↓zE, ↓exq, St.keep, Nat.reduceBEq, Nat.reduceLT]
                (repeat' (first | rfl | exact trivial | exact fun h => h | exact fun h => (by rw [h]; rfl) | apply And.intro | omega | exact Nat.le_of_ble_eq_true rfl))) ?_
            refine Tr.imp (Imp.fin (tm' := [(4, SI []), (5, B false)]) ?_) ?_
            · exact .cons rfl (TnS.dxd _) (.cons rfl (TnS.d _) trivial)
            refine Tr.ret ?_
            (refine ⟨.inr rfl, ?_⟩; first | rfl | exact ⟨rfl, rfl, trivial⟩ | exact ⟨rfl, rfl, rfl, trivial⟩ | (simp only [Res, ResL, ResOK, ↓sxd, sxu, ↓zE, ↓zC, zK, ↓exP, ↓exq, ↓zB, St.keep, ↓zH, ↓zL, ↓zJ, ↓zD, ↓zI, ↓zG, ↓zQ, ↓zA, Nat.reduceBEq, Nat.reduceAdd, Nat.reduceLT, Nat.reduceMul, Nat.reduceSub, Nat.reduceLeDiff, Nat.reduceEqDiff, Int.reduceLE, Int.reduceLT, Int.reduceToNat, reduceIte, implies_true, sxe, tysW41_91]; (repeat' (first | rfl | exact trivial | exact fun h => h | exact fun h => (by rw [h]; rfl) | apply And.intro | omega | exact Nat.le_of_ble_eq_true rfl))))
          · have hgood : refOne L n k o (i + 1) = some (o2.set (L.getD i 0).toNat k) := by
              rw [hst, if_neg]
              have hi0 : decide ((i : Int) > 0) = decide (0 < i) := decide_eq_decide.2 (by omega)
              rw [hi0] at h78
              rw [Bool.not_eq_true]
              exact h78
            have hxr : 0 ≤ L.getD i 0 ∧ L.getD i 0 ≤ (n : Int) - 1 := by
              simp only [Bool.or_eq_false_iff, Bool.not_eq_false', Bool.and_eq_true, decide_eq_true_eq] at h78
              exact h78.1.1
            obtain ⟨y, hy⟩ := Int.eq_ofNat_of_zero_le hxr.1
            have hyt : (L.getD i 0).toNat = y := by omega
            rw [hyt] at hgood
            have hyn : y < n := by omega
            have hyo : y < o2.length := by omega
            refine Tr.skip ?_
            refine Tr.reg1 [1, 6, 8, 9] (by
                simp only [↓sxd, sxu, ↓zE, ↓exq, St.keep, Nat.reduceBEq, Nat.reduceLT, Nat.reduceEqDiff, sxe, tysW41_91, hy, hyn, hyo, vI_getD hyo, vI_set]
                (repeat' (first | rfl | exact trivial | exact fun h => h | exact fun h => (by rw [h]; rfl) | apply And.intro | omega | exact Nat.le_of_ble_eq_true rfl))) ?_
            have w3 : IntKind.i64.wrap ((i : Int) + 1) = ((i + 1 : Nat) : Int) := by rw [wr (by omega) (by omega)]; rfl
            refine Tr.reg1 [1, 6, 8, 9] (by
                simp only [↓sxd, sxu, ↓zE, ↓exq, St.keep, Nat.reduceBEq, Nat.reduceLT, w3]
                (repeat' (first | rfl | exact trivial | exact fun h => h | exact fun h => (by rw [h]; rfl) | apply And.intro | omega | exact Nat.le_of_ble_eq_true rfl))) ?_
            exact ⟨_, _, by omega, Imp.keepAll, ⟨i + 1, o2.set y k, ⟨hlt, hgood, by rw [List.length_set]; exact ho2⟩, rfl, rfl⟩⟩
        · have hge : i = L.length := by have := of_decide_eq_false h40; omega
          subst hge
          rw [hone] at hnx
          refine Tr.exit ?_
          have w4 : IntKind.i64.wrap ((k : Int) + 1) = ((k + 1 : Nat) : Int) := by rw [wr (by omega) (by omega)]; rfl
          refine Tr.reg1 [1, 6, 8] (by
              simp only [↓sxd, sxu, ↓zE, ↓exq, St.keep, Nat.reduceBEq, Nat.reduceLT, w4]
              (repeat' (first | rfl | exact trivial | exact fun h => h | exact fun h => (by rw [h]; rfl) | apply And.intro | omega | exact Nat.le_of_ble_eq_true rfl))) ?_
          exact ⟨_, _, by omega, Imp.keepAll, ⟨k + 1, o2, ⟨hlk, hnx, ho2⟩, rfl, rfl⟩⟩
    · have hke : k = ls.length := by have := of_decide_eq_false h25; omega
      subst hke
      refine Tr.exit ?_
      refine Tr.seq ?_
      refine Tr.reg [6, 11] (by
          simp only [↓sxd, sxu, ↓zE, ↓exq, St.keep, Nat.reduceBEq, Nat.reduceLT]
          (repeat' (first | rfl | exact trivial | exact fun h => h | exact fun h => (by rw [h]; rfl) | apply And.intro | omega | exact Nat.le_of_ble_eq_true rfl))) ?_
      refine Tr.imp (st' := ⟨[(6, .slc 1 1 0 n n), (11, I 0)], [(1, .arr 1 (vI o)), (0, .arr 7 [cs c (SP c.same) (SP c.apart)])], 2, 95, [], 0⟩) (Imp.keepAll) (Tr.block (Tr.loopI (fun mm ss => ∃ (i : Nat), (i ≤ n ∧ ∀ j, j < i → 0 ≤ o.getD j 0) ∧ n - i = mm ∧ ss = ⟨[(6, .slc 1 1 0 n n), (11, I i)], [(1, .arr 1 (vI o)), (0, .arr 7 [cs c (SP c.same) (SP c.apart)])], 2, 95, [], 0⟩) _ ⟨0, ?_, rfl, rfl⟩ ?_))
      · exact ⟨Nat.zero_le _, fun j hj => absurd hj (Nat.not_lt_zero _)⟩
      rintro mm ss ⟨i, hI, rfl, rfl⟩
      obtain ⟨hI, hall⟩ := hI
      have hos : ofS n ls = if o.all (fun x => decide (0 ≤ x)) then some o else none := by unfold ofS; rw [hto]
      refine Tr.seq ?_
      refine Tr.reg [6, 11, 86] (by
          simp only [↓sxd, sxu, ↓zE, ↓exq, ↓zB, St.keep, ↓zJ, Nat.reduceBEq, Nat.reduceLT, sxe, tysW41_91]
          (repeat' (first | rfl | exact trivial | exact fun h => h | exact fun h => (by rw [h]; rfl) | apply And.intro | omega | exact Nat.le_of_ble_eq_true rfl))) ?_
      refine Tr.cond rfl (fun h86 => ?_) (fun h86 => ?_)
      · have hlt : i < n := by have := of_decide_eq_true h86; omega
        have hio : i < o.length := by omega
        refine Tr.skip ?_
        refine Tr.seq ?_
        refine Tr.block ?_
        refine Tr.reg [6, 11, 93] (by
            simp only [↓sxd, sxu, ↓zE, ↓exq, St.keep, ↓zD, Nat.reduceBEq, Nat.reduceLT, sxe, tysW41_91, hlt, hio, vI_getD hio]
            (repeat' (first | rfl | exact trivial | exact fun h => h | exact fun h => (by rw [h]; rfl) | apply And.intro | omega | exact Nat.le_of_ble_eq_true rfl))) ?_
        refine Tr.cond rfl (fun h93 => ?_) (fun h93 => ?_)
        · have hneg : o.getD i 0 < 0 := of_decide_eq_true h93
          have hf : ofS n ls = none := by
            rw [hos, if_neg]
            rw [List.all_eq_true]
            intro hc
            have := of_decide_eq_true (hc _ (getD_mem (d := 0) hio))
            omega
          rw [hf]
          refine Tr.reg [4, 5] (by
              simp only [↓sxd, sxu, ↓zE, ↓exq, St.keep, Nat.reduceBEq, Nat.reduceLT]
              (repeat' (first | rfl | exact trivial | exact fun h => h | exact fun h => (by rw [h]; rfl) | apply And.intro | omega | exact Nat.le_of_ble_eq_true rfl))) ?_
          refine Tr.imp (Imp.fin (tm' := [(4, SI []), (5, B false)]) ?_) ?_
          · exact .cons rfl (TnS.dxd _) (.cons rfl (TnS.d _) trivial)
          refine Tr.ret ?_
          (refine ⟨.inr rfl, ?_⟩; first | rfl | exact ⟨rfl, rfl, trivial⟩ | exact ⟨rfl, rfl, rfl, trivial⟩ | (simp only [Res, ResL, ResOK, ↓sxd, sxu, ↓zE, ↓zC, zK, ↓exP, ↓exq, ↓zB, St.keep, ↓zH, ↓zL, ↓zJ, ↓zD, ↓zI, ↓zG, ↓zQ, ↓zA, Nat.reduceBEq, Nat.reduceAdd, Nat.reduceLT, Nat.reduceMul, Nat.reduceSub, Nat.reduceLeDiff, Nat.reduceEqDiff, Int.reduceLE, Int.reduceLT, Int.reduceToNat, reduceIte, implies_true, sxe, tysW41_91]; (repeat' (first | rfl | exact trivial | exact fun h => h | exact fun h => (by rw [h]; rfl) | apply And.intro | omega | exact Nat.le_of_ble_eq_true rfl))))
        · have hnn : 0 ≤ o.getD i 0 := by have := of_decide_eq_false h93; omega
          refine Tr.skip ?_
          have w5 : IntKind.i64.wrap ((i : Int) + 1) = ((i + 1 : Nat) : Int) := by rw [wr (by omega) (by omega)]; rfl
          refine Tr.reg1 [6, 11] (by
              simp only [↓sxd, sxu, ↓zE, ↓exq, St.keep, Nat.reduceBEq, Nat.reduceLT, w5]
              (repeat' (first | rfl | exact trivial | exact fun h => h | exact fun h => (by rw [h]; rfl) | apply And.intro | omega | exact Nat.le_of_ble_eq_true rfl))) ?_
          exact ⟨_, _, by omega, Imp.keepAll, ⟨i + 1, ⟨hlt, fun j hj => by
            by_cases hji : j = i
            · subst hji; exact hnn
            · exact hall j (by omega)⟩, rfl, rfl⟩⟩
      · have hge : i = n := by have := of_decide_eq_false h86; omega
        have hf : ofS n ls = some o := by
          rw [hos, if_pos]
          exact allI_getD (p := fun x => decide (0 ≤ x)) fun j hj => decide_eq_true (hall j (by omega))
        rw [hf]
        refine Tr.exit ?_
        refine Tr.reg [4, 5] (by
            simp only [↓sxd, sxu, ↓zE, ↓exq, St.keep, Nat.reduceBEq, Nat.reduceLT]
            (repeat' (first | rfl | exact trivial | exact fun h => h | exact fun h => (by rw [h]; rfl) | apply And.intro | omega | exact Nat.le_of_ble_eq_true rfl))) ?_
        refine Tr.imp (Imp.fin (tm' := [(4, SI o), (5, B true)]) ?_) ?_
        · exact .cons rfl (TnS.frz0 (es := vI o) rfl (by simp) (by simp) (by rw [vI_len]; exact hol) (vI_fz _)) (.cons rfl (TnS.d _) trivial)
        refine Tr.ret ?_
        (refine ⟨.inr rfl, ?_⟩; first | rfl | exact ⟨rfl, rfl, trivial⟩ | exact ⟨rfl, rfl, rfl, trivial⟩ | (simp only [Res, ResL, ResOK, ↓sxd, sxu, ↓zE, ↓zC, zK, ↓exP, ↓exq, ↓zB, St.keep, ↓zH, ↓zL, ↓zJ, ↓zD, ↓zI, ↓zG, ↓zQ, ↓zA, Nat.reduceBEq, Nat.reduceAdd, Nat.reduceLT, Nat.reduceMul, Nat.reduceSub, Nat.reduceLeDiff, Nat.reduceEqDiff, Int.reduceLE, Int.reduceLT, Int.reduceToNat, reduceIte, implies_true, sxe, tysW41_91]; (repeat' (first | rfl | exact trivial | exact fun h => h | exact fun h => (by rw [h]; rfl) | apply And.intro | omega | exact Nat.le_of_ble_eq_true rfl))))
def Census.isAsg (c : Census) (ls : List (List Int)) : Bool := match ofS c.entries.length ls with
  | none => false
  | some o => c.allowB (o.map Int.toNat) && c.sumsB ls.length
theorem refOne_len {l : List Int} {n k : Nat} {o0 : List Int} : ∀ (i : Nat) (o : List Int), refOne l n k o0 i = some o → o.length = o0.length
  | 0, o, h => by simp only [refOne, Option.some.injEq] at h; rw [h]
  | i + 1, o, h => by
    rw [refOne] at h
    split at h
    · cases h
    · rename_i o1 h1
      split at h
      · cases h
      · cases h
        rw [List.length_set, refOne_len i o1 h1]
theorem refTo_len {n : Nat} {ls : List (List Int)} : ∀ (k : Nat) (o : List Int), refTo n ls k = some o → o.length = n
  | 0, o, h => by simp only [refTo, Option.some.injEq] at h; rw [← h, List.length_replicate]
  | k + 1, o, h => by
    rw [refTo] at h
    split at h
    · cases h
    · rename_i o1 h1
      split at h
      · cases h
      · rw [refOne_len _ _ h, refTo_len k o1 h1]
theorem ofS_some {n : Nat} {ls : List (List Int)} {o : List Int} (h : ofS n ls = some o) : refTo n ls ls.length = some o ∧ o.length = n ∧ ∀ x ∈ o, 0 ≤ x := by
  unfold ofS at h
  split at h
  · cases h
  · rename_i o1 h1
    split at h
    · rename_i h2
      cases h
      exact ⟨h1, refTo_len _ _ h1, fun x hx => of_decide_eq_true (List.all_eq_true.1 h2 x hx)⟩
    · cases h
theorem nats_toNat {o : List Int} (h : ∀ x ∈ o, 0 ≤ x) : nats (o.map Int.toNat) = o := by
  unfold nats
  rw [List.map_map]
  conv => rhs; rw [← List.map_id o]
  exact List.map_congr_left fun x hx => by have := h x hx; show ((x.toNat : Nat) : Int) = x; omega
abbrev tysW41_51 := And.intro ty.sz0 <| And.intro ty.agg0 <| And.intro ty.elem0 <| And.intro ty.sz3 <| And.intro ty.agg3 <| And.intro ty.elem3 <| And.intro ty.zero3 <| And.intro ty.und3 <| And.intro ty.sz4 <| And.intro ty.agg4 <| And.intro ty.elem4 <| And.intro ty.zero4 <| And.intro ty.und4 <| And.intro ty.sz27 <| And.intro ty.agg27 <| And.intro ty.fld27_0 <| And.intro ty.fld27_1 <| And.intro ty.fld27_2 <| And.intro ty.fld27_3 <| And.intro ty.fld27_4 <| And.intro ty.elem27 <| And.intro ty.zero27 <| And.intro ty.pl27 <| And.intro ty.sz39 <| And.intro ty.agg39 <| And.intro ty.elem39 <| And.intro ty.by39 <| And.intro ty.ez39 <| And.intro ty.zero39 <| And.intro ty.und39 <| And.intro ty.sz43 <| And.intro ty.agg43 <| And.intro ty.elem43 <| And.intro ty.by43 <| And.intro ty.ez43 <| And.intro ty.zero43 <| And.intro ty.und43 <| And.intro ty.sz148 <| And.intro ty.agg148 <| ty.elem148
set_option maxHeartbeats 4000000 in
theorem IsAssignment_c (c : Census) (h : Fine c) (ls : List (List Int)) (hl : ls.length ≤ 13) (hls : ∀ l ∈ ls, l.length ≤ 13) : CallP Tryd.prog G0 51 [c.s, SL ls] (B (c.isAsg ls)) := by
  have h10 := h.n10
  have hO := Of_c c (by omega) ls hl hls
  obtain ⟨V, bb, hV, hval⟩ : ∃ (V : List Nat) (bb : Bool), (bb = true → (ofS c.entries.length ls).getD [] = nats V ∧ V.length = c.entries.length) ∧ (ofS c.entries.length ls).isSome = bb ∧ c.isAsg ls = (bb && c.allowB V && c.sumsB ls.length) := by
    cases ho : ofS c.entries.length ls with
    | none => exact ⟨[], false, fun h => (by cases h), rfl, by unfold Census.isAsg; rw [ho]; rfl⟩
    | some o =>
      obtain ⟨_, o2, o3⟩ := ofS_some ho
      refine ⟨o.map Int.toNat, true, fun _ => ⟨(nats_toNat o3).symm, by rw [List.length_map, o2]⟩, rfl, ?_⟩
      unfold Census.isAsg; rw [ho]; rfl
  obtain ⟨hb, hval⟩ := hval
  rw [hb] at hO
  generalize (ofS c.entries.length ls).getD [] = O at hO hV
  rw [hval]
  refine CallP.body 25 [.tmp 4] Tryd.func51 (by kernel_rfl) rfl rfl rfl (by repeat' (first | exact Pure.d _ | exact Pure.dx _ | exact Pure.dp _ | exact fa_nil | refine fa_cons ?_ ?_ | refine Pure.agg ?_ | refine Pure.tup ?_ | refine Pure.clo ?_ ?_ | refine Pure.fp ?_ | exact Pure.mapd _ | assumption)) (by repeat' (first | exact Pure.d _ | exact Pure.dx _ | exact Pure.dp _ | exact fa_nil | refine fa_cons ?_ ?_ | refine Pure.agg ?_ | refine Pure.tup ?_ | refine Pure.clo ?_ ?_ | refine Pure.fp ?_ | exact Pure.mapd _ | assumption)) ?_
  refine Tr.reg [1, 2] (by
      simp only [↓sxd, sxu, ↓zE, ↓exq, St.keep, ↓zI, Nat.reduceBEq, Nat.reduceAdd, Nat.reduceLT, Nat.reduceEqDiff]
      (repeat' (first | rfl | exact trivial | exact fun h => h | exact fun h => (by rw [h]; rfl) | apply And.intro | omega | exact Nat.le_of_ble_eq_true rfl))) ?_
  refine Tr.reg [1, 2, 5, 6] (by
      simp only [↓sxd, sxu, ↓zE, ↓exq, St.keep, ↓zD, Nat.reduceBEq, Nat.reduceAdd, Nat.reduceLT, tysW41_51]
      (repeat ((with_reducible refine And.intro ?_ ?_); (focus (first | with_reducible rfl | trivial | exact fun h => h | exact fun h => (by rw [h]; rfl) | omega | assumption))))
      refine CallO.use (hO) ?_
      try simp only [↓sxd, sxu, ↓zE, ↓exq, ↓zN, Nat.reduceBEq, Nat.reduceAdd, Nat.reduceLT]
      (repeat' (first | rfl | exact trivial | exact fun h => h | exact fun h => (by rw [h]; rfl) | apply And.intro | omega | exact Nat.le_of_ble_eq_true rfl))) ?_
  refine Tr.reg [4] (by
      simp only [↓sxd, sxu, ↓zE, ↓exq, St.keep, Nat.reduceBEq, Nat.reduceLT]
      iterate 2
        (repeat ((with_reducible refine And.intro ?_ ?_); (focus (first | with_reducible rfl | trivial | exact fun h => h | exact fun h => (by rw [h]; rfl) | omega | assumption))))
        refine GdO.mk _ (fun hg => by simp only [sxu, ↓exq, ↓zD, Nat.reduceBEq, Nat.reduceAdd, Nat.reduceLT, tysW41_51, hg]; (repeat' (first | rfl | exact trivial | exact fun h => h | exact fun h => (by rw [h]; rfl) | apply And.intro | omega | exact Nat.le_of_ble_eq_true rfl))) ?_
        simp only [↓sxd, sxu, ↓zE, Nat.reduceBEq, Nat.reduceLT]
      (repeat ((with_reducible refine And.intro ?_ ?_); (focus (first | with_reducible rfl | trivial | exact fun h => h | exact fun h => (by rw [h]; rfl) | omega | assumption))))
      refine GdO.mk (B (c.allowB V)) (fun hg => by
        obtain ⟨v1, v2⟩ := hV hg
        simp only [sxu, ↓exq, ↓zB, Nat.reduceBEq, hg, v1]
        (repeat ((with_reducible refine And.intro ?_ ?_); (focus (first | with_reducible rfl | trivial | exact fun h => h | exact fun h => (by rw [h]; rfl) | omega | assumption))))
        exact CallP.use (Allowed_c c h V v2) ⟨rfl, rfl, rfl⟩) ?_
      try simp only [↓sxd, sxu, ↓zE, ↓exq, ↓zH, Nat.reduceBEq, Nat.reduceLT]
      iterate 3
        (repeat ((with_reducible refine And.intro ?_ ?_); (focus (first | with_reducible rfl | trivial | exact fun h => h | exact fun h => (by rw [h]; rfl) | omega | assumption))))
        refine GdO.mk _ (fun hg => by simp only [sxu, ↓exq, ↓zB, ↓zJ, ↓zD, Nat.reduceBEq, Nat.reduceAdd, Nat.reduceLT, sxe, tysW41_51, hg]; (repeat' (first | rfl | exact trivial | exact fun h => h | exact fun h => (by rw [h]; rfl) | apply And.intro | omega | exact Nat.le_of_ble_eq_true rfl))) ?_
        simp only [↓sxd, sxu, ↓zE, Nat.reduceBEq, Nat.reduceLT]
      (repeat ((with_reducible refine And.intro ?_ ?_); (focus (first | with_reducible rfl | trivial | exact fun h => h | exact fun h => (by rw [h]; rfl) | omega | assumption))))
      refine GdO.mk (B (c.sumsB ls.length)) (fun hg => by
        simp only [sxu, ↓exq, ↓zB, Nat.reduceBEq, hg]
        (repeat ((with_reducible refine And.intro ?_ ?_); (focus (first | with_reducible rfl | trivial | exact fun h => h | exact fun h => (by rw [h]; rfl) | omega | assumption))))
        exact CallP.use (Sums_c c h.lims ls.length (by omega) (by omega)) ⟨rfl, rfl, rfl⟩) ?_
      try simp only [↓sxd, sxu, ↓zE, ↓exq, ↓zH, Nat.reduceBEq, Nat.reduceLT]
      (repeat' (first | rfl | exact trivial | exact fun h => h | exact fun h => (by rw [h]; rfl) | apply And.intro | omega | exact Nat.le_of_ble_eq_true rfl))) ?_
  refine Tr.ret ?_
  (refine ⟨.inr rfl, ?_⟩; first | rfl | exact ⟨rfl, rfl, trivial⟩ | exact ⟨rfl, rfl, rfl, trivial⟩ | (simp only [Res, ResL, ResOK, ↓sxd, sxu, ↓zE, ↓zC, zK, ↓exP, ↓exq, ↓zB, St.keep, ↓zH, ↓zL, ↓zJ, ↓zD, ↓zN, ↓zI, Nat.reduceBEq, Nat.reduceAdd, Nat.reduceLT, Nat.reduceMul, Nat.reduceSub, Nat.reduceLeDiff, Nat.reduceEqDiff, Int.reduceLE, Int.reduceLT, Int.reduceToNat, reduceIte, implies_true, sxe, tysW41_51]; (repeat' (first | rfl | exact trivial | exact fun h => h | exact fun h => (by rw [h]; rfl) | apply And.intro | omega | exact Nat.le_of_ble_eq_true rfl))))
end Go.Proofs.YtcnkbdfkjhlbiaaDoor
namespace Go.Proofs.YtcnkbdfkjhlbiaaDoor
set_option maxRecDepth 8000
structure OneRel (n k : Nat) (o0 : List Int) (own s2 : Nat) (o2 : List Int) : Prop where
  len : o2.length = n
  seen : ∀ e, e < n → (s2.testBit e = true ↔ 0 ≤ o2.getD e 0)
  own : ∀ e, e < n → (own.testBit e = true ↔ o2.getD e 0 = (k : Int))
  rest : ∀ e, e < n → o2.getD e 0 ≠ (k : Int) → o2.getD e 0 = o0.getD e 0
  fresh : ∀ e, e < n → o2.getD e 0 = (k : Int) → o0.getD e 0 < 0
theorem or_pow (a x e : Nat) : (a ||| 2 ^ x).testBit e = true ↔ a.testBit e = true ∨ e = x := by
  rw [Nat.testBit_or, Bool.or_eq_true, Nat.testBit_two_pow, decide_eq_true_eq]
  exact or_congr_right ⟨Eq.symm, Eq.symm⟩
theorem one_law {n k sn : Nat} {l o0 : List Int} (h0 : o0.length = n) (hs : ∀ e, e < n → (sn.testBit e = true ↔ 0 ≤ o0.getD e 0)) (hk : ∀ e, e < n → o0.getD e 0 < (k : Int)) :
    ∀ i, (asgOne n l sn i = none ∧ refOne l n k o0 i = none) ∨ ∃ own s2 o2, asgOne n l sn i = some (own, s2) ∧ refOne l n k o0 i = some o2 ∧ OneRel n k o0 own s2 o2 ∧ (0 < i → own ≠ 0)
  | 0 => .inr ⟨0, sn, o0, rfl, rfl, ⟨h0, hs, fun e he => by
      rw [Nat.zero_testBit]
      exact ⟨fun h => (by cases h), fun h => by have := hk e he; omega⟩, fun _ _ _ => rfl, fun e he h => by have := hk e he; omega⟩, fun h => absurd h (Nat.lt_irrefl 0)⟩
  | i + 1 => by
    rcases one_law h0 hs hk i with ⟨a, b⟩ | ⟨own, s2, o2, a, b, hr, _⟩
    · exact .inl ⟨by rw [asgOne, a], by rw [refOne, b]⟩
    · rw [asgOne_step a, refOne_step b]
      obtain ⟨x, hx⟩ : ∃ x, x = l.getD i 0 := ⟨_, rfl⟩
      rw [← hx]
      have hcond : (!(within x 0 (n - 1)) || s2.testBit x.toNat || (decide (0 < i) && decide (x ≤ l.getD (i - 1) 0))) = (!(within x 0 (n - 1)) || decide (o2.getD x.toNat 0 ≥ 0) || (decide (0 < i) && decide (x ≤ l.getD (i - 1) 0))) := by
        cases hw : within x 0 (n - 1) with
        | false => rfl
        | true =>
          have hxn : x.toNat < n := by
            simp only [within, Bool.and_eq_true, decide_eq_true_eq] at hw; omega
          have : s2.testBit x.toNat = decide (o2.getD x.toNat 0 ≥ 0) := by
            rw [Bool.eq_iff_iff, hr.seen _ hxn, decide_eq_true_eq]
          rw [this]
      rw [hcond]
      cases hc : (!(within x 0 (n - 1)) || decide (o2.getD x.toNat 0 ≥ 0) || (decide (0 < i) && decide (x ≤ l.getD (i - 1) 0))) with
      | true => exact .inl ⟨by simp, by simp⟩
      | false =>
        right
        have hxn : x.toNat < n := by
          simp only [Bool.or_eq_false_iff, Bool.not_eq_false', within, Bool.and_eq_true, decide_eq_true_eq] at hc; omega
        have hx0 : o2.getD x.toNat 0 < 0 := by
          simp only [Bool.or_eq_false_iff, decide_eq_false_iff_not] at hc; omega
        refine ⟨own ||| 2 ^ x.toNat, s2 ||| 2 ^ x.toNat, o2.set x.toNat k, by simp, by simp, ⟨by rw [List.length_set]; exact hr.len, fun e he => ?_, fun e he => ?_, fun e he hne => ?_, fun e he heq => ?_⟩, fun _ hz => ?_⟩
        · rw [or_pow, hr.seen e he, setI_get, hr.len]
          by_cases hex : e = x.toNat
          · rw [if_pos ⟨hex, hxn⟩]
            exact ⟨fun _ => Int.natCast_nonneg _, fun _ => .inr hex⟩
          · rw [if_neg (fun hc => hex hc.1)]
            exact ⟨fun h => h.resolve_right hex, .inl⟩
        · rw [or_pow, hr.own e he, setI_get, hr.len]
          by_cases hex : e = x.toNat
          · rw [if_pos ⟨hex, hxn⟩]
            exact ⟨fun _ => rfl, fun _ => .inr hex⟩
          · rw [if_neg (fun hc => hex hc.1)]
            exact ⟨fun h => h.resolve_right hex, .inl⟩
        · rw [setI_get, hr.len] at hne ⊢
          by_cases hex : e = x.toNat
          · rw [if_pos ⟨hex, hxn⟩] at hne; exact absurd rfl hne
          · rw [if_neg (fun hc => hex hc.1)] at hne ⊢
            exact hr.rest e he hne
        · rw [setI_get, hr.len] at heq
          by_cases hex : e = x.toNat
          · subst hex
            rw [← hr.rest _ hxn (by omega)]; exact hx0
          · rw [if_neg (fun hc => hex hc.1)] at heq
            exact hr.fresh e he heq
        · have := (or_pow own x.toNat x.toNat).2 (.inr rfl)
          rw [hz, Nat.zero_testBit] at this; cases this
def bm (o : List Int) (n j : Nat) : Nat := mask (fun e => o.getD e 0 == (j : Int)) n
theorem bm_test {o : List Int} {n j e : Nat} : (bm o n j).testBit e = true ↔ e < n ∧ o.getD e 0 = (j : Int) := by
  unfold bm
  rw [mask_test, Bool.and_eq_true, decide_eq_true_eq, beq_iff_eq]
theorem bm_lt (o : List Int) (n j : Nat) : bm o n j < 2 ^ n := Nat.lt_pow_two_of_testBit _ fun e he => by
  rw [← Bool.not_eq_true, bm_test]; omega
def goodB (c : Census) (s : Nat) : Prop := c.fitsSet s = true ∧ c.keeps s = true
theorem to_law {c : Census} {n : Nat} (hn : c.entries.length = n) {ls : List (List Int)} : ∀ k,
    (refTo n ls k = none ∧ c.asgTo ls k = none) ∨ ∃ o, refTo n ls k = some o ∧ o.length = n ∧ (∀ e, e < n → o.getD e 0 < (k : Int)) ∧
      (((∀ j, j < k → goodB c (bm o n j)) ∧ ∃ sn, c.asgTo ls k = some sn ∧ sn < 2 ^ n ∧ ∀ e, e < n → (sn.testBit e = true ↔ 0 ≤ o.getD e 0)) ∨ ((¬ ∀ j, j < k → goodB c (bm o n j)) ∧ c.asgTo ls k = none))
  | 0 => .inr ⟨List.replicate n (-1), rfl, List.length_replicate, fun e he => by simp [List.getD_eq_getElem?_getD, he], .inl ⟨fun j hj => absurd hj (Nat.not_lt_zero _), 0, rfl, Nat.two_pow_pos n, fun e he => by
      rw [Nat.zero_testBit]
      simp [List.getD_eq_getElem?_getD, he]⟩⟩
  | k + 1 => by
    rcases to_law hn (ls := ls) k with ⟨a, b⟩ | ⟨o, a, hol, hlt, hcase⟩
    · exact .inl ⟨by rw [refTo, a], by rw [Census.asgTo, b]⟩
    · have hR : refTo n ls (k + 1) = if (ls.getD k []).length = 0 then none else refOne (ls.getD k []) n k o (ls.getD k []).length := by rw [refTo, a]
      have hA : c.asgTo ls (k + 1) = match c.asgTo ls k with | none => none | some sn => match asgOne c.entries.length (ls.getD k []) sn (ls.getD k []).length with | none => none | some x => if x.1 = 0 ∨ c.fitsSet x.1 = false ∨ c.keeps x.1 = false then none else some x.2 := by rw [Census.asgTo] <;> rfl
      rw [hn] at hA
      generalize ls.getD k [] = L at hR hA
      obtain ⟨sn, hs, hrel, hb⟩ : ∃ sn, sn < 2 ^ n ∧ (∀ e, e < n → (sn.testBit e = true ↔ 0 ≤ o.getD e 0)) ∧ (((∀ j, j < k → goodB c (bm o n j)) ∧ c.asgTo ls k = some sn) ∨ ((¬ ∀ j, j < k → goodB c (bm o n j)) ∧ c.asgTo ls k = none)) := by
        rcases hcase with ⟨g, sn, b, h1, h2⟩ | ⟨g, b⟩
        · exact ⟨sn, h1, h2, .inl ⟨g, b⟩⟩
        · refine ⟨mask (fun e => decide (0 ≤ o.getD e 0)) n, Nat.lt_pow_two_of_testBit _ fun e he => ?_, fun e he => ?_, .inr ⟨g, b⟩⟩
          · rw [mask_test, decide_eq_false (by omega)]; rfl
          · rw [mask_test, decide_eq_true he, Bool.true_and, decide_eq_true_eq]
      by_cases hL0 : L.length = 0
      · left
        rw [hR, if_pos hL0]
        refine ⟨rfl, ?_⟩
        rw [hA, hL0]
        rcases hb with ⟨_, b⟩ | ⟨_, b⟩
        · rw [b]
          show (if (0 : Nat) = 0 ∨ _ then none else _) = none
          rw [if_pos (.inl rfl)]
        · rw [b]
      · rw [if_neg hL0] at hR
        rcases one_law (l := L) hol hrel hlt L.length with ⟨a1, a2⟩ | ⟨own, s2, o2, a1, a2, hr, hne⟩
        · left
          rw [hR, a2]
          refine ⟨rfl, ?_⟩
          rcases hb with ⟨_, b⟩ | ⟨_, b⟩
          · rw [hA, b]
            dsimp only
            rw [a1]
          · rw [hA, b]
        · right
          have hlts := asgOne_lt hs _ _ a1
          have hown : own = bm o2 n k := by
            refine Nat.eq_of_testBit_eq fun e => ?_
            rw [Bool.eq_iff_iff, bm_test]
            constructor
            · intro ht
              have he := testBit_lt ht hlts.1
              exact ⟨he, (hr.own e he).1 ht⟩
            · rintro ⟨he, h⟩; exact (hr.own e he).2 h
          have hbm : ∀ j, j < k → bm o2 n j = bm o n j := fun j hj => by
            refine Nat.eq_of_testBit_eq fun e => ?_
            rw [Bool.eq_iff_iff, bm_test, bm_test]
            refine and_congr_right fun he => ?_
            by_cases hek : o2.getD e 0 = (k : Int)
            · have := hr.fresh e he hek
              constructor <;> intro h <;> omega
            · rw [hr.rest e he hek]
          have hG : (∀ j, j < k + 1 → goodB c (bm o2 n j)) ↔ (∀ j, j < k → goodB c (bm o n j)) ∧ goodB c own := by
            rw [hown]
            constructor
            · intro h
              exact ⟨fun j hj => by rw [← hbm j hj]; exact h j (by omega), h k (by omega)⟩
            · rintro ⟨h1, h2⟩ j hj
              by_cases hjk : j = k
              · subst hjk; exact h2
              · rw [hbm j (by omega)]; exact h1 j (by omega)
          refine ⟨o2, by rw [hR, a2], hr.len, fun e he => ?_, ?_⟩
          · by_cases hek : o2.getD e 0 = (k : Int)
            · omega
            · rw [hr.rest e he hek]; have := hlt e he; omega
          · rw [hG, hA]
            rcases hb with ⟨g, b⟩ | ⟨g, b⟩
            · rw [b]
              dsimp only
              rw [a1]
              dsimp only
              by_cases hgo : goodB c own
              · left
                refine ⟨⟨g, hgo⟩, s2, if_neg ?_, hlts.2, hr.seen⟩
                rintro (h | h | h)
                · exact hne (by omega) h
                · rw [hgo.1] at h; cases h
                · rw [hgo.2] at h; cases h
              · right
                refine ⟨fun h => hgo h.2, if_pos ?_⟩
                unfold goodB at hgo
                cases h1 : c.fitsSet own with
                | false => exact .inr (.inl rfl)
                | true =>
                  cases h2 : c.keeps own with
                  | false => exact .inr (.inr rfl)
                  | true => exact absurd ⟨h1, h2⟩ hgo
            · rw [b]
              exact .inr ⟨fun h => g h.1, rfl⟩
theorem elems_full {n s : Nat} (hn : n ≤ 10) (hs : s < 2 ^ n) : (elems s).length = n ↔ ∀ e, e < n → s.testBit e = true := by
  have hnd : (elems s).Nodup := (elems_sorted s).imp fun h => Nat.ne_of_lt h
  have hsub : elems s ⊆ List.range n := fun x hx => List.mem_range.2 (elems_lt hx hs)
  have hle := hnd.length_le_of_subset hsub
  rw [List.length_range] at hle
  constructor
  · intro h e he
    by_cases ht : s.testBit e = true
    · exact ht
    · exfalso
      have hsub2 : e :: elems s ⊆ List.range n := fun x hx => by
        rcases List.mem_cons.1 hx with rfl | hx
        · exact List.mem_range.2 he
        · exact hsub hx
      have hnd2 : (e :: elems s).Nodup := List.nodup_cons.2 ⟨fun hc => ht (mem_elems.1 hc).2, hnd⟩
      have := hnd2.length_le_of_subset hsub2
      rw [List.length_range, List.length_cons] at this
      omega
  · intro h
    have hsub2 : List.range n ⊆ elems s := fun x hx => by
      rw [List.mem_range] at hx
      exact mem_elems.2 ⟨by omega, h x hx⟩
    have := List.nodup_range.length_le_of_subset hsub2
    rw [List.length_range] at this
    omega
theorem allow_good {c : Census} (h : Fine c) {n m : Nat} (hn : c.entries.length = n) {o : List Int} (hol : o.length = n) (hlt : ∀ e, e < n → o.getD e 0 < (m : Int)) (h0 : ∀ e, e < n → 0 ≤ o.getD e 0) :
    c.allowB (o.map Int.toNat) = true ↔ ∀ j, j < m → goodB c (bm o n j) := by
  have hfn : ∀ e, e < n → ((fn (o.map Int.toNat) e : Nat) : Int) = o.getD e 0 := fun e he => by
    have := h0 e he
    have e1 : (o.map Int.toNat).getD e 0 = (o.getD e 0).toNat := by simp [List.getD_eq_getElem?_getD, hol ▸ he]
    show (((o.map Int.toNat).getD e 0 : Nat) : Int) = _
    rw [e1]; omega
  have hpr : ∀ p, c.pair p = true → p.fst.toNat < n ∧ p.snd.toNat < n := fun p hp => by have := pair_nat hp; rw [hn] at this; exact this
  rw [allowB_iff (by rw [List.length_map, hol, hn])]
  have hfs : ∀ j, c.fitsSet (bm o n j) = true ↔ _ := fun j => fitsSet_iff h.pairs h.n10 (s := bm o n j) (by rw [hn]; exact bm_lt o n j)
  have hks : ∀ j, c.keeps (bm o n j) = true ↔ ∀ p ∈ c.same, ((bm o n j).testBit p.fst.toNat = true ↔ (bm o n j).testBit p.snd.toNat = true) := fun j => by
    unfold Census.keeps
    rw [List.all_eq_true]
    refine forall_congr' fun p => forall_congr' fun _ => ?_
    rw [beq_iff_eq, Bool.eq_iff_iff]
  constructor
  · intro ha j hj
    refine ⟨(hfs j).2 ⟨fun i k hi hk hik => ?_, fun p hp hb => ?_⟩, (hks j).2 fun p hp => ?_⟩
    · obtain ⟨i1, i2⟩ := bm_test.1 hi
      obtain ⟨k1, k2⟩ := bm_test.1 hk
      have a1 := hfn i i1
      have a2 := hfn k k1
      exact ha.fits i k (by omega) (by omega) hik (by omega)
    · obtain ⟨i1, i2⟩ := bm_test.1 hb.1
      obtain ⟨k1, k2⟩ := bm_test.1 hb.2
      have a1 := hfn _ i1
      have a2 := hfn _ k1
      exact ha.apart p hp (by omega)
    · obtain ⟨q1, q2⟩ := hpr p (h.ps p hp)
      have a1 := hfn _ q1
      have a2 := hfn _ q2
      have a3 := ha.same p hp
      rw [bm_test, bm_test]
      constructor
      · rintro ⟨_, e⟩; exact ⟨q2, by omega⟩
      · rintro ⟨_, e⟩; exact ⟨q1, by omega⟩
  · intro hg
    have hat : ∀ e, e < n → ∃ j, j < m ∧ o.getD e 0 = (j : Int) := fun e he => ⟨(o.getD e 0).toNat, by have := hlt e he; have := h0 e he; omega, by have := h0 e he; omega⟩
    refine ⟨fun i k hi hk hik he => ?_, fun p hp => ?_, fun p hp he => ?_⟩
    · rw [hn] at hi hk
      obtain ⟨j, hj, hj2⟩ := hat i hi
      have a1 := hfn i hi
      have a2 := hfn k hk
      exact ((hfs j).1 (hg j hj).1).1 i k (bm_test.2 ⟨hi, hj2⟩) (bm_test.2 ⟨hk, by omega⟩) hik
    · obtain ⟨q1, q2⟩ := hpr p (h.ps p hp)
      obtain ⟨j, hj, hj2⟩ := hat _ q1
      have := ((hks j).1 (hg j hj).2 p hp).1 (bm_test.2 ⟨q1, hj2⟩)
      have a1 := hfn _ q1
      have a2 := hfn _ q2
      have a3 := (bm_test.1 this).2
      omega
    · obtain ⟨q1, q2⟩ := hpr p (h.pa p hp)
      obtain ⟨j, hj, hj2⟩ := hat _ q1
      have a1 := hfn _ q1
      have a2 := hfn _ q2
      exact ((hfs j).1 (hg j hj).1).2 p hp ⟨bm_test.2 ⟨q1, hj2⟩, bm_test.2 ⟨q2, by omega⟩⟩
theorem asg_law {c : Census} (h : Fine c) (ls : List (List Int)) : c.asg ls = c.isAsg ls := by
  have hk := fine_iff.2 h
  have hw : within (ls.length : Int) c.limits.lo c.limits.hi = c.sumsB ls.length := by rw [limits_eq h.lims]; rfl
  unfold Census.asg Census.isAsg ofS
  rw [if_pos hk]
  rcases to_law (c := c) rfl (ls := ls) ls.length with ⟨a, b⟩ | ⟨o, a, hol, hlt, hcase⟩
  · rw [a, b]
  · rw [a]
    dsimp only
    by_cases hall : o.all (fun x => decide (0 ≤ x)) = true
    · rw [if_pos hall]
      have h0 : ∀ e, e < c.entries.length → 0 ≤ o.getD e 0 := fun e he => of_decide_eq_true (List.all_eq_true.1 hall _ (getD_mem (by omega)))
      have hag := allow_good h rfl hol hlt h0
      rcases hcase with ⟨hg, sn, b, hs, hrel⟩ | ⟨hg, b⟩
      · rw [b]
        have hfull := (elems_full h.n10 hs).2 fun e he => (hrel e he).2 (h0 e he)
        show (decide ((elems sn).length = c.entries.length) && within (ls.length : Int) c.limits.lo c.limits.hi) = (c.allowB (o.map Int.toNat) && c.sumsB ls.length)
        rw [decide_eq_true hfull, hw, hag.2 hg]
      · rw [b]
        show false = (c.allowB (o.map Int.toNat) && c.sumsB ls.length)
        have : c.allowB (o.map Int.toNat) = false := by rw [← Bool.not_eq_true, hag]; exact hg
        rw [this]; rfl
    · rw [if_neg hall]
      rcases hcase with ⟨_, sn, b, hs, hrel⟩ | ⟨_, b⟩
      · rw [b]
        show (decide ((elems sn).length = c.entries.length) && within (ls.length : Int) c.limits.lo c.limits.hi) = false
        have hne : ¬ (elems sn).length = c.entries.length := fun hc => hall (by
          refine allI_getD (p := fun x => decide (0 ≤ x)) fun e he => decide_eq_true ?_
          exact (hrel e (by omega)).1 ((elems_full h.n10 hs).1 hc e (by omega)))
        rw [decide_eq_false hne]; rfl
      · rw [b]
end Go.Proofs.YtcnkbdfkjhlbiaaDoor
namespace Go.Proofs.YtcnkbdfkjhlbiaaDoor
open Go.Sy
set_option maxRecDepth 8000
abbrev tysW42_12 := And.intro ty.sz0 <| And.intro ty.agg0 <| And.intro ty.elem0 <| And.intro ty.sz4 <| And.intro ty.agg4 <| And.intro ty.elem4 <| And.intro ty.zero4 <| And.intro ty.und4 <| And.intro ty.sz27 <| And.intro ty.agg27 <| And.intro ty.fld27_0 <| And.intro ty.fld27_1 <| And.intro ty.fld27_2 <| And.intro ty.fld27_3 <| And.intro ty.fld27_4 <| And.intro ty.elem27 <| And.intro ty.zero27 <| And.intro ty.pl27 <| And.intro ty.sz31 <| And.intro ty.agg31 <| And.intro ty.elem31 <| And.intro ty.zero31 <| And.intro ty.und31 <| And.intro ty.sz37 <| And.intro ty.agg37 <| And.intro ty.fld37_0 <| And.intro ty.fld37_1 <| And.intro ty.fld37_2 <| And.intro ty.fld37_3 <| And.intro ty.fld37_4 <| And.intro ty.elem37 <| And.intro ty.zero37 <| And.intro ty.pl37 <| And.intro ty.sz39 <| And.intro ty.agg39 <| And.intro ty.elem39 <| And.intro ty.by39 <| And.intro ty.ez39 <| And.intro ty.zero39 <| ty.und39
set_option maxHeartbeats 4000000 in
theorem SheetProves_c (c : Census) (ls : List (List Int)) : CallP Tryd.prog G0 12 [c.s, SL ls] (B true) := by
  refine CallP.body 42 [.tmp 4] Tryd.func12 (by kernel_rfl) rfl rfl rfl (by repeat' (first | exact Pure.d _ | exact Pure.dx _ | exact Pure.dp _ | exact fa_nil | refine fa_cons ?_ ?_ | refine Pure.agg ?_ | refine Pure.tup ?_ | refine Pure.clo ?_ ?_ | refine Pure.fp ?_ | exact Pure.mapd _ | assumption)) (by repeat' (first | exact Pure.d _ | exact Pure.dx _ | exact Pure.dp _ | exact fa_nil | refine fa_cons ?_ ?_ | refine Pure.agg ?_ | refine Pure.tup ?_ | refine Pure.clo ?_ ?_ | refine Pure.fp ?_ | exact Pure.mapd _ | assumption)) ?_
  refine Tr.reg [1, 2] (by
      simp only [↓sxd, sxu, ↓zE, ↓exq, St.keep, ↓zI, Nat.reduceBEq, Nat.reduceAdd, Nat.reduceLT, Nat.reduceEqDiff]
      (repeat' (first | rfl | exact trivial | exact fun h => h | exact fun h => (by rw [h]; rfl) | apply And.intro | omega | exact Nat.le_of_ble_eq_true rfl))) ?_
  refine Tr.seq ?_
  refine Tr.reg [1, 2, 14] (by
      simp only [↓sxd, sxu, ↓zE, ↓exq, St.keep, ↓zD, Nat.reduceBEq, Nat.reduceAdd, Nat.reduceLT, tysW42_12]
      (repeat ((with_reducible refine And.intro ?_ ?_); (focus (first | with_reducible rfl | trivial | exact fun h => h | exact fun h => (by rw [h]; rfl) | omega | assumption))))
      refine CallO.use (Thin_c _ c) ?_
      try simp only [↓sxd, sxu, ↓zE, ↓exq, ↓zL, Nat.reduceLT]
      (repeat ((with_reducible refine And.intro ?_ ?_); (focus (first | with_reducible rfl | trivial | exact fun h => h | exact fun h => (by rw [h]; rfl) | omega | assumption))))
      refine GdO.mk _ (fun hg => by simp only [sxu, ↓exq, Nat.reduceBEq]; (repeat' (first | rfl | exact trivial | exact fun h => h | exact fun h => (by rw [h]; rfl) | apply And.intro | omega | exact Nat.le_of_ble_eq_true rfl))) ?_
      simp only [↓sxd, sxu, ↓zE, Nat.reduceBEq, Nat.reduceLT]
      (repeat ((with_reducible refine And.intro ?_ ?_); (focus (first | with_reducible rfl | trivial | exact fun h => h | exact fun h => (by rw [h]; rfl) | omega | assumption))))
      refine GdO.mk _ (fun hg => by simp only [sxu, ↓exq, ↓zB, hg]; (repeat ((with_reducible refine And.intro ?_ ?_); (focus (first | with_reducible rfl | trivial | exact fun h => h | exact fun h => (by rw [h]; rfl) | omega | assumption)))); exact CallP.use (short_c ls) ⟨rfl, rfl, rfl⟩) ?_
      simp only [↓sxd, sxu, ↓zE, Nat.reduceBEq, Nat.reduceLT]
      (repeat ((with_reducible refine And.intro ?_ ?_); (focus (first | with_reducible rfl | trivial | exact fun h => h | exact fun h => (by rw [h]; rfl) | omega | assumption))))
      refine GdO.mk _ (fun hg => by simp only [sxu, ↓exq, ↓zL, hg]; (repeat' (first | rfl | exact trivial | exact fun h => h | exact fun h => (by rw [h]; rfl) | apply And.intro | omega | exact Nat.le_of_ble_eq_true rfl))) ?_
      simp only [↓sxd, sxu, ↓zE, ↓exq, ↓zH, Nat.reduceBEq, Nat.reduceLT]
      (repeat' (first | rfl | exact trivial | exact fun h => h | exact fun h => (by rw [h]; rfl) | apply And.intro | omega | exact Nat.le_of_ble_eq_true rfl))) ?_
  refine Tr.cond rfl (fun h14 => ?_) (fun h14 => ?_)
  · refine Tr.reg [4] (by
        simp only [↓sxd, sxu, ↓zE, St.keep, Nat.reduceLT]
        (repeat ((with_reducible refine And.intro ?_ ?_); (focus (first | with_reducible rfl | trivial | exact fun h => h | exact fun h => (by rw [h]; rfl) | omega | assumption))))
        refine CallO.use (awake_c) ?_
        try simp only [↓sxd, sxu, ↓zE, ↓exq, Nat.reduceLT]
        (repeat' (first | rfl | exact trivial | exact fun h => h | exact fun h => (by rw [h]; rfl) | apply And.intro | omega | exact Nat.le_of_ble_eq_true rfl))) ?_
    refine Tr.ret ?_
    (refine ⟨.inr rfl, ?_⟩; first | rfl | exact ⟨rfl, rfl, trivial⟩ | exact ⟨rfl, rfl, rfl, trivial⟩ | (simp only [Res, ResL, ResOK, ↓sxd, sxu, ↓zE, ↓zC, zK, ↓exP, ↓exq, ↓zB, St.keep, ↓zH, ↓zL, ↓zD, ↓zI, Nat.reduceBEq, Nat.reduceAdd, Nat.reduceLT, Nat.reduceMul, Nat.reduceSub, Nat.reduceLeDiff, Nat.reduceEqDiff, Int.reduceLE, Int.reduceLT, Int.reduceToNat, reduceIte, implies_true, sxe, tysW42_12]; (repeat' (first | rfl | exact trivial | exact fun h => h | exact fun h => (by rw [h]; rfl) | apply And.intro | omega | exact Nat.le_of_ble_eq_true rfl))))
  · have hF : c.thin = true ∧ shortB ls = true := by
      simp only [Bool.or_eq_false_iff, Bool.not_eq_false'] at h14
      exact h14
    obtain ⟨hth, hsh⟩ := hF
    have hsm := small_thin hth
    obtain ⟨t1, t2, t3⟩ := thin_len hth
    obtain ⟨l1, l2⟩ := short_iff.1 hsh
    have hrow := rows_c ls (by omega) (fun x hx => by have := l2 x hx; omega)
    have hpa := ProveAssignment_c c hsm ls (by omega) (fun x hx => by have := l2 x hx; omega)
    refine Tr.skip ?_
    refine Tr.reg [1, 2, 5] (by
        simp only [↓sxd, sxu, ↓zE, ↓exq, St.keep, ↓zD, Nat.reduceBEq, Nat.reduceAdd, Nat.reduceLT, tysW42_12]
        (repeat ((with_reducible refine And.intro ?_ ?_); (focus (first | with_reducible rfl | trivial | exact fun h => h | exact fun h => (by rw [h]; rfl) | omega | assumption))))
        refine CallO.use (lCensus_c c hsm) ?_
        try simp only [↓sxd, sxu, ↓zE, Nat.reduceLT]
        (repeat ((with_reducible refine And.intro ?_ ?_); (focus (first | with_reducible rfl | trivial | exact fun h => h | exact fun h => (by rw [h]; rfl) | omega | assumption))))
        refine CallO.use (checkCensus_c c (by omega) (by omega) (by omega)) ?_
        try simp only [↓sxd, sxu, ↓zE, ↓exq, Nat.reduceBEq, Nat.reduceLT]
        (repeat' (first | rfl | exact trivial | exact fun h => h | exact fun h => (by rw [h]; rfl) | apply And.intro | omega | exact Nat.le_of_ble_eq_true rfl))) ?_
    refine Tr.reg [1, 2, 5, 6] (by
        simp only [↓sxd, sxu, ↓zE, ↓exq, St.keep, ↓zD, Nat.reduceBEq, Nat.reduceAdd, Nat.reduceLT, tysW42_12]
        (repeat ((with_reducible refine And.intro ?_ ?_); (focus (first | with_reducible rfl | trivial | exact fun h => h | exact fun h => (by rw [h]; rfl) | omega | assumption))))
        refine CallO.use (lCensus_c c hsm) ?_
        try simp only [↓sxd, sxu, ↓zE, ↓exq, Nat.reduceBEq, Nat.reduceLT]
        (repeat ((with_reducible refine And.intro ?_ ?_); (focus (first | with_reducible rfl | trivial | exact fun h => h | exact fun h => (by rw [h]; rfl) | omega | assumption))))
        refine CallO.use (hrow) ?_
        try simp only [↓sxd, sxu, ↓zE, Nat.reduceBEq, Nat.reduceLT]
        (repeat ((with_reducible refine And.intro ?_ ?_); (focus (first | with_reducible rfl | trivial | exact fun h => h | exact fun h => (by rw [h]; rfl) | omega | assumption))))
        refine CallO.use (hpa) ?_
        try simp only [↓sxd, sxu, ↓zE, ↓exq, Nat.reduceBEq, Nat.reduceLT]
        (repeat' (first | rfl | exact trivial | exact fun h => h | exact fun h => (by rw [h]; rfl) | apply And.intro | omega | exact Nat.le_of_ble_eq_true rfl))) ?_
    refine Tr.reg [4] (by
        simp only [↓sxd, sxu, ↓zE, ↓exq, St.keep, ↓zD, Nat.reduceBEq, Nat.reduceAdd, Nat.reduceLT, tysW42_12]
        (repeat ((with_reducible refine And.intro ?_ ?_); (focus (first | with_reducible rfl | trivial | exact fun h => h | exact fun h => (by rw [h]; rfl) | omega | assumption))))
        refine CallO.use (fault_c c (by omega) (by omega) (by omega)) ?_
        try simp only [↓sxd, sxu, ↓zE, ↓exq, Nat.reduceBEq, Nat.reduceLT]
        iterate 6
          (repeat ((with_reducible refine And.intro ?_ ?_); (focus (first | with_reducible rfl | trivial | exact fun h => h | exact fun h => (by rw [h]; rfl) | omega | assumption))))
          refine GdO.mk _ (fun hg => by simp only [↓sxd, sxu, ↓exq, ↓zD, Nat.reduceBEq, Nat.reduceAdd, Nat.reduceLT, tysW42_12, hg]; (repeat' (first | rfl | exact trivial | exact fun h => h | exact fun h => (by rw [h]; rfl) | apply And.intro | omega | exact Nat.le_of_ble_eq_true rfl))) ?_
          simp only [↓sxd, sxu, ↓zE, Nat.reduceBEq, Nat.reduceLT]
        (repeat ((with_reducible refine And.intro ?_ ?_); (focus (first | with_reducible rfl | trivial | exact fun h => h | exact fun h => (by rw [h]; rfl) | omega | assumption))))
        refine GdO.mk (B (c.isAsg ls)) (fun hg => by
          have hk : c.check = 0 := by simpa using hg
          simp only [sxu, ↓exq, ↓zB, Nat.reduceBEq, hg]
          (repeat ((with_reducible refine And.intro ?_ ?_); (focus (first | with_reducible rfl | trivial | exact fun h => h | exact fun h => (by rw [h]; rfl) | omega | assumption))))
          exact CallP.use (IsAssignment_c c (fine_iff.1 hk) ls l1 l2) ⟨rfl, rfl, rfl⟩) ?_
        try simp only [↓sxd, sxu, ↓zE, Nat.reduceBEq, Nat.reduceLT]
        (repeat ((with_reducible refine And.intro ?_ ?_); (focus (first | with_reducible rfl | trivial | exact fun h => h | exact fun h => (by rw [h]; rfl) | omega | assumption))))
        first | refine GdO.and (fun hg => by simp only [sxu, Nat.reduceBEq, pickArgs]; (repeat' (first | rfl | exact trivial | exact fun h => h | exact fun h => (by rw [h]; rfl) | apply And.intro | omega | exact Nat.le_of_ble_eq_true rfl))) ?_ | refine GdO.mk _ (fun hg => by simp only [↓sxd, sxu, ↓zE, ↓zC, zK, ↓exP, ↓exq, ↓zB, St.keep, ↓zH, ↓zL, ↓zD, ↓zI, Nat.reduceBEq, Nat.reduceAdd, Nat.reduceLT, Nat.reduceMul, Nat.reduceSub, Nat.reduceLeDiff, Nat.reduceEqDiff, Int.reduceLE, Int.reduceLT, Int.reduceToNat, reduceIte, implies_true, sxe, tysW42_12, hg, if_true]; (repeat' (first | rfl | exact trivial | exact fun h => h | exact fun h => (by rw [h]; rfl) | apply And.intro | omega | exact Nat.le_of_ble_eq_true rfl))) ?_
        simp only [↓sxd, sxu, ↓zE, Nat.reduceBEq, Nat.reduceLT]
        (repeat ((with_reducible refine And.intro ?_ ?_); (focus (first | with_reducible rfl | trivial | exact fun h => h | exact fun h => (by rw [h]; rfl) | omega | assumption))))
        refine GdO.mk _ (fun hg => by simp only [↓sxd, sxu, ↓exq, Nat.reduceBEq, tysW42_12]; (repeat' (first | rfl | exact trivial | exact fun h => h | exact fun h => (by rw [h]; rfl) | apply And.intro | omega | exact Nat.le_of_ble_eq_true rfl))) ?_
        simp only [↓sxd, sxu, ↓zE, ↓exq, ↓zH, Nat.reduceBEq, Nat.reduceLT]
        (repeat ((with_reducible refine And.intro ?_ ?_); (focus (first | with_reducible rfl | trivial | exact fun h => h | exact fun h => (by rw [h]; rfl) | omega | assumption))))
        refine GdO.mk _ (fun hg => by simp only [sxu, ↓exq, ↓zB, hg]; (repeat ((with_reducible refine And.intro ?_ ?_); (focus (first | with_reducible rfl | trivial | exact fun h => h | exact fun h => (by rw [h]; rfl) | omega | assumption)))); exact CallP.use (awake_c) ⟨rfl, rfl, rfl⟩) ?_
        simp only [↓sxd, sxu, ↓zE, ↓exq, ↓zH, Nat.reduceBEq, Nat.reduceLT]
        (repeat' (first | rfl | exact trivial | exact fun h => h | exact fun h => (by rw [h]; rfl) | apply And.intro | omega | exact Nat.le_of_ble_eq_true rfl))) ?_
    refine Tr.ret ?_
    exact ⟨.inr rfl, congrArg (fun n => some (B n)) (by
    have hp : c.asg ls = ((c.check == 0) && c.isAsg ls) := by
      by_cases hk : c.check = 0
      · rw [asg_law (fine_iff.1 hk), hk]; rfl
      · have h1 : c.asg ls = false := if_neg hk
        have h2 : (c.check == 0) = false := by simpa using hk
        rw [h1, h2]; rfl
    rw [hp]
    simp)⟩
end Go.Proofs.YtcnkbdfkjhlbiaaDoor
