/- Lemmas, part XPI. Conditions: none. -/
import Derived.Test.YtcnkbdfkjhlbiaaDoorXPG
import Derived.Test.YtcnkbdfkjhlbiaaDoorXPH
import Derived.Deep.Slices
import Derived.OpenShut
import Derived.MakeChecks
import Derived.LaidMore
import Derived.Test.YtcnkbdfkjhlbiaaDoorRows
import Derived.ProofKit
import Derived.Stop.Joined
import Derived.WideKeyArgs
set_option linter.unusedVariables false
namespace Go.Sy
abbrev sxd :=
  And.intro (@vL) <|
  And.intro (@vZ) <|
  And.intro (@v7) <|
  And.intro (@uF) <|
  And.intro (@xM.eq_1) <|
  And.intro (@xM.eq_2) <|
  And.intro (@xM.eq_3) <|
  And.intro (@xM.eq_4) <|
  And.intro (@xM.eq_5) <|
  And.intro (@xM.eq_6) <|
  And.intro (@xM.eq_7) <|
  And.intro (@xM.eq_8) <|
  And.intro (@y9.eq_1) <|
  And.intro (@y9.eq_2) <|
  And.intro (@y9.eq_3) <|
  And.intro (@y9.eq_4) <|
  And.intro (@y9.eq_5) <|
  And.intro (@y9.eq_6) <|
  And.intro (@y9.eq_7) <|
  And.intro (@y9.eq_8) <|
  And.intro (@y9.eq_9) <|
  And.intro (@y9.eq_10) <|
  And.intro (@y9.eq_11) <|
  And.intro (@y9.eq_12) <|
  And.intro (@y9.eq_13) <|
  And.intro (@y9.eq_14) <|
  And.intro (@y9.eq_15) <|
  And.intro (@y9.eq_16) <|
  And.intro (@yW.eq_1) <|
  And.intro (@yW.eq_2) <|
  And.intro (@xN.eq_1) <|
  And.intro (@xN.eq_2) <|
  And.intro (@yZ.eq_1) <|
  And.intro (@yZ.eq_2) <|
  And.intro (@wA.eq_1) <|
  And.intro (@wA.eq_2) <|
  And.intro (@x4.eq_1) <|
  And.intro (@x4.eq_2) <|
  And.intro (@wH.eq_1) <|
  And.intro (@wH.eq_2) <|
  And.intro (@xL.eq_1) <|
  @xL.eq_2
abbrev sxu :=
  And.intro (@St.keep.eq_1) <|
  And.intro (@implies_true.{0}) <|
  And.intro (@implies_true.{1}) <|
  And.intro (@ldOk.eq_1) <|
  And.intro (@ldOk.eq_2) <|
  And.intro (@stabOk.eq_1) <|
  And.intro (@stabOk.eq_2) <|
  And.intro (@addRd.eq_1) <|
  And.intro (@addRd.eq_2) <|
  And.intro (@List.contains_nil.{0}) <|
  And.intro (@List.contains_cons.{0}) <|
  And.intro (@Bool.or_false) <|
  And.intro (@Bool.false_eq_true) <|
  And.intro (@if_false.{1}) <|
  And.intro (@and_self) <|
  And.intro (@ev.eq_1) <|
  And.intro (@ev.eq_2) <|
  And.intro (@ev.eq_3) <|
  And.intro (@ev.eq_4) <|
  And.intro (@svOf.eq_1) <|
  And.intro (@svOf.eq_2) <|
  And.intro (@svOf.eq_3) <|
  And.intro (@svOf.eq_4) <|
  And.intro (@putT.eq_1) <|
  And.intro (@putT.eq_2) <|
  And.intro (@dstOk.eq_1) <|
  And.intro (@dstOk.eq_2) <|
  And.intro (@argTm.eq_1) <|
  And.intro (@argTm.eq_2) <|
  And.intro (@keepT.eq_1) <|
  And.intro (@keepT.eq_2) <|
  And.intro (@List.lookup_cons.{0,0}) <|
  And.intro (@List.lookup_nil.{0,0}) <|
  And.intro (@beq_self_eq_true.{0}) <|
  And.intro (@true_and) <|
  And.intro (@gcond.eq_1) <|
  And.intro (@gcond.eq_2) <|
  And.intro (@gcond.eq_3) <|
  And.intro (@gcond.eq_4) <|
  And.intro (@gcond.eq_5) <|
  And.intro (@gstrip.eq_1) <|
  And.intro (@gstrip.eq_2) <|
  And.intro (@List.getElem?_cons_zero.{0}) <|
  And.intro (@List.getElem?_cons_succ.{0}) <|
  And.intro (@Option.getD_some.{0}) <|
  And.intro (@Option.bind_some.{0,0}) <|
  And.intro (@putAt.eq_1) <|
  And.intro (@putAt.eq_2) <|
  And.intro (@svCells.eq_1) <|
  And.intro (@svCells.eq_2) <|
  And.intro (@svOk.eq_1) <|
  And.intro (@svOk.eq_2) <|
  And.intro (@SV.one.eq_1) <|
  And.intro (@SV.one.eq_2) <|
  And.intro (@SV.one.eq_3) <|
  And.intro (@SV.one.eq_4) <|
  And.intro (@SV.one.eq_5) <|
  And.intro (@svCell.eq_1) <|
  And.intro (@svCell.eq_2) <|
  And.intro (@upd.eq_1) <|
  And.intro (@upd.eq_2) <|
  And.intro (@del.eq_1) <|
  And.intro (@del.eq_2) <|
  And.intro (@List.getD_cons_zero.{0}) <|
  And.intro (@List.getD_cons_succ.{0}) <|
  And.intro (@List.getD_nil.{0}) <|
  And.intro (@List.drop_succ_cons.{0}) <|
  And.intro (@List.drop_zero.{0}) <|
  And.intro (@List.drop_nil.{0}) <|
  And.intro (@List.take_succ_cons.{0}) <|
  And.intro (@List.take_zero.{0}) <|
  And.intro (@List.take_nil.{0}) <|
  And.intro (@List.set_cons_zero.{0}) <|
  And.intro (@List.set_cons_succ.{0}) <|
  And.intro (@List.length_cons.{0}) <|
  And.intro (@List.length_nil.{0}) <|
  And.intro (@List.length_map.{0,0}) <|
  And.intro (@List.length_append.{0}) <|
  And.intro (@List.length_replicate.{0}) <|
  And.intro (@Nat.sub_zero) <|
  And.intro (@List.map_cons.{0,0}) <|
  And.intro (@List.map_nil.{0,0}) <|
  And.intro (@List.cons_append.{0}) <|
  And.intro (@List.nil_append.{0}) <|
  And.intro (@List.append_nil.{0}) <|
  And.intro (@List.all_cons.{0}) <|
  And.intro (@List.all_nil.{0}) <|
  And.intro (@Bool.and_true) <|
  And.intro (@Bool.true_and) <|
  And.intro (@Bool.and_self) <|
  And.intro (@Nat.zero_add) <|
  And.intro (@Nat.add_zero) <|
  And.intro (@Nat.mul_one) <|
  And.intro (@Nat.one_mul) <|
  And.intro (@Nat.zero_mul) <|
  And.intro (@Nat.mul_zero) <|
  And.intro (@Nat.zero_le) <|
  And.intro (@Nat.le_refl) <|
  And.intro (@if_true.{1}) <|
  And.intro (@ite_true.{1}) <|
  And.intro (@toD.eq_1) <|
  And.intro (@toD.eq_2) <|
  And.intro (@toD.eq_3) <|
  And.intro (@allD.eq_1) <|
  And.intro (@allD.eq_2) <|
  And.intro (@allDD.eq_1) <|
  And.intro (@allDD.eq_2) <|
  And.intro (@fillS.eq_1) <|
  And.intro (@fillS.eq_2) <|
  And.intro (@srcOf.eq_1) <|
  And.intro (@srcOf.eq_2) <|
  And.intro (@srcOf.eq_3) <|
  And.intro (@srcOf.eq_4) <|
  And.intro (@bnd.eq_1) <|
  And.intro (@bnd.eq_2) <|
  And.intro (@bnd.eq_3) <|
  And.intro (@Option.map_some.{0,0}) <|
  And.intro (@Option.map_none.{0,0}) <|
  And.intro (@Option.isSome_some.{0}) <|
  And.intro (@Option.isSome_none.{0}) <|
  And.intro (@Int.toNat_zero) <|
  And.intro (@Int.toNat_one) <|
  And.intro (@ne_eq.{1}) <|
  And.intro (@not_false_eq_true) <|
  And.intro (@not_true_eq_false) <|
  And.intro (@false_and) <|
  And.intro (@Int.natCast_zero) <|
  And.intro (@svKey.eq_1) <|
  And.intro (@svKey.eq_2) <|
  And.intro (@svKey.eq_3) <|
  And.intro (@litL.eq_1) <|
  And.intro (@litL.eq_2) <|
  And.intro (@litL.eq_3) <|
  And.intro (@mapOf.eq_1) <|
  And.intro (@mapOf.eq_2) <|
  And.intro (@mapOf.eq_3) <|
  And.intro (@Option.some.injEq.{0}) <|
  And.intro (@TypeDesc.int.injEq) <|
  And.intro (@exists_eq_left'.{1}) <|
  And.intro (@List.range_succ) <|
  And.intro (@List.range_zero) <|
  And.intro (@true_or) <|
  And.intro (@or_true) <|
  And.intro (@List.forall_mem_cons.{0}) <|
  And.intro (@List.not_mem_nil.{0}) <|
  And.intro (@false_implies) <|
  And.intro (@List.find?_nil.{0}) <|
  And.intro (@xQ.eq_1) <|
  And.intro (@xQ.eq_2) <|
  @xQ.eq_3
end Go.Sy
namespace Go.Sy
theorem zF {a : Prop} (h : a := by (repeat' (first | rfl | exact trivial | exact fun h => h | exact fun h => (by rw [h]; rfl) | apply And.intro | omega | exact Nat.le_of_ble_eq_true rfl))) : a := h
theorem zP {a : Prop} (h : a := by repeat' (first | exact Pure.d _ | exact Pure.dx _ | exact Pure.dp _ | exact fa_nil | refine fa_cons ?_ ?_ | refine Pure.agg ?_ | refine Pure.tup ?_ | refine Pure.clo ?_ ?_ | refine Pure.fp ?_ | exact Pure.mapd _ | assumption)) : a := h
theorem zS {a : Prop} (h : a := by first | with_reducible rfl | trivial | exact fun h => h | exact fun h => (by rw [h]; rfl) | omega | assumption) : a := h
theorem zT {a : Prop} (h : a := by repeat' (first | exact TmT.cons rfl (TnS.d _) ?_ | exact trivial | exact F2.nil | refine F2.append ?_ ?_ | refine F2.map fun _ _ => ?_ | refine F2.cons ?_ ?_ | refine TmT.cons rfl ?_ ?_ | exact TnS.d _ | exact TnS.dx _ | exact TnS.dp _ | exact TnS.slc rfl | exact TnS.ptr rfl | refine TnS.frzf rfl (by simp) (by simp) (by simp) ?_ | refine TnS.frz0 rfl (by simp) (by simp) (by simp) ?_ | refine TnS.frzm rfl (by simp) ?_ | exact TnS.mapr rfl | exact TnS.yld rfl | refine ⟨rfl, ?_⟩ | refine TnO.arr ?_ | refine TnO.map ?_ | exact TnO.raw _ | exact TnO.iter _ _ | refine TnS.agg ?_ | refine TnS.tup ?_ | exact TnS.pure (Pure.clo (by assumption) (by assumption)) | refine TnS.clo ?_ ?_ | exact TnS.unk _ | exact TnS.pure (Pure.clo (by assumption) (by assumption)))) : a := h
end Go.Sy
namespace Go.Proofs.YtcnkbdfkjhlbiaaDoor
open Go.Sy
abbrev I (n : Int) : SV := .d (.lit (.int .i64 n))
abbrev U (n : Int) : SV := .d (.lit (.int .u64 n))
abbrev B (b : Bool) : SV := .d (.lit (.bool b))
abbrev cI (n : Int) : D := .lit (.int .i64 n)
abbrev cU (n : Int) : D := .lit (.int .u64 n)
abbrev cB (b : Bool) : D := .lit (.bool b)
theorem mix : Tryd.prog.follows .mixedOrders = true := by kernel_rfl
theorem wr {n : Int} (h1 : -9223372036854775808 ≤ n) (h2 : n < 9223372036854775808) : IntKind.i64.wrap n = n := by
  have e : IntKind.i64.bits = 64 := rfl
  have s : IntKind.i64.signed = true := rfl
  simp only [IntKind.wrap, e, s, Bool.true_and, decide_eq_true_eq]
  split <;> omega
theorem wu {n : Int} (h1 : 0 ≤ n) (h2 : n < 18446744073709551616) : IntKind.u64.wrap n = n := by
  have e : IntKind.u64.bits = 64 := rfl
  have s : IntKind.u64.signed = false := rfl
  simp only [IntKind.wrap, e, s, Bool.false_and, Bool.false_eq_true, if_false]
  omega
structure Rng where
  lo : Int
  hi : Int
  deriving DecidableEq, Inhabited, Repr
structure Entry where
  sched : Int
  sex : Int
  key : Int
  ages : Rng
  deriving DecidableEq, Inhabited, Repr
structure Pair where
  fst : Int
  snd : Int
  deriving DecidableEq, Inhabited, Repr
structure Census where
  entries : List Entry
  same : List Pair
  apart : List Pair
  omitted : Rng
  number : Rng
  deriving DecidableEq, Inhabited, Repr
structure Coding where
  codes : List (List Int)
  wrong : List Int
  deriving DecidableEq, Inhabited, Repr
def dI (l : List Int) : List (List D) := l.map fun n => [cI n]
def dU (l : List Nat) : List (List D) := l.map fun n => [cU (n : Nat)]
def dL (l : List (List Int)) : List (List D) := l.map fun r => [.sl (dI r)]
def dW (l : List Nat) : List (List D) := l.map fun n => [.lit (.int .u16 (n : Nat))]
abbrev Rng.d (r : Rng) : List D := [cI r.lo, cI r.hi]
abbrev Pair.d (p : Pair) : List D := [cI p.fst, cI p.snd]
abbrev Entry.d (e : Entry) : List D := [cI e.sched, cI e.sex, cI e.key, cI e.ages.lo, cI e.ages.hi]
def dP (l : List Pair) : List (List D) := l.map Pair.d
def dE (l : List Entry) : List (List D) := l.map Entry.d
abbrev SI (l : List Int) : SV := .d (.sl (dI l))
abbrev SU (l : List Nat) : SV := .d (.sl (dU l))
abbrev SL (l : List (List Int)) : SV := .d (.sl (dL l))
abbrev SP (l : List Pair) : SV := .d (.sl (dP l))
abbrev SE (l : List Entry) : SV := .d (.sl (dE l))
abbrev Rng.s (r : Rng) : SV := .agg [I r.lo, I r.hi]
abbrev Pair.s (p : Pair) : SV := .agg [I p.fst, I p.snd]
abbrev Entry.s (e : Entry) : SV := .agg [I e.sched, I e.sex, I e.key, I e.ages.lo, I e.ages.hi]
abbrev Census.s (c : Census) : SV := .agg [SE c.entries, SP c.same, SP c.apart, I c.omitted.lo, I c.omitted.hi, I c.number.lo, I c.number.hi]
abbrev Coding.s (c : Coding) : SV := .agg [SL c.codes, SI c.wrong]
theorem dI_len (l : List Int) : (dI l).length = l.length := List.length_map ..
theorem dU_len (l : List Nat) : (dU l).length = l.length := List.length_map ..
theorem dL_len (l : List (List Int)) : (dL l).length = l.length := List.length_map ..
theorem dW_len (l : List Nat) : (dW l).length = l.length := List.length_map ..
theorem dP_len (l : List Pair) : (dP l).length = l.length := List.length_map ..
theorem dE_len (l : List Entry) : (dE l).length = l.length := List.length_map ..
theorem map_get {α : Type} {f : α → List D} {l : List α} {n : Nat} (a : α) (h : n < l.length) : (l.map f).getD n [] = f (l.getD n a) := by
  simp [List.getD_eq_getElem?_getD, h]
theorem dI_get {l : List Int} {n : Nat} (h : n < l.length) : (dI l).getD n [] = [cI (l.getD n 0)] := map_get 0 h
theorem dU_get {l : List Nat} {n : Nat} (h : n < l.length) : (dU l).getD n [] = [cU (l.getD n 0 : Nat)] := map_get 0 h
theorem dL_get {l : List (List Int)} {n : Nat} (h : n < l.length) : (dL l).getD n [] = [.sl (dI (l.getD n []))] := map_get [] h
theorem dW_get {l : List Nat} {n : Nat} (h : n < l.length) : (dW l).getD n [] = [.lit (.int .u16 (l.getD n 0 : Nat))] := map_get 0 h
theorem dP_get {l : List Pair} {n : Nat} (h : n < l.length) : (dP l).getD n [] = (l.getD n default).d := map_get default h
theorem dE_get {l : List Entry} {n : Nat} (h : n < l.length) : (dE l).getD n [] = (l.getD n default).d := map_get default h
theorem dI_take (l : List Int) (n : Nat) : (dI l).take n = dI (l.take n) := (List.map_take ..).symm
theorem dI_drop (l : List Int) (n : Nat) : (dI l).drop n = dI (l.drop n) := (List.map_drop ..).symm
theorem dP_take (l : List Pair) (n : Nat) : (dP l).take n = dP (l.take n) := (List.map_take ..).symm
theorem dP_drop (l : List Pair) (n : Nat) : (dP l).drop n = dP (l.drop n) := (List.map_drop ..).symm
theorem dE_take (l : List Entry) (n : Nat) : (dE l).take n = dE (l.take n) := (List.map_take ..).symm
theorem dE_drop (l : List Entry) (n : Nat) : (dE l).drop n = dE (l.drop n) := (List.map_drop ..).symm
theorem dI_sz (l : List Int) : (∀ e ∈ dI l, e.length = 1) = True := by simp [dI]
theorem dU_sz (l : List Nat) : (∀ e ∈ dU l, e.length = 1) = True := by simp [dU]
theorem dW_sz (l : List Nat) : (∀ e ∈ dW l, e.length = 1) = True := by simp [dW]
theorem dL_sz (l : List (List Int)) : (∀ e ∈ dL l, e.length = 1) = True := by simp [dL]
theorem dP_sz (l : List Pair) : (∀ e ∈ dP l, e.length = 2) = True := by simp [dP]
theorem dE_sz (l : List Entry) : (∀ e ∈ dE l, e.length = 5) = True := by simp [dE]
theorem CallP.arg {G : Nat → Option (List D)} {f : FuncId} {args args' : List SV} {r : SV} (h : CallP Tryd.prog G f args' r) (ha : F2 (fun s s' => ∀ (pl : Nat → Option Pl) (ok : Nat → Prop) (w : World) (v : Value), SR pl ok w s v → SR pl ok w s' v) args args') : CallP Tryd.prog G f args r :=
  ⟨h.1, fun O pl w vs h1 h2 h3 h4 => h.2 O pl w vs h1 h2 (by rw [h3, ha.len]) fun i hi => ha.get i (by rw [ha.len]; exact hi) hi _ _ _ _ (h4 i (by rw [ha.len]; exact hi))⟩
theorem dxd (es : List (List D)) (pl : Nat → Option Pl) (ok : Nat → Prop) (w : World) (v : Value) (h : SR pl ok w (.dx es) v) : SR pl ok w (.d (.sl es)) v := by
  cases h with | dx _ a h => exact .d _ _ h
abbrev sxe :=
  And.intro (@Int.toNat_natCast) <|
  And.intro (@dI_take) <|
  And.intro (@dI_drop) <|
  And.intro (@dP_take) <|
  And.intro (@dP_drop) <|
  And.intro (@dE_take) <|
  And.intro (@dE_drop) <|
  And.intro (@dI_sz) <|
  And.intro (@dU_sz) <|
  And.intro (@dW_sz) <|
  And.intro (@dL_sz) <|
  And.intro (@dP_sz) <|
  And.intro (@dE_sz) <|
  And.intro (@dI_len) <|
  And.intro (@dU_len) <|
  And.intro (@dL_len) <|
  And.intro (@dW_len) <|
  And.intro (@dP_len) <|
  And.intro (@dE_len) <|
  And.intro (@dI_get) <|
  And.intro (@dU_get) <|
  And.intro (@dL_get) <|
  And.intro (@dW_get) <|
  And.intro (@dP_get) <|
  And.intro (@dE_get) <|
  And.intro (@Int.natCast_nonneg) <|
  And.intro (@Int.ofNat_lt) <|
  And.intro (@Int.ofNat_le) <|
  @Int.toNat_natCast
end Go.Proofs.YtcnkbdfkjhlbiaaDoor
namespace Go.Proofs.YtcnkbdfkjhlbiaaDoor
open Go.Sy Go.Deep
section
variable {H : Type} {enc : TypeId × Value → H} {P : Program} {W : World} {spare : Nat → Bool}
def DRs (W : World) (ds : List D) (cs : List Value) : Prop := ds.length = cs.length ∧ ∀ j (h : j < ds.length), DR (fun _ => True) W ds[j] (cs.getD j undef)
def Reads {α : Type} (enc : TypeId × Value → H) (P : Program) (W : World) (spare : Nat → Bool) (t : TypeId) (n : Nat) (f : α → List D) : Prop :=
  ∀ fuel cs x, DataW.trod enc P W 0 spare true fuel t cs = some x → ∃ a : α, (f a).length = n ∧ DRs W (f a) cs
theorem reads_int {t : TypeId} (hu : P.underlying t = some (.int .i64)) : Reads enc P W spare t 1 (fun n : Int => [cI n]) := fun fuel cs x h => by
  obtain ⟨n, rfl, _⟩ := DataW.trod_int hu h
  refine ⟨n, rfl, rfl, fun j hj => ?_⟩
  obtain rfl : j = 0 := by simp at hj; omega
  exact DR.lit _ rfl
theorem exists_list {α : Type} {Q : Nat → α → Prop} : ∀ n, (∀ i, i < n → ∃ a, Q i a) → ∃ l : List α, l.length = n ∧ ∀ i (h : i < l.length), Q i l[i]
  | 0, _ => ⟨[], rfl, fun i h => absurd h (Nat.not_lt_zero _)⟩
  | n + 1, h => by
    obtain ⟨l, h1, h2⟩ := exists_list n fun i hi => h i (by omega)
    obtain ⟨a, ha⟩ := h n (by omega)
    refine ⟨l ++ [a], by simp [h1], fun i hi => ?_⟩
    by_cases hil : i < l.length
    · rw [List.getElem_append_left hil]; exact h2 i hil
    · have : i = n := by simp at hi; omega
      subst this
      rw [List.getElem_append_right (by omega)]
      simpa [h1] using ha
theorem cells_get {b : Addr} {n : Nat} {cs : List Value} (h : W.cells? 0 b n = some cs) : cs.length = n ∧ ∀ j, j < n → W.cell? (b.add j) = some (cs.getD j undef) := by
  unfold World.cells? at h
  rw [if_pos (Nat.zero_le _)] at h
  have hl := mapM_some_length h
  rw [List.length_range] at hl
  refine ⟨hl, fun j hj => ?_⟩
  have := mapM_some_get h j j (by simp [hj])
  rw [this, List.getElem?_eq_getElem (by omega)]
  simp [List.getD_eq_getElem?_getD, hl, hj]
theorem cell_some {a : Addr} {v : Value} (h : W.cell? a = some v) : a.spot = none ∧ a.block < W.heap.size := by
  unfold World.cell? at h
  split at h
  · rename_i c e f hc
    split at h
    · cases h
    · rename_i hs
      exact ⟨by simpa using hs, (Array.getElem?_eq_some_iff.1 hc).1⟩
  · cases h
theorem reads_slice {α : Type} {t e : TypeId} {n : Nat} {f : α → List D} (hu : P.underlying t = some (.slice e)) (hc : P.cellsOf e = n) (hn : n ≠ 0) (h : Reads enc P W spare e n f) : Reads enc P W spare t 1 (fun l : List α => [.sl (l.map f)]) := fun fuel cs x hx => by
  rcases open_slice hu hx with ⟨rfl, _⟩ | ⟨a, len, cap, m, n', Dd, Pl, rfl, _, hle, hcap, hm, _, hel⟩
  · refine ⟨[], rfl, rfl, fun j hj => ?_⟩
    obtain rfl : j = 0 := by simp at hj; omega
    exact DR.nil none 0
  · have hlm : len ≤ m := by rw [hm]; split <;> omega
    obtain ⟨l, hl, hq⟩ := exists_list (Q := fun i (p : α × List Value) => W.cells? 0 (a.add (i * n)) n = some p.2 ∧ (f p.1).length = n ∧ DRs W (f p.1) p.2) len (fun i hi => by
      obtain ⟨cs', h1, h2⟩ := hel i (by omega)
      rw [hc] at h1
      obtain ⟨y, h3, h4⟩ := h _ _ _ h2
      exact ⟨(y, cs'), h1, h3, h4⟩)
    refine ⟨l.map (·.1), rfl, rfl, fun j hj => ?_⟩
    obtain rfl : j = 0 := by simp at hj; omega
    show DR (fun _ => True) W (.sl ((l.map (·.1)).map f)) (.slice (some a) len cap)
    by_cases h0 : len = 0
    · subst h0
      obtain rfl := List.length_eq_zero_iff.1 hl
      exact DR.nil _ _
    · have q0 := (cells_get (hq 0 (by omega)).1).2 0 (by omega)
      rw [Nat.zero_mul] at q0
      have ea : (a.add 0).add 0 = a := rfl
      rw [ea] at q0
      obtain ⟨hsp, hbl⟩ := cell_some q0
      obtain ⟨B, off, sp⟩ := a
      simp only at hsp hbl
      subst hsp
      have hlen : ((l.map (·.1)).map f).length = len := by simp [hl]
      rw [← hlen]
      have hget : ∀ i (hi : i < ((l.map (·.1)).map f).length), ((l.map (·.1)).map f)[i] = f (l[i]'(by simpa using hi)).1 := fun i hi => by simp
      refine DR.sl n _ B off cap (fun i j => match l[i]? with | some p => p.2.getD j undef | none => undef) trivial hbl (by rw [hlen]; exact hle) (fun i hi => ?_) (fun i hi j hj => ?_) (fun i hi j hj => ?_)
      · rw [hget i hi]; exact (hq i (by simpa using hi)).2.1
      · have hi' : i < l.length := by simpa using hi
        rw [hget i hi] at hj
        have hjn : j < n := by rw [← (hq i hi').2.1]; exact hj
        have := (cells_get (hq i hi').1).2 j hjn
        rw [addr_add, addr_add] at this
        rw [List.getElem?_eq_getElem hi', ← this, Nat.add_assoc]
      · have hi' : i < l.length := by simpa using hi
        have hj' : j < (f (l[i]).1).length := by rw [← hget i hi]; exact hj
        have := (hq i hi').2.2.2 j hj'
        rw [List.getElem?_eq_getElem hi']
        simp only [hget i hi]
        exact this
theorem DRs.app {a b : List D} {c : List Value} (h1 : DRs W a (c.take a.length)) (h2 : DRs W b (c.drop a.length)) : DRs W (a ++ b) c := by
  obtain ⟨l1, g1⟩ := h1
  obtain ⟨l2, g2⟩ := h2
  rw [List.length_take] at l1
  rw [List.length_drop] at l2
  refine ⟨by rw [List.length_append]; omega, fun j hj => ?_⟩
  by_cases hja : j < a.length
  · rw [List.getElem_append_left hja]
    have := g1 j hja
    have e : (c.take a.length).getD j undef = c.getD j undef := by
      simp [List.getD_eq_getElem?_getD, hja]
    rw [e] at this; exact this
  · rw [List.getElem_append_right (by omega)]
    have := g2 (j - a.length) (by rw [List.length_append] at hj; omega)
    have e : (c.drop a.length).getD (j - a.length) undef = c.getD j undef := by
      simp only [List.getD_eq_getElem?_getD, List.getElem?_drop]
      congr 2; omega
    rw [e] at this; exact this
def Tile (W : World) (cs : List Value) : Nat → List (List D) → Prop
  | off, [] => cs.length = off
  | off, ds :: r => DRs W ds ((cs.drop off).take ds.length) ∧ Tile W cs (off + ds.length) r
theorem Tile.drs {cs : List Value} : ∀ (L : List (List D)) (off : Nat), Tile W cs off L → DRs W L.flatten (cs.drop off)
  | [], off, h => ⟨by rw [List.length_drop, show cs.length = off from h]; simp, fun j hj => absurd hj (Nat.not_lt_zero _)⟩
  | ds :: r, off, ⟨h1, h2⟩ => by
    have := Tile.drs r _ h2
    rw [List.flatten_cons]
    exact DRs.app h1 (by rw [List.drop_drop]; exact this)
theorem open_fields {t : TypeId} {cs : List Value} {fuel : Nat} {x : DataW H × List MemPlace} (L : List (TypeId × Nat)) (hu : (match P.underlying t with | some (.struct fs) => fs.toList.map (fun f => (f.type, f.offset)) | _ => []) = L) (hL : L ≠ [])
    (h : DataW.trod enc P W 0 spare true fuel t cs = some x) : cs.length = P.cellsOf t ∧ ∃ n : Nat, ∀ (i : Nat) (t' : TypeId) (o : Nat), L[i]? = some (t', o) → ∃ y, DataW.trod enc P W 0 spare true n t' ((cs.drop o).take (P.cellsOf t')) = some y := by
  split at hu
  · rename_i fs hfs
    obtain ⟨xs, n, _, _, h1, h2, h3⟩ := DataW.trod_struct hfs h
    refine ⟨h1, n, fun i t' o hi => ?_⟩
    rw [← hu, List.getElem?_map] at hi
    obtain ⟨f, hf, he⟩ := Option.map_eq_some_iff.1 hi
    simp only [Prod.mk.injEq] at he
    obtain ⟨rfl, rfl⟩ := he
    rw [Array.getElem?_toList] at hf
    have hlt : i < xs.length := by rw [h2]; exact (Array.getElem?_eq_some_iff.1 hf).1
    exact ⟨xs[i], by rw [h3 i f hf, List.getElem?_eq_getElem hlt]⟩
  · exact absurd hu.symm hL
end
end Go.Proofs.YtcnkbdfkjhlbiaaDoor
namespace Go.Proofs.YtcnkbdfkjhlbiaaDoor
open Go.Sy
theorem wun {n : Nat} (h : n < 18446744073709551616) : IntKind.u64.wrap (n : Int) = n := wu (by omega) (by omega)
theorem bv {a : Nat} (h : a < 18446744073709551616) : (BitVec.ofInt IntKind.u64.bits (a : Int)).toNat = a := by
  show (BitVec.ofInt 64 (a : Int)).toNat = a
  rw [BitVec.ofInt_natCast, BitVec.toNat_ofNat]
  exact Nat.mod_eq_of_lt h
theorem and_u {a b : Nat} (ha : a < 18446744073709551616) (hb : b < 18446744073709551616) :
    IntKind.u64.wrap ((BitVec.ofInt IntKind.u64.bits (a : Int) &&& BitVec.ofInt IntKind.u64.bits (b : Int)).toNat : Int) = ((a &&& b : Nat) : Int) := by
  rw [BitVec.toNat_and, bv ha, bv hb]
  exact wun (Nat.lt_of_le_of_lt Nat.and_le_left ha)
theorem or_u {a b : Nat} (ha : a < 18446744073709551616) (hb : b < 18446744073709551616) :
    IntKind.u64.wrap ((BitVec.ofInt IntKind.u64.bits (a : Int) ||| BitVec.ofInt IntKind.u64.bits (b : Int)).toNat : Int) = ((a ||| b : Nat) : Int) := by
  rw [BitVec.toNat_or, bv ha, bv hb]
  exact wun (Nat.or_lt_two_pow (n := 64) ha hb)
theorem andNot_u {a b : Nat} (ha : a < 18446744073709551616) (hb : b < 18446744073709551616) :
    IntKind.u64.wrap ((BitVec.ofInt IntKind.u64.bits (a : Int) &&& ~~~ BitVec.ofInt IntKind.u64.bits (b : Int)).toNat : Int) = ((a ^^^ (a &&& b) : Nat) : Int) := by
  have e : (BitVec.ofInt IntKind.u64.bits (a : Int) &&& ~~~ BitVec.ofInt IntKind.u64.bits (b : Int)).toNat = a ^^^ (a &&& b) := by
    apply Nat.eq_of_testBit_eq
    intro i
    have h1 : ∀ x : BitVec IntKind.u64.bits, x.toNat.testBit i = x.getLsbD i := fun x => rfl
    rw [h1, BitVec.getLsbD_and, BitVec.getLsbD_not, ← h1, ← h1, bv ha, bv hb, Nat.testBit_xor, Nat.testBit_and]
    by_cases hi : i < IntKind.u64.bits
    · simp only [hi, decide_true, Bool.true_and]
      cases a.testBit i <;> cases b.testBit i <;> rfl
    · have hi' : 64 ≤ i := Nat.le_of_not_lt hi
      have : a.testBit i = false := Nat.testBit_lt_two_pow (Nat.lt_of_lt_of_le ha (Nat.pow_le_pow_right (n := 2) (by omega) hi'))
      simp [this]
  rw [e]
  exact wun (Nat.xor_lt_two_pow (n := 64) ha (Nat.lt_of_le_of_lt Nat.and_le_left ha))
theorem shl_u {n : Nat} (h : n < 64) : IntKind.u64.wrap ((1 : Int) * 2 ^ min n IntKind.u64.bits) = ((2 ^ n : Nat) : Int) := by
  have e : min n IntKind.u64.bits = n := Nat.min_eq_left (Nat.le_of_lt h)
  rw [e, Int.one_mul]
  have : ((2 : Int) ^ n) = ((2 ^ n : Nat) : Int) := by simp
  rw [this]
  exact wun (Nat.pow_lt_pow_right (a := 2) (by omega) h)
theorem shr_u {a n : Nat} (ha : a < 18446744073709551616) : (a : Int).fdiv (2 ^ min n IntKind.u64.bits) = ((a >>> n : Nat) : Int) := by
  have e2 : ((2 : Int) ^ min n IntKind.u64.bits) = ((2 ^ min n IntKind.u64.bits : Nat) : Int) := by simp
  rw [e2, Int.fdiv_eq_ediv_of_nonneg _ (Int.natCast_nonneg _), ← Int.natCast_ediv, Nat.shiftRight_eq_div_pow]
  congr 1
  by_cases h : n ≤ 64
  · rw [show min n IntKind.u64.bits = n from Nat.min_eq_left h]
  · have h' : 64 ≤ n := by omega
    rw [show min n IntKind.u64.bits = 64 from Nat.min_eq_right h']
    rw [Nat.div_eq_of_lt ha, Nat.div_eq_of_lt (Nat.lt_of_lt_of_le ha (Nat.pow_le_pow_right (n := 2) (by omega) h'))]
theorem has_u {s n : Nat} (hs : s < 18446744073709551616) :
    (IntKind.u64.wrap ((BitVec.ofInt IntKind.u64.bits ((s : Int).fdiv (2 ^ min n IntKind.u64.bits)) &&& BitVec.ofInt IntKind.u64.bits 1).toNat : Int) == 1) = s.testBit n := by
  have h1 : s >>> n < 18446744073709551616 := Nat.lt_of_le_of_lt (Nat.shiftRight_le _ _) hs
  rw [shr_u hs]
  have := and_u h1 (b := 1) (by omega)
  simp only [Int.natCast_one] at this
  rw [this, Nat.testBit]
  rw [Nat.and_comm 1]
  have h2 : s >>> n &&& 1 = s >>> n % 2 := Nat.and_one_is_mod _
  rw [h2]
  have : s >>> n % 2 = 0 ∨ s >>> n % 2 = 1 := by omega
  rcases this with h | h <;> rw [h] <;> rfl
def el : Nat → Nat → Nat → List Nat
  | 0, _, _ => []
  | f + 1, i, s => if s = 0 then [] else if s % 2 = 1 then i :: el f (i + 1) (s / 2) else el f (i + 1) (s / 2)
def elems (s : Nat) : List Nat := el 16 0 s
def low (s : Nat) : Nat := (elems s).headD 0
theorem elems_all : (List.range 4096).all (fun s => s == 0 || (elems s == low s :: elems (s &&& (s - 1)))) = true := by kernel_rfl
theorem elems_step {s : Nat} (h : s < 4096) (h0 : s ≠ 0) : elems s = low s :: elems (s &&& (s - 1)) := by
  have := List.all_eq_true.1 elems_all s (List.mem_range.2 h)
  simpa [h0] using this
theorem el_len : ∀ f i s, (el f i s).length ≤ f
  | 0, _, _ => by simp [el]
  | f + 1, i, s => by
    unfold el
    have h1 := el_len f (i + 1) (s / 2)
    split
    · simp
    · split
      · simp; omega
      · omega
theorem elems_len (s : Nat) : (elems s).length ≤ 16 := el_len 16 0 s
theorem elems_zero : elems 0 = [] := by decide
def tab64 : List Int := [0, 1, 56, 2, 57, 49, 28, 3, 61, 58, 42, 50, 38, 29, 17, 4, 62, 47, 59, 36, 45, 43, 51, 22, 53, 39, 33, 30, 24, 18, 12, 5, 63, 55, 48, 27, 60, 41, 37, 16, 46, 35, 44, 21, 52, 32, 23, 11, 54, 26, 40, 15, 34, 20, 31, 10, 25, 14, 19, 9, 13, 8, 7, 6]
def tab32 : List Int := [0, 1, 28, 2, 29, 14, 24, 3, 30, 22, 20, 15, 25, 17, 4, 8, 31, 27, 13, 23, 21, 19, 16, 7, 26, 12, 18, 6, 11, 5, 10, 9]
def G0 (g : Nat) : Option (List D) := if g = 0 then some (tab32.map fun n => .lit (.int .u8 n)) else if g = 1 then some (tab64.map fun n => .lit (.int .u8 n)) else none
theorem G0_1 : G0 1 = some (tab64.map fun n => .lit (.int .u8 n)) := rfl
def tzi (s : Nat) : Nat := ((s &&& (18446744073709551616 - s)) * 285870213051353865 % 18446744073709551616) >>> 58
theorem tz_all : (List.range 4096).all (fun s => s == 0 || (decide (tzi s < 64) && (tab64.getD (tzi s) 0 == (low s : Int)))) = true := by kernel_rfl
theorem tz_of {s : Nat} (h : s < 4096) (h0 : s ≠ 0) : tzi s < 64 ∧ tab64.getD (tzi s) 0 = low s := by
  have := List.all_eq_true.1 tz_all s (List.mem_range.2 h)
  simpa [h0] using this
theorem tz_u0 {s : Nat} (h : s < 4096) (h0 : s ≠ 0) :
    (IntKind.u64.wrap (IntKind.u64.wrap ((BitVec.ofInt IntKind.u64.bits (s : Int) &&& BitVec.ofInt IntKind.u64.bits (IntKind.u64.wrap (0 - (s : Int)))).toNat : Int) * 285870213051353865)).fdiv (2 ^ min 58 IntKind.u64.bits) = (tzi s : Int) := by
  have e1 : IntKind.u64.wrap (0 - (s : Int)) = ((18446744073709551616 - s : Nat) : Int) := by
    have e : IntKind.u64.bits = 64 := rfl
    have sg : IntKind.u64.signed = false := rfl
    simp only [IntKind.wrap, e, sg, Bool.false_and, Bool.false_eq_true, if_false]
    omega
  rw [e1, and_u (by omega) (by omega)]
  have e2 : ∀ x : Nat, IntKind.u64.wrap ((x : Int) * 285870213051353865) = ((x * 285870213051353865 % 18446744073709551616 : Nat) : Int) := by
    intro x
    have e : IntKind.u64.bits = 64 := rfl
    have sg : IntKind.u64.signed = false := rfl
    simp only [IntKind.wrap, e, sg, Bool.false_and, Bool.false_eq_true, if_false]
    omega
  rw [e2, shr_u (Nat.mod_lt _ (by omega))]
  rfl
theorem tz_u {s : Nat} (h : s < 4096) (h0 : s ≠ 0) : ∃ t : Nat, t < 64 ∧ tab64.getD t 0 = low s ∧
    (IntKind.u64.wrap (IntKind.u64.wrap ((BitVec.ofInt IntKind.u64.bits (s : Int) &&& BitVec.ofInt IntKind.u64.bits (IntKind.u64.wrap (0 - (s : Int)))).toNat : Int) * 285870213051353865)).fdiv (2 ^ min 58 IntKind.u64.bits) = (t : Int) :=
  ⟨tzi s, (tz_of h h0).1, (tz_of h h0).2, tz_u0 h h0⟩
theorem low_all : (List.range 4096).all (fun s => s == 0 || decide (low s < 12)) = true := by kernel_rfl
theorem low_lt {s : Nat} (h : s < 4096) (h0 : s ≠ 0) : low s < 12 := by
  have := List.all_eq_true.1 low_all s (List.mem_range.2 h)
  simpa [h0] using this
end Go.Proofs.YtcnkbdfkjhlbiaaDoor
namespace Go.Proofs.YtcnkbdfkjhlbiaaDoor
open Go.Sy Go.Deep
section
variable {H : Type} {enc : TypeId × Value → H} {W : World} {spare : Nat → Bool}
abbrev R3 (enc : TypeId × Value → H) (W : World) (spare : Nat → Bool) : Reads enc Tryd.prog W spare 3 1 (fun n : Int => [cI n]) := reads_int (by kernel_rfl)
theorem rd25 : Reads enc Tryd.prog W spare 25 2 Rng.d := fun fuel cs x h => by
  obtain ⟨hl, n, hf⟩ := open_fields [(3, 0), (3, 1)] (by kernel_rfl) (by simp) h
  obtain ⟨y0, h0⟩ := hf 0 3 0 rfl
  obtain ⟨y1, h1⟩ := hf 1 3 1 rfl
  obtain ⟨a, la, da⟩ := R3 enc W spare _ _ _ h0
  obtain ⟨b, lb, db⟩ := R3 enc W spare _ _ _ h1
  have hc3 : Tryd.prog.cellsOf 3 = 1 := by kernel_rfl
  rw [hc3] at da db
  rw [show Tryd.prog.cellsOf 25 = 2 by kernel_rfl] at hl
  exact ⟨⟨a, b⟩, rfl, Tile.drs [[cI a], [cI b]] 0 ⟨da, db, hl⟩⟩
theorem rd73 : Reads enc Tryd.prog W spare 73 2 Pair.d := fun fuel cs x h => by
  obtain ⟨hl, n, hf⟩ := open_fields [(3, 0), (3, 1)] (by kernel_rfl) (by simp) h
  obtain ⟨y0, h0⟩ := hf 0 3 0 rfl
  obtain ⟨y1, h1⟩ := hf 1 3 1 rfl
  obtain ⟨a, la, da⟩ := R3 enc W spare _ _ _ h0
  obtain ⟨b, lb, db⟩ := R3 enc W spare _ _ _ h1
  have hc3 : Tryd.prog.cellsOf 3 = 1 := by kernel_rfl
  rw [hc3] at da db
  rw [show Tryd.prog.cellsOf 73 = 2 by kernel_rfl] at hl
  exact ⟨⟨a, b⟩, rfl, Tile.drs [[cI a], [cI b]] 0 ⟨da, db, hl⟩⟩
theorem rd71 : Reads enc Tryd.prog W spare 71 5 Entry.d := fun fuel cs x h => by
  obtain ⟨hl, n, hf⟩ := open_fields [(3, 0), (3, 1), (3, 2), (25, 3)] (by kernel_rfl) (by simp) h
  obtain ⟨y0, h0⟩ := hf 0 3 0 rfl
  obtain ⟨y1, h1⟩ := hf 1 3 1 rfl
  obtain ⟨y2, h2⟩ := hf 2 3 2 rfl
  obtain ⟨y3, h3⟩ := hf 3 25 3 rfl
  obtain ⟨a, la, da⟩ := R3 enc W spare _ _ _ h0
  obtain ⟨b, lb, db⟩ := R3 enc W spare _ _ _ h1
  obtain ⟨c, lc, dc⟩ := R3 enc W spare _ _ _ h2
  obtain ⟨r, lr, dr⟩ := rd25 _ _ _ h3
  have hc3 : Tryd.prog.cellsOf 3 = 1 := by kernel_rfl
  rw [hc3] at da db dc
  rw [show Tryd.prog.cellsOf 25 = 2 by kernel_rfl] at dr
  rw [show Tryd.prog.cellsOf 71 = 5 by kernel_rfl] at hl
  exact ⟨⟨a, b, c, r⟩, rfl, Tile.drs [[cI a], [cI b], [cI c], r.d] 0 ⟨da, db, dc, dr, hl⟩⟩
theorem rd22 : Reads enc Tryd.prog W spare 22 1 (fun l : List Entry => [.sl (l.map Entry.d)]) := reads_slice (e := 71) (n := 5) (by kernel_rfl) (by kernel_rfl) (by decide) rd71
theorem rd23 : Reads enc Tryd.prog W spare 23 1 (fun l : List Pair => [.sl (l.map Pair.d)]) := reads_slice (e := 73) (n := 2) (by kernel_rfl) (by kernel_rfl) (by decide) rd73
theorem rd27 : Reads enc Tryd.prog W spare 27 7 (fun c : Census => [.sl (dE c.entries), .sl (dP c.same), .sl (dP c.apart), cI c.omitted.lo, cI c.omitted.hi, cI c.number.lo, cI c.number.hi]) := fun fuel cs x h => by
  obtain ⟨hl, n, hf⟩ := open_fields [(22, 0), (23, 1), (23, 2), (25, 3), (25, 5)] (by kernel_rfl) (by simp) h
  obtain ⟨y0, h0⟩ := hf 0 22 0 rfl
  obtain ⟨y1, h1⟩ := hf 1 23 1 rfl
  obtain ⟨y2, h2⟩ := hf 2 23 2 rfl
  obtain ⟨y3, h3⟩ := hf 3 25 3 rfl
  obtain ⟨y4, h4⟩ := hf 4 25 5 rfl
  obtain ⟨a, la, da⟩ := rd22 _ _ _ h0
  obtain ⟨b, lb, db⟩ := rd23 _ _ _ h1
  obtain ⟨c, lc, dc⟩ := rd23 _ _ _ h2
  obtain ⟨r, lr, dr⟩ := rd25 _ _ _ h3
  obtain ⟨q, lq, dq⟩ := rd25 _ _ _ h4
  rw [show Tryd.prog.cellsOf 22 = 1 by kernel_rfl] at da
  rw [show Tryd.prog.cellsOf 23 = 1 by kernel_rfl] at db dc
  rw [show Tryd.prog.cellsOf 25 = 2 by kernel_rfl] at dr dq
  rw [show Tryd.prog.cellsOf 27 = 7 by kernel_rfl] at hl
  exact ⟨⟨a, b, c, r, q⟩, rfl, Tile.drs [[.sl (dE a)], [.sl (dP b)], [.sl (dP c)], r.d, q.d] 0 ⟨da, db, dc, dr, dq, hl⟩⟩
theorem agg_of {ds : List D} {v : Value} {pl : Nat → Option Pl} (h1 : ds.length ≠ 1) (h : DRs W ds v.cells.toList) : SR pl (fun B => ¬ False) W (.agg (ds.map .d)) v := by
  obtain ⟨hl, hd⟩ := h
  cases v
  case agg vs =>
    refine SR.agg _ _ (by simpa [Value.cells] using hl.symm) fun i hi => ?_
    rw [List.getElem_map]
    refine SR.d _ _ ?_
    have := hd i (by simpa using hi)
    simp only [Value.cells] at this
    have e : vs.toList.getD i undef = vs.getD i undef := by simp [List.getD_eq_getElem?_getD]
    rw [e] at this
    exact this.ext (Ext.weak fun _ _ _ h => h)
  all_goals exact absurd hl (by simpa [Value.cells] using h1)
end
end Go.Proofs.YtcnkbdfkjhlbiaaDoor
namespace Go.Proofs.YtcnkbdfkjhlbiaaDoor
open Go.Sy Go.Deep Go.ChangeShapes Go.WideShapes Go.ChangeAt Go.WideElems Go.RowKit
section
variable {H : Type} {enc : TypeId × Value → H} {W W' : World}
theorem Tryd.ownK : ownKnob Tryd.prog.godebug = none := by kernel_rfl
theorem Tryd.laidOutK : laidOutB Tryd.prog = true := by kernel_rfl
theorem sameAt_add (h : Add W W') {p : MemPlace} (hp : p.block < W.heap.size) : W.sameAt W' p := by
  cases p with
  | cell b off => show W'.cell? ⟨b, off, none⟩ = W.cell? ⟨b, off, none⟩; unfold World.cell?; rw [h.keep b hp]
  | map b => exact h.keep b hp
theorem kept_add (h : Add W W') (may : MemPlace → Prop) : W.keptBut W' may :=
  ⟨h.os, h.out, fun i hi => by rw [h.keep i hi]; exact (World.keptBut_refl W may).2.2 i hi⟩
theorem trodAll_stays {sp' : Nat → Bool} : ∀ {ts : List TypeId} {vs : List Value} {ds : List (DataW H)} {ps : List MemPlace}, (∀ t ∈ ts, Tryd.prog.readableRec t = true ∧ t < Tryd.prog.types.size) →
    DataW.TrodAll enc Tryd.prog W 0 (fun _ => true) true ts vs ds ps → (∀ p ∈ ps, W.sameAt W' p) → (∀ p ∈ ps, sp' p.block = true) → DataW.TrodAll enc Tryd.prog W' 0 sp' true ts vs ds ps
  | [], [], [], _, _, h, _, _ => h
  | t :: ts, v :: vs, d :: ds, _, ht, ⟨p, q, h1, h2, e⟩, hs, hb => by
    subst e
    have h0 := ht t (List.mem_cons_self ..)
    exact ⟨p, q, Trod_stays Tryd.laidOutK h0.1 h0.2 h1 (fun x hx => hs x (List.mem_append_left _ hx)) (fun x hx => hb x (List.mem_append_left _ hx)),
      trodAll_stays (fun t hh => ht t (List.mem_cons_of_mem _ hh)) h2 (fun x hx => hs x (List.mem_append_right _ hx)) (fun x hx => hb x (List.mem_append_right _ hx)), rfl⟩
theorem post_true {fn : Func} {s : ChangeSpec} {args : Array Value} {ds gs : List (DataW H)} {before : List MemPlace} (hv : s.vars = []) (hres : fn.resultTypes = #[4])
    (hpar : ∀ t ∈ fn.params.toList, Tryd.prog.readableRec t = true ∧ t < Tryd.prog.types.size)
    (hW : DataW.Whole enc Tryd.prog fn.params.toList s.vars false W args.toList ds gs before) (hf : s.fn H ds = { results := [.lit (.bool true)], args := ds }) (ha : Add W W') :
    s.post enc Tryd.prog fn false true false false W args (.bool true) W' := by
  have hW0 := hW
  obtain ⟨p, q, h1, h2, e, hz, hn⟩ := hW
  have h4 : Tryd.prog.underlying 4 = some .bool := by kernel_rfl
  rw [hv] at h2
  have hgs : gs = [] ∧ q = [] := trodVars_none h2
  obtain ⟨rfl, rfl⟩ := hgs
  have hlt := hW0.lt
  have hb : ∀ p ∈ before, (fun b => decide (b < W.heap.size)) p.block = true := fun p hp => by simpa using hlt p hp
  rw [List.append_nil] at e
  subst e
  have hr : (Value.bool true).resultList fn.resultTypes.size = [.bool true] := by rw [hres]; rfl
  refine ⟨ds, [], before, [], before, [], hW0, ?_, ?_, ?_, ?_, fun hh => by cases hh⟩
  · rw [List.append_nil, hf, hr, hres]
    exact trodAll_mk1 (shut_bool h4 true)
  · rw [List.append_nil, hf]
    exact trodAll_stays hpar h1 (fun x hx => sameAt_add ha (hlt x hx)) hb
  · rw [List.append_nil, hf, hv]
    exact (rfl : ([] : List MemPlace) = [])
  · exact kept_add ha _
theorem dp_laid {name : String} {g t n : Nat} {l : List Int} {ld : DataW Unit} {fuel : Nat} {cs : Array Value} {p : List MemPlace} {pl : Nat → Option Pl} {ok : Nat → Prop}
    (hg : Tryd.prog.globalNamed name = some g) (hu : Tryd.prog.underlying t = some (.array n 5)) (hl : ld = .agg (l.map fun x => .lit (.int .u8 x))) (hn : l.length = n) (h0 : n ≠ 0)
    (hv : W.var? Tryd.prog name = some cs) (hd : DataW.trod (fun _ => ()) Tryd.prog W 0 (fun _ => true) false fuel t cs.toList = some (ld, p)) (hok : ok g) :
    SR pl ok W (.dp (l.map fun x => .lit (.int .u8 x))) (.pointer (some ⟨g, 0, none⟩)) := by
  subst hl
  obtain ⟨xs, m, rfl, hx, hlen, hxs, hel⟩ := DataW.trod_array hu hd
  have c5 : Tryd.prog.cellsOf 5 = 1 := by kernel_rfl
  have u5 : Tryd.prog.underlying 5 = some (.int .u8) := by kernel_rfl
  simp only [Prod.mk.injEq, DataW.agg.injEq] at hx
  have key : ∀ j (hj : j < l.length), W.cell? ⟨g, j, none⟩ = some (.int .u8 l[j]) := fun j hj => by
    have h1 := hel j (by omega)
    have hjx : j < xs.length := by omega
    rw [List.getElem?_eq_getElem hjx] at h1
    obtain ⟨k, e1, e2, _⟩ := DataW.trod_int u5 h1
    rw [c5, Nat.mul_one] at e1
    have e3 : (xs.map (·.1))[j]? = some (.lit (.int .u8 l[j])) := by
      rw [← hx.1, List.getElem?_map, List.getElem?_eq_getElem hj]; rfl
    rw [List.getElem?_map, List.getElem?_eq_getElem hjx, Option.map_some, e2] at e3
    have hk : k = l[j] := by simpa using e3
    subst hk
    have := World.var?_cell hg hv j
    rw [this, ← Array.getElem?_toList]
    have e4 : ((cs.toList.drop j).take 1)[0]? = some (.int .u8 l[j]) := by rw [e1]; rfl
    rw [List.getElem?_take, if_pos (by omega), List.getElem?_drop] at e4
    simpa using e4
  refine SR.dp _ g 0 (fun j => .int .u8 (l.getD j 0)) hok ?_ (fun j hj => ?_) (fun j hj => ?_)
  · exact (cell_some (key 0 (by omega))).2
  · rw [List.length_map] at hj
    rw [Nat.zero_add, key j hj, List.getD_eq_getElem?_getD, List.getElem?_eq_getElem hj]; rfl
  · rw [List.length_map] at hj
    rw [List.getElem_map, List.getD_eq_getElem?_getD, List.getElem?_eq_getElem hj]
    exact DR.lit _ rfl
abbrev laid2 : List (String × DataW Unit) := [("math/bits.deBruijn32tab", Rows.laid_math_bits_deBruijn32tab), ("math/bits.deBruijn64tab", Rows.laid_math_bits_deBruijn64tab)]
theorem of_laid {pl : Nat → Option Pl} {ok : Nat → Prop} (h : laidMetH Tryd.prog laid2 W) (hok : ok 0 ∧ ok 1) : ∀ g cs, G0 g = some cs → SR pl ok W (.dp cs) (.pointer (some ⟨g, 0, none⟩)) := by
  rw [MakeChecks.laidMetH_plain _ _ _ (by kernel_rfl)] at h
  obtain ⟨ps, ⟨g0, t0, cs0, f0, p0, q0, hg0, ht0, hv0, hd0, ⟨g1, t1, cs1, f1, p1, q1, hg1, ht1, hv1, hd1, _, _⟩, _⟩, _, _⟩ := h
  obtain rfl := Option.some.inj ((show Tryd.prog.globalNamed "math/bits.deBruijn32tab" = some 0 by kernel_rfl).symm.trans hg0)
  obtain rfl := Option.some.inj ((show Tryd.prog.globalNamed "math/bits.deBruijn64tab" = some 1 by kernel_rfl).symm.trans hg1)
  obtain rfl := Option.some.inj ((show (Tryd.prog.globals[0]?).map (·.type) = some 180 by kernel_rfl).symm.trans ht0)
  obtain rfl := Option.some.inj ((show (Tryd.prog.globals[1]?).map (·.type) = some 181 by kernel_rfl).symm.trans ht1)
  intro g cs hg
  unfold G0 at hg
  split at hg
  · rename_i e; subst e
    obtain rfl := Option.some.inj hg
    exact dp_laid (l := tab32) hg0 (by kernel_rfl) (by kernel_rfl) rfl (by decide) hv0 hd0 hok.1
  · split at hg
    · rename_i e; subst e
      obtain rfl := Option.some.inj hg
      exact dp_laid (l := tab64) hg1 (by kernel_rfl) (by kernel_rfl) rfl (by decide) hv1 hd1 hok.2
    · cases hg
theorem door_met (os : Os) (args : Array Value) : laidMetH Tryd.prog laid2 ((World.doorLaid Tryd.prog 4000 os).forCall (fun _ _ => 0) ⟨#[], args, []⟩).memory :=
  laidMetH_of_parts3 (fuel := 8) (laidMet_of_run' 8 (by kernel_rfl) (by kernel_rfl)) (by kernel_rfl) (by kernel_rfl)
end
end Go.Proofs.YtcnkbdfkjhlbiaaDoor
