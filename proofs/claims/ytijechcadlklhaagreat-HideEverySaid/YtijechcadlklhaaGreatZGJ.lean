/- Lemmas, part ZGJ. Conditions: none. -/
import Derived.Test.YtijechcadlklhaaGreatZGI
import Derived.Deep.Slices
import Derived.OpenShut
import Derived.Test.YtijechcadlklhaaGreatRows
import Derived.ProofKit
import Derived.Stop.Joined
import Derived.WideKeyArgs
import Derived.Handed
import Derived.Carry
set_option linter.unusedVariables false
namespace Go.Proofs.YtijechcadlklhaaGreat
open Go.Sy
abbrev I (n : Int) : SV := .d (.lit (.int .i64 n))
abbrev U (n : Int) : SV := .d (.lit (.int .u64 n))
abbrev B (b : Bool) : SV := .d (.lit (.bool b))
abbrev cI (n : Int) : D := .lit (.int .i64 n)
abbrev cB (b : Bool) : D := .lit (.bool b)
def G0 : Nat → Option (List D) := fun _ => none
theorem mix : Tryz.prog.follows .mixedOrders = true := by kernel_rfl
theorem wr {n : Int} (h1 : -9223372036854775808 ≤ n) (h2 : n < 9223372036854775808) : IntKind.i64.wrap n = n := by
  have e : IntKind.i64.bits = 64 := rfl
  have s : IntKind.i64.signed = true := rfl
  simp only [IntKind.wrap, e, s, Bool.true_and, decide_eq_true_eq]
  split <;> omega
theorem wu {n : Int} (h1 : 0 ≤ n) (h2 : n < 18446744073709551616) : IntKind.u64.wrap n = n := by
  have e : IntKind.u64.bits = 64 := rfl
  have s : IntKind.u64.signed = false := rfl
  simp only [IntKind.wrap, e, s, Bool.false_and, Bool.false_eq_true, if_false]
  omega
structure Rng where
  lo : Int
  hi : Int
  deriving DecidableEq, Inhabited, Repr
def dI (l : List Int) : List (List D) := l.map fun n => [cI n]
def dL (l : List (List Int)) : List (List D) := l.map fun r => [.sl (dI r)]
def dW (l : List Nat) : List (List D) := l.map fun n => [.lit (.int .u16 (n : Nat))]
abbrev Rng.d (r : Rng) : List D := [cI r.lo, cI r.hi]
abbrev HC.d (p : HC) : List D := [cI p.row, cI p.col]
abbrev HQ.d (p : HQ) : List D := [cI p.cell.row, cI p.cell.col, cI p.below, cI p.above]
def dR (l : List Rng) : List (List D) := l.map Rng.d
def dC (l : List HC) : List (List D) := l.map HC.d
def dQ (l : List HQ) : List (List D) := l.map HQ.d
def dRL (l : List (List Rng)) : List (List D) := l.map fun r => [.sl (dR r)]
abbrev SI (l : List Int) : SV := .d (.sl (dI l))
abbrev SL (l : List (List Int)) : SV := .d (.sl (dL l))
abbrev SW (l : List Nat) : SV := .d (.sl (dW l))
abbrev SC (l : List HC) : SV := .d (.sl (dC l))
abbrev SQ (l : List HQ) : SV := .d (.sl (dQ l))
abbrev SRL (l : List (List Rng)) : SV := .d (.sl (dRL l))
abbrev Rng.s (r : Rng) : SV := .agg [I r.lo, I r.hi]
abbrev HC.s (p : HC) : SV := .agg [I p.row, I p.col]
abbrev HQ.s (p : HQ) : SV := .agg [I p.cell.row, I p.cell.col, I p.below, I p.above]
abbrev HT.s (t : HT) : SV := .agg [SL t.rows, I t.cap]
theorem dI_len (l : List Int) : (dI l).length = l.length := List.length_map ..
theorem dL_len (l : List (List Int)) : (dL l).length = l.length := List.length_map ..
theorem dW_len (l : List Nat) : (dW l).length = l.length := List.length_map ..
theorem dR_len (l : List Rng) : (dR l).length = l.length := List.length_map ..
theorem dC_len (l : List HC) : (dC l).length = l.length := List.length_map ..
theorem dQ_len (l : List HQ) : (dQ l).length = l.length := List.length_map ..
theorem dRL_len (l : List (List Rng)) : (dRL l).length = l.length := List.length_map ..
theorem map_get {α : Type} {f : α → List D} {l : List α} {n : Nat} (a : α) (h : n < l.length) : (l.map f).getD n [] = f (l.getD n a) := by
  simp [List.getD_eq_getElem?_getD, h]
theorem dI_get {l : List Int} {n : Nat} (h : n < l.length) : (dI l).getD n [] = [cI (l.getD n 0)] := map_get 0 h
theorem dL_get {l : List (List Int)} {n : Nat} (h : n < l.length) : (dL l).getD n [] = [.sl (dI (l.getD n []))] := map_get [] h
theorem dW_get {l : List Nat} {n : Nat} (h : n < l.length) : (dW l).getD n [] = [.lit (.int .u16 (l.getD n 0 : Nat))] := map_get 0 h
theorem dR_get {l : List Rng} {n : Nat} (h : n < l.length) : (dR l).getD n [] = (l.getD n default).d := map_get default h
theorem dC_get {l : List HC} {n : Nat} (h : n < l.length) : (dC l).getD n [] = (l.getD n default).d := map_get default h
theorem dQ_get {l : List HQ} {n : Nat} (h : n < l.length) : (dQ l).getD n [] = (l.getD n default).d := map_get default h
theorem dRL_get {l : List (List Rng)} {n : Nat} (h : n < l.length) : (dRL l).getD n [] = [.sl (dR (l.getD n []))] := map_get [] h
theorem dI_take (l : List Int) (n : Nat) : (dI l).take n = dI (l.take n) := (List.map_take ..).symm
theorem dI_drop (l : List Int) (n : Nat) : (dI l).drop n = dI (l.drop n) := (List.map_drop ..).symm
theorem dL_take (l : List (List Int)) (n : Nat) : (dL l).take n = dL (l.take n) := (List.map_take ..).symm
theorem dL_drop (l : List (List Int)) (n : Nat) : (dL l).drop n = dL (l.drop n) := (List.map_drop ..).symm
theorem dC_take (l : List HC) (n : Nat) : (dC l).take n = dC (l.take n) := (List.map_take ..).symm
theorem dC_drop (l : List HC) (n : Nat) : (dC l).drop n = dC (l.drop n) := (List.map_drop ..).symm
theorem dQ_take (l : List HQ) (n : Nat) : (dQ l).take n = dQ (l.take n) := (List.map_take ..).symm
theorem dQ_drop (l : List HQ) (n : Nat) : (dQ l).drop n = dQ (l.drop n) := (List.map_drop ..).symm
theorem dI_sz (l : List Int) : (∀ e ∈ dI l, e.length = 1) = True := by simp [dI]
theorem dL_sz (l : List (List Int)) : (∀ e ∈ dL l, e.length = 1) = True := by simp [dL]
theorem dW_sz (l : List Nat) : (∀ e ∈ dW l, e.length = 1) = True := by simp [dW]
theorem dR_sz (l : List Rng) : (∀ e ∈ dR l, e.length = 2) = True := by simp [dR]
theorem dC_sz (l : List HC) : (∀ e ∈ dC l, e.length = 2) = True := by simp [dC]
theorem dQ_sz (l : List HQ) : (∀ e ∈ dQ l, e.length = 4) = True := by simp [dQ]
theorem dRL_sz (l : List (List Rng)) : (∀ e ∈ dRL l, e.length = 1) = True := by simp [dRL]
theorem CallP.arg {G : Nat → Option (List D)} {f : FuncId} {args args' : List SV} {r : SV} (h : CallP Tryz.prog G f args' r) (ha : F2 (fun s s' => ∀ (pl : Nat → Option Pl) (ok : Nat → Prop) (w : World) (v : Value), SR pl ok w s v → SR pl ok w s' v) args args') : CallP Tryz.prog G f args r :=
  ⟨h.1, fun O pl w vs h1 h2 h3 h4 => h.2 O pl w vs h1 h2 (by rw [h3, ha.len]) fun i hi => ha.get i (by rw [ha.len]; exact hi) hi _ _ _ _ (h4 i (by rw [ha.len]; exact hi))⟩
theorem dxd (es : List (List D)) (pl : Nat → Option Pl) (ok : Nat → Prop) (w : World) (v : Value) (h : SR pl ok w (.dx es) v) : SR pl ok w (.d (.sl es)) v := by
  cases h with | dx _ a h => exact .d _ _ h
abbrev sxe :=
  And.intro (@Int.toNat_natCast) <|
  And.intro (@dI_take) <|
  And.intro (@dI_drop) <|
  And.intro (@dL_take) <|
  And.intro (@dL_drop) <|
  And.intro (@dC_take) <|
  And.intro (@dC_drop) <|
  And.intro (@dQ_take) <|
  And.intro (@dQ_drop) <|
  And.intro (@dI_sz) <|
  And.intro (@dL_sz) <|
  And.intro (@dW_sz) <|
  And.intro (@dR_sz) <|
  And.intro (@dC_sz) <|
  And.intro (@dQ_sz) <|
  And.intro (@dRL_sz) <|
  And.intro (@dI_len) <|
  And.intro (@dL_len) <|
  And.intro (@dW_len) <|
  And.intro (@dR_len) <|
  And.intro (@dC_len) <|
  And.intro (@dQ_len) <|
  And.intro (@dRL_len) <|
  And.intro (@dI_get) <|
  And.intro (@dL_get) <|
  And.intro (@dW_get) <|
  And.intro (@dR_get) <|
  And.intro (@dC_get) <|
  And.intro (@dQ_get) <|
  And.intro (@dRL_get) <|
  And.intro (@Int.natCast_nonneg) <|
  And.intro (@Int.ofNat_lt) <|
  And.intro (@Int.ofNat_le) <|
  @Int.toNat_natCast
end Go.Proofs.YtijechcadlklhaaGreat
namespace Go.Proofs.YtijechcadlklhaaGreat
open Go.Sy Go.Deep
section
variable {H : Type} {enc : TypeId × Value → H} {P : Program} {W : World} {spare : Nat → Bool}
def DRs (W : World) (ds : List D) (cs : List Value) : Prop := ds.length = cs.length ∧ ∀ j (h : j < ds.length), DR (fun _ => True) W ds[j] (cs.getD j undef)
def Reads {α : Type} (enc : TypeId × Value → H) (P : Program) (W : World) (spare : Nat → Bool) (t : TypeId) (n : Nat) (f : α → List D) : Prop :=
  ∀ fuel cs x, DataW.trod enc P W 0 spare true fuel t cs = some x → ∃ a : α, (f a).length = n ∧ DRs W (f a) cs
theorem reads_int {t : TypeId} (hu : P.underlying t = some (.int .i64)) : Reads enc P W spare t 1 (fun n : Int => [cI n]) := fun fuel cs x h => by
  obtain ⟨n, rfl, _⟩ := DataW.trod_int hu h
  refine ⟨n, rfl, rfl, fun j hj => ?_⟩
  obtain rfl : j = 0 := by simp at hj; omega
  exact DR.lit _ rfl
theorem exists_list {α : Type} {Q : Nat → α → Prop} : ∀ n, (∀ i, i < n → ∃ a, Q i a) → ∃ l : List α, l.length = n ∧ ∀ i (h : i < l.length), Q i l[i]
  | 0, _ => ⟨[], rfl, fun i h => absurd h (Nat.not_lt_zero _)⟩
  | n + 1, h => by
    obtain ⟨l, h1, h2⟩ := exists_list n fun i hi => h i (by omega)
    obtain ⟨a, ha⟩ := h n (by omega)
    refine ⟨l ++ [a], by simp [h1], fun i hi => ?_⟩
    by_cases hil : i < l.length
    · rw [List.getElem_append_left hil]; exact h2 i hil
    · have : i = n := by simp at hi; omega
      subst this
      rw [List.getElem_append_right (by omega)]
      simpa [h1] using ha
theorem cells_get {b : Addr} {n : Nat} {cs : List Value} (h : W.cells? 0 b n = some cs) : cs.length = n ∧ ∀ j, j < n → W.cell? (b.add j) = some (cs.getD j undef) := by
  unfold World.cells? at h
  rw [if_pos (Nat.zero_le _)] at h
  have hl := mapM_some_length h
  rw [List.length_range] at hl
  refine ⟨hl, fun j hj => ?_⟩
  have := mapM_some_get h j j (by simp [hj])
  rw [this, List.getElem?_eq_getElem (by omega)]
  simp [List.getD_eq_getElem?_getD, hl, hj]
theorem cell_some {a : Addr} {v : Value} (h : W.cell? a = some v) : a.spot = none ∧ a.block < W.heap.size := by
  unfold World.cell? at h
  split at h
  · rename_i c e f hc
    split at h
    · cases h
    · rename_i hs
      exact ⟨by simpa using hs, (Array.getElem?_eq_some_iff.1 hc).1⟩
  · cases h
theorem reads_slice {α : Type} {t e : TypeId} {n : Nat} {f : α → List D} (hu : P.underlying t = some (.slice e)) (hc : P.cellsOf e = n) (hn : n ≠ 0) (h : Reads enc P W spare e n f) : Reads enc P W spare t 1 (fun l : List α => [.sl (l.map f)]) := fun fuel cs x hx => by
  rcases open_slice hu hx with ⟨rfl, _⟩ | ⟨a, len, cap, m, n', Dd, Pl, rfl, _, hle, hcap, hm, _, hel⟩
  · refine ⟨[], rfl, rfl, fun j hj => ?_⟩
    obtain rfl : j = 0 := by simp at hj; omega
    exact DR.nil none 0
  · have hlm : len ≤ m := by rw [hm]; split <;> omega
    obtain ⟨l, hl, hq⟩ := exists_list (Q := fun i (p : α × List Value) => W.cells? 0 (a.add (i * n)) n = some p.2 ∧ (f p.1).length = n ∧ DRs W (f p.1) p.2) len (fun i hi => by
      obtain ⟨cs', h1, h2⟩ := hel i (by omega)
      rw [hc] at h1
      obtain ⟨y, h3, h4⟩ := h _ _ _ h2
      exact ⟨(y, cs'), h1, h3, h4⟩)
    refine ⟨l.map (·.1), rfl, rfl, fun j hj => ?_⟩
    obtain rfl : j = 0 := by simp at hj; omega
    show DR (fun _ => True) W (.sl ((l.map (·.1)).map f)) (.slice (some a) len cap)
    by_cases h0 : len = 0
    · subst h0
      obtain rfl := List.length_eq_zero_iff.1 hl
      exact DR.nil _ _
    · have q0 := (cells_get (hq 0 (by omega)).1).2 0 (by omega)
      rw [Nat.zero_mul] at q0
      have ea : (a.add 0).add 0 = a := rfl
      rw [ea] at q0
      obtain ⟨hsp, hbl⟩ := cell_some q0
      obtain ⟨B, off, sp⟩ := a
      simp only at hsp hbl
      subst hsp
      have hlen : ((l.map (·.1)).map f).length = len := by simp [hl]
      rw [← hlen]
      have hget : ∀ i (hi : i < ((l.map (·.1)).map f).length), ((l.map (·.1)).map f)[i] = f (l[i]'(by simpa using hi)).1 := fun i hi => by simp
      refine DR.sl n _ B off cap (fun i j => match l[i]? with | some p => p.2.getD j undef | none => undef) trivial hbl (by rw [hlen]; exact hle) (fun i hi => ?_) (fun i hi j hj => ?_) (fun i hi j hj => ?_)
      · rw [hget i hi]; exact (hq i (by simpa using hi)).2.1
      · have hi' : i < l.length := by simpa using hi
        rw [hget i hi] at hj
        have hjn : j < n := by rw [← (hq i hi').2.1]; exact hj
        have := (cells_get (hq i hi').1).2 j hjn
        rw [addr_add, addr_add] at this
        rw [List.getElem?_eq_getElem hi', ← this, Nat.add_assoc]
      · have hi' : i < l.length := by simpa using hi
        have hj' : j < (f (l[i]).1).length := by rw [← hget i hi]; exact hj
        have := (hq i hi').2.2.2 j hj'
        rw [List.getElem?_eq_getElem hi']
        simp only [hget i hi]
        exact this
theorem DRs.app {a b : List D} {c : List Value} (h1 : DRs W a (c.take a.length)) (h2 : DRs W b (c.drop a.length)) : DRs W (a ++ b) c := by
  obtain ⟨l1, g1⟩ := h1
  obtain ⟨l2, g2⟩ := h2
  rw [List.length_take] at l1
  rw [List.length_drop] at l2
  refine ⟨by rw [List.length_append]; omega, fun j hj => ?_⟩
  by_cases hja : j < a.length
  · rw [List.getElem_append_left hja]
    have := g1 j hja
    have e : (c.take a.length).getD j undef = c.getD j undef := by
      simp [List.getD_eq_getElem?_getD, hja]
    rw [e] at this; exact this
  · rw [List.getElem_append_right (by omega)]
    have := g2 (j - a.length) (by rw [List.length_append] at hj; omega)
    have e : (c.drop a.length).getD (j - a.length) undef = c.getD j undef := by
      simp only [List.getD_eq_getElem?_getD, List.getElem?_drop]
      congr 2; omega
    rw [e] at this; exact this
def Tile (W : World) (cs : List Value) : Nat → List (List D) → Prop
  | off, [] => cs.length = off
  | off, ds :: r => DRs W ds ((cs.drop off).take ds.length) ∧ Tile W cs (off + ds.length) r
theorem Tile.drs {cs : List Value} : ∀ (L : List (List D)) (off : Nat), Tile W cs off L → DRs W L.flatten (cs.drop off)
  | [], off, h => ⟨by rw [List.length_drop, show cs.length = off from h]; simp, fun j hj => absurd hj (Nat.not_lt_zero _)⟩
  | ds :: r, off, ⟨h1, h2⟩ => by
    have := Tile.drs r _ h2
    rw [List.flatten_cons]
    exact DRs.app h1 (by rw [List.drop_drop]; exact this)
theorem open_fields {t : TypeId} {cs : List Value} {fuel : Nat} {x : DataW H × List MemPlace} (L : List (TypeId × Nat)) (hu : (match P.underlying t with | some (.struct fs) => fs.toList.map (fun f => (f.type, f.offset)) | _ => []) = L) (hL : L ≠ [])
    (h : DataW.trod enc P W 0 spare true fuel t cs = some x) : cs.length = P.cellsOf t ∧ ∃ n : Nat, ∀ (i : Nat) (t' : TypeId) (o : Nat), L[i]? = some (t', o) → ∃ y, DataW.trod enc P W 0 spare true n t' ((cs.drop o).take (P.cellsOf t')) = some y := by
  split at hu
  · rename_i fs hfs
    obtain ⟨xs, n, _, _, h1, h2, h3⟩ := DataW.trod_struct hfs h
    refine ⟨h1, n, fun i t' o hi => ?_⟩
    rw [← hu, List.getElem?_map] at hi
    obtain ⟨f, hf, he⟩ := Option.map_eq_some_iff.1 hi
    simp only [Prod.mk.injEq] at he
    obtain ⟨rfl, rfl⟩ := he
    rw [Array.getElem?_toList] at hf
    have hlt : i < xs.length := by rw [h2]; exact (Array.getElem?_eq_some_iff.1 hf).1
    exact ⟨xs[i], by rw [h3 i f hf, List.getElem?_eq_getElem hlt]⟩
  · exact absurd hu.symm hL
end
end Go.Proofs.YtijechcadlklhaaGreat
namespace Go.Proofs.YtijechcadlklhaaGreat
open Go.Sy Go.Deep Go.ChangeShapes Go.WideShapes Go.ChangeAt Go.WideElems Go.RowKit
section
variable {H : Type} {enc : TypeId × Value → H} {W W' : World} {spare : Nat → Bool}
abbrev RI (enc : TypeId × Value → H) (W : World) (spare : Nat → Bool) : Reads enc Tryz.prog W spare 3 1 (fun n : Int => [cI n]) := reads_int (by kernel_rfl)
theorem rdCell : Reads enc Tryz.prog W spare 41 2 HC.d := fun fuel cs x h => by
  obtain ⟨hl, n, hf⟩ := open_fields [(3, 0), (3, 1)] (by kernel_rfl) (by simp) h
  obtain ⟨y0, h0⟩ := hf 0 3 0 rfl
  obtain ⟨y1, h1⟩ := hf 1 3 1 rfl
  obtain ⟨a, la, da⟩ := RI enc W spare _ _ _ h0
  obtain ⟨b, lb, db⟩ := RI enc W spare _ _ _ h1
  have hc3 : Tryz.prog.cellsOf 3 = 1 := by kernel_rfl
  rw [hc3] at da db
  rw [show Tryz.prog.cellsOf 41 = 2 by kernel_rfl] at hl
  exact ⟨⟨a, b⟩, rfl, Tile.drs [[cI a], [cI b]] 0 ⟨da, db, hl⟩⟩
theorem rdCells : Reads enc Tryz.prog W spare 25 1 (fun l : List HC => [.sl (l.map HC.d)]) := reads_slice (e := 41) (n := 2) (by kernel_rfl) (by kernel_rfl) (by decide) rdCell
theorem rdI : Reads enc Tryz.prog W spare 44 1 (fun l : List Int => [.sl (l.map fun n => [cI n])]) := reads_slice (e := 3) (n := 1) (by kernel_rfl) (by kernel_rfl) (by decide) (RI enc W spare)
theorem rdL : Reads enc Tryz.prog W spare 22 1 (fun l : List (List Int) => [.sl (l.map fun l => [.sl (l.map fun n => [cI n])])]) := reads_slice (e := 44) (n := 1) (by kernel_rfl) (by kernel_rfl) (by decide) rdI
theorem rdT : Reads enc Tryz.prog W spare 24 2 (fun t : HT => [.sl (dL t.rows), cI t.cap]) := fun fuel cs x h => by
  obtain ⟨hl, n, hf⟩ := open_fields [(22, 0), (3, 1)] (by kernel_rfl) (by simp) h
  obtain ⟨y0, h0⟩ := hf 0 22 0 rfl
  obtain ⟨y1, h1⟩ := hf 1 3 1 rfl
  obtain ⟨a, la, da⟩ := rdL _ _ _ h0
  obtain ⟨b, lb, db⟩ := RI enc W spare _ _ _ h1
  rw [show Tryz.prog.cellsOf 22 = 1 by kernel_rfl] at da
  rw [show Tryz.prog.cellsOf 3 = 1 by kernel_rfl] at db
  rw [show Tryz.prog.cellsOf 24 = 2 by kernel_rfl] at hl
  exact ⟨⟨a, b⟩, rfl, Tile.drs [[.sl (dL a)], [cI b]] 0 ⟨da, db, hl⟩⟩
theorem agg_of {ds : List D} {v : Value} {pl : Nat → Option Pl} (h1 : ds.length ≠ 1) (h : DRs W ds v.cells.toList) : SR pl (fun B => ¬ False) W (.agg (ds.map .d)) v := by
  obtain ⟨hl, hd⟩ := h
  cases v
  case agg vs =>
    refine SR.agg _ _ (by simpa [Value.cells] using hl.symm) fun i hi => ?_
    rw [List.getElem_map]
    refine SR.d _ _ ?_
    have := hd i (by simpa using hi)
    simp only [Value.cells] at this
    have e : vs.toList.getD i undef = vs.getD i undef := by simp [List.getD_eq_getElem?_getD]
    rw [e] at this
    exact this.ext (Ext.weak fun _ _ _ h => h)
  all_goals exact absurd hl (by simpa [Value.cells] using h1)
theorem one_of {x : D} {v : Value} {pl : Nat → Option Pl} (hc : v.cells.toList = [v]) (h : DRs W [x] v.cells.toList) : SR pl (fun B => ¬ False) W (.d x) v := by
  obtain ⟨_, hd⟩ := h
  have := hd 0 (by simp)
  rw [hc] at this
  exact SR.d _ _ (this.ext (Ext.weak fun _ _ _ h => h))
theorem Tryz.ownK : ownKnob Tryz.prog.godebug = none := by kernel_rfl
theorem Tryz.laidOutK : laidOutB Tryz.prog = true := by kernel_rfl
theorem sameAt_add (h : Add W W') {p : MemPlace} (hp : p.block < W.heap.size) : W.sameAt W' p := by
  cases p with
  | cell b off => show W'.cell? ⟨b, off, none⟩ = W.cell? ⟨b, off, none⟩; unfold World.cell?; rw [h.keep b hp]
  | map b => exact h.keep b hp
theorem kept_add (h : Add W W') (may : MemPlace → Prop) : W.keptBut W' may :=
  ⟨h.os, h.out, fun i hi => by rw [h.keep i hi]; exact (World.keptBut_refl W may).2.2 i hi⟩
theorem trodAll_stays {sp' : Nat → Bool} : ∀ {ts : List TypeId} {vs : List Value} {ds : List (DataW H)} {ps : List MemPlace}, (∀ t ∈ ts, Tryz.prog.readableRec t = true ∧ t < Tryz.prog.types.size) →
    DataW.TrodAll enc Tryz.prog W 0 (fun _ => true) true ts vs ds ps → (∀ p ∈ ps, W.sameAt W' p) → (∀ p ∈ ps, sp' p.block = true) → DataW.TrodAll enc Tryz.prog W' 0 sp' true ts vs ds ps
  | [], [], [], _, _, h, _, _ => h
  | t :: ts, v :: vs, d :: ds, _, ht, ⟨p, q, h1, h2, e⟩, hs, hb => by
    subst e
    have h0 := ht t (List.mem_cons_self ..)
    exact ⟨p, q, Trod_stays Tryz.laidOutK h0.1 h0.2 h1 (fun x hx => hs x (List.mem_append_left _ hx)) (fun x hx => hb x (List.mem_append_left _ hx)),
      trodAll_stays (fun t hh => ht t (List.mem_cons_of_mem _ hh)) h2 (fun x hx => hs x (List.mem_append_right _ hx)) (fun x hx => hb x (List.mem_append_right _ hx)), rfl⟩
theorem post_true {fn : Func} {s : ChangeSpec} {args : Array Value} {ds gs : List (DataW H)} {before : List MemPlace} (hv : s.vars = []) (hres : fn.resultTypes = #[4])
    (hpar : ∀ t ∈ fn.params.toList, Tryz.prog.readableRec t = true ∧ t < Tryz.prog.types.size)
    (hW : DataW.Whole enc Tryz.prog fn.params.toList s.vars false W args.toList ds gs before) (hf : s.fn H ds = { results := [.lit (.bool true)], args := ds }) (ha : Add W W') :
    s.post enc Tryz.prog fn false true false false W args (.bool true) W' := by
  have hW0 := hW
  obtain ⟨p, q, h1, h2, e, hz, hn⟩ := hW
  have h4 : Tryz.prog.underlying 4 = some .bool := by kernel_rfl
  rw [hv] at h2
  have hgs : gs = [] ∧ q = [] := trodVars_none h2
  obtain ⟨rfl, rfl⟩ := hgs
  have hlt := hW0.lt
  have hb : ∀ p ∈ before, (fun b => decide (b < W.heap.size)) p.block = true := fun p hp => by simpa using hlt p hp
  rw [List.append_nil] at e
  subst e
  have hr : (Value.bool true).resultList fn.resultTypes.size = [.bool true] := by rw [hres]; rfl
  refine ⟨ds, [], before, [], before, [], hW0, ?_, ?_, ?_, ?_, fun hh => by cases hh⟩
  · rw [List.append_nil, hf, hr, hres]
    exact trodAll_mk1 (shut_bool h4 true)
  · rw [List.append_nil, hf]
    exact trodAll_stays hpar h1 (fun x hx => sameAt_add ha (hlt x hx)) hb
  · rw [List.append_nil, hf, hv]
    exact (rfl : ([] : List MemPlace) = [])
  · exact kept_add ha _
end
end Go.Proofs.YtijechcadlklhaaGreat
namespace Go.Proofs.YtijechcadlklhaaGreat
open Go.Sy Go.Deep
section
variable {H : Type} {enc : TypeId × Value → H} {P : Program} {W : World} {spare : Nat → Bool}
theorem reads_u16 {t : TypeId} (hu : P.underlying t = some (.int .u16)) : Reads enc P W spare t 1 (fun n : Fin 65536 => [.lit (.int .u16 (n.val : Nat))]) := fun fuel cs x h => by
  obtain ⟨n, rfl, _, hw⟩ := DataW.trod_int hu h
  have hb := Go.bounds_u16 hw
  refine ⟨⟨n.toNat, by omega⟩, rfl, rfl, fun j hj => ?_⟩
  obtain rfl : j = 0 := by simp at hj; omega
  show DR _ W (.lit (.int .u16 ((n.toNat : Nat) : Int))) (.int .u16 n)
  rw [show ((n.toNat : Nat) : Int) = n by omega]
  exact DR.lit _ rfl
theorem rdW : Reads enc Tryz.prog W spare 72 1 (fun l : List (Fin 65536) => [.sl (l.map fun n => [.lit (.int .u16 (n.val : Nat))])]) := reads_slice (e := 64) (n := 1) (by kernel_rfl) (by kernel_rfl) (by decide) (reads_u16 (by kernel_rfl))
theorem words_of {fuel : Nat} {v : Value} {x : DataW H × List MemPlace} {pl : Nat → Option Pl} (hc : v.cells.toList = [v]) (h : DataW.trod enc Tryz.prog W 0 spare true fuel 72 v.cells.toList = some x) : ∃ l : List Nat, (∀ n ∈ l, n < 65536) ∧ SR pl (fun B => ¬ False) W (SW l) v := by
  obtain ⟨l, _, h1⟩ := rdW _ _ _ h
  refine ⟨l.map (·.val), fun n hn => ?_, ?_⟩
  · obtain ⟨m, _, rfl⟩ := List.mem_map.1 hn; exact m.isLt
  · rw [show SW (l.map (·.val)) = .d (.sl (l.map fun n => [.lit (.int .u16 (n.val : Nat))])) by simp [dW]]
    exact one_of hc h1
end
end Go.Proofs.YtijechcadlklhaaGreat
namespace Go.Proofs.YtijechcadlklhaaGreat
def HW.sat (w : HW) (q : HQ) : Bool := decide (w.lo q.cell.row.toNat q.cell.col.toNat ≤ cellAt w.rows q.cell.row.toNat q.cell.col.toNat - q.below) && decide (w.hi q.cell.row.toNat q.cell.col.toNat ≥ cellAt w.rows q.cell.row.toNat q.cell.col.toNat + q.above)
def HT.okQ (t : HT) (q : HQ) : Bool := t.isCell q.cell && inR q.below 0 1000 && inR q.above 0 1000
theorem HidOk.ext {n m : Nat} : ∀ {l l' : List HC}, HidOk n m l → HidOk n m l' → m ≤ 4 → (∀ c, c ∈ l ↔ c ∈ l') → l = l'
  | [], [], _, _, _, _ => rfl
  | [], x :: l', _, _, _, h => absurd ((h x).2 List.mem_cons_self) (by simp)
  | x :: l, [], _, _, _, h => absurd ((h x).1 List.mem_cons_self) (by simp)
  | x :: l, y :: l', hl, hl', hm, h => by
    have h1 := List.pairwise_cons.1 hl.lt
    have h2 := List.pairwise_cons.1 hl'.lt
    have hx := (h x).1 List.mem_cons_self
    have hy := (h y).2 List.mem_cons_self
    have e : x = y := by
      rcases List.mem_cons.1 hx with hx | hx
      · exact hx
      · rcases List.mem_cons.1 hy with hy | hy
        · exact hy.symm
        · have a := h1.1 y hy
          have b := h2.1 x hx
          omega
    subst e
    congr 1
    refine HidOk.ext ⟨fun c hc => hl.cell c (List.mem_cons_of_mem _ hc), h1.2⟩ ⟨fun c hc => hl'.cell c (List.mem_cons_of_mem _ hc), h2.2⟩ hm fun c => ⟨fun hc => ?_, fun hc => ?_⟩
    · rcases List.mem_cons.1 ((h c).1 (List.mem_cons_of_mem _ hc)) with rfl | h'
      · exact absurd (h1.1 c hc) (by omega)
      · exact h'
    · rcases List.mem_cons.1 ((h c).2 (List.mem_cons_of_mem _ hc)) with rfl | h'
      · exact absurd (h2.1 c hc) (by omega)
      · exact h'
def gridC (n m : Nat) : List HC := (List.range n).flatMap fun r => (List.range m).map fun c => ⟨(r : Nat), (c : Nat)⟩
theorem mem_gridC {n m : Nat} {c : HC} : c ∈ gridC n m ↔ 0 ≤ c.row ∧ c.row < n ∧ 0 ≤ c.col ∧ c.col < m := by
  unfold gridC
  rw [List.mem_flatMap]
  constructor
  · rintro ⟨r, hr, h⟩
    obtain ⟨k, hk, rfl⟩ := List.mem_map.1 h
    rw [List.mem_range] at hr hk
    simp only
    omega
  · intro h
    refine ⟨c.row.toNat, List.mem_range.2 (by omega), List.mem_map.2 ⟨c.col.toNat, List.mem_range.2 (by omega), ?_⟩⟩
    cases c
    simp only at h ⊢
    congr 1 <;> omega
theorem pairwise_range_lt : ∀ n, (List.range n).Pairwise (· < ·) := fun n => List.pairwise_lt_range
theorem gridC_ok {n m : Nat} (hm : m ≤ 4) : HidOk n m (gridC n m) := by
  refine ⟨fun c hc => mem_gridC.1 hc, ?_⟩
  unfold gridC
  rw [List.pairwise_flatMap]
  refine ⟨fun r _ => ?_, ?_⟩
  · rw [List.pairwise_map]
    exact (pairwise_range_lt m).imp fun {a b} h => by simp [HC.key]; omega
  · refine (pairwise_range_lt n).imp fun {a b} h x hx y hy => ?_
    obtain ⟨i, hi, rfl⟩ := List.mem_map.1 hx
    obtain ⟨j, hj, rfl⟩ := List.mem_map.1 hy
    rw [List.mem_range] at hi hj
    simp [HC.key]
    omega
theorem HidOk.filter {n m : Nat} {l : List HC} (h : HidOk n m l) (p : HC → Bool) : HidOk n m (l.filter p) :=
  ⟨fun c hc => h.cell c (List.mem_filter.1 hc).1, h.lt.filter p⟩
theorem HidOk.nodup {n m : Nat} {l : List HC} (h : HidOk n m l) : l.Nodup := h.lt.imp fun {a b} h e => by subst e; omega
end Go.Proofs.YtijechcadlklhaaGreat
namespace Go.Proofs.YtijechcadlklhaaGreat
def insR (x : HC) : List HC → List HC
  | [] => [x]
  | y :: l => if x.cmp y < 0 then y :: insR x l else x :: y :: l
def isort8 (l : List HC) : List HC := (l.foldl (fun acc x => insR x acc) []).reverse
theorem mem_insR {x c : HC} : ∀ {l : List HC}, c ∈ insR x l ↔ c = x ∨ c ∈ l
  | [] => by simp [insR]
  | y :: l => by
    unfold insR
    split
    · simp only [List.mem_cons, mem_insR (l := l)]
      constructor
      · rintro (h | h | h) <;> simp [h]
      · rintro (h | h | h) <;> simp [h]
    · simp
theorem insR_len {x : HC} : ∀ {l : List HC}, (insR x l).length = l.length + 1
  | [] => rfl
  | y :: l => by
    unfold insR
    split
    · simp [insR_len (l := l)]
    · simp
theorem insR_sorted {x : HC} (hx : 0 ≤ x.row ∧ 0 ≤ x.col ∧ x.col < 4) : ∀ {l : List HC}, (∀ c ∈ l, 0 ≤ c.row ∧ 0 ≤ c.col ∧ c.col < 4) → x ∉ l → l.Pairwise (fun a b => b.key < a.key) → (insR x l).Pairwise (fun a b => b.key < a.key)
  | [], _, _, _ => by simp [insR]
  | y :: l, hv, hn, hp => by
    have hy := hv y List.mem_cons_self
    have h1 := List.pairwise_cons.1 hp
    unfold insR
    split
    · rename_i h
      rw [cmp_key hx hy] at h
      refine .cons (fun c hc => ?_) (insR_sorted hx (fun c hc => hv c (List.mem_cons_of_mem _ hc)) (fun h => hn (List.mem_cons_of_mem _ h)) h1.2)
      rcases mem_insR.1 hc with rfl | hc
      · exact h
      · exact h1.1 c hc
    · rename_i h
      rw [cmp_key hx hy] at h
      have hne : x.key ≠ y.key := by
        intro e
        apply hn
        have : x = y := by
          cases x; cases y
          simp only [HC.key] at e hx hy
          congr 1 <;> omega
        rw [this]; exact List.mem_cons_self
      refine .cons (fun c hc => ?_) hp
      rcases List.mem_cons.1 hc with rfl | hc
      · omega
      · have := h1.1 c hc; omega
theorem foldR_law : ∀ {l acc : List HC}, (∀ c ∈ l ++ acc, 0 ≤ c.row ∧ 0 ≤ c.col ∧ c.col < 4) → (l ++ acc).Nodup → acc.Pairwise (fun a b => b.key < a.key) →
    (l.foldl (fun acc x => insR x acc) acc).Pairwise (fun a b => b.key < a.key) ∧ ∀ c, c ∈ l.foldl (fun acc x => insR x acc) acc ↔ c ∈ l ∨ c ∈ acc
  | [], acc, _, _, hp => ⟨hp, fun c => by simp⟩
  | x :: l, acc, hv, hd, hp => by
    have hd' := List.nodup_cons.1 hd
    have ih := foldR_law (l := l) (acc := insR x acc) (fun c hc => by
      rcases List.mem_append.1 hc with h | h
      · exact hv c (List.mem_append.2 (.inl (List.mem_cons_of_mem _ h)))
      · rcases mem_insR.1 h with rfl | h
        · exact hv c (by simp)
        · exact hv c (List.mem_append.2 (.inr h))) (by
      have h2 := List.nodup_append.1 hd'.2
      rw [List.nodup_append]
      refine ⟨h2.1, ?_, fun a ha b hb e => ?_⟩
      · have := insR_sorted (hv x (by simp)) (fun c hc => hv c (List.mem_append.2 (.inr hc))) (fun h => hd'.1 (List.mem_append.2 (.inr h))) hp
        exact this.imp fun {a b} h e => by subst e; omega
      · subst e
        rcases mem_insR.1 hb with rfl | h
        · exact hd'.1 (List.mem_append.2 (.inl ha))
        · exact h2.2.2 a ha a h rfl)
      (insR_sorted (hv x (by simp)) (fun c hc => hv c (List.mem_append.2 (.inr hc))) (fun h => hd'.1 (List.mem_append.2 (.inr h))) hp)
    refine ⟨ih.1, fun c => ?_⟩
    show c ∈ l.foldl (fun acc x => insR x acc) (insR x acc) ↔ _
    rw [ih.2 c, mem_insR, List.mem_cons]
    constructor
    · rintro (h | h | h) <;> simp [h]
    · rintro ((h | h) | h) <;> simp [h]
theorem isort8_ok {n m : Nat} {l : List HC} (hm : m ≤ 4) (hv : ∀ c ∈ l, 0 ≤ c.row ∧ c.row < n ∧ 0 ≤ c.col ∧ c.col < m) (hd : l.Nodup) : HidOk n m (isort8 l) ∧ ∀ c, c ∈ isort8 l ↔ c ∈ l := by
  have h := foldR_law (l := l) (acc := []) (fun c hc => by
    have := hv c (by simpa using hc)
    omega) (by simpa using hd) .nil
  have hmem : ∀ c, c ∈ isort8 l ↔ c ∈ l := fun c => by
    unfold isort8
    rw [List.mem_reverse, h.2 c]
    simp
  refine ⟨⟨fun c hc => hv c ((hmem c).1 hc), ?_⟩, hmem⟩
  unfold isort8
  rw [List.pairwise_reverse]
  exact h.1
theorem foldR_len : ∀ (l acc : List HC), (l.foldl (fun acc x => insR x acc) acc).length = l.length + acc.length
  | [], acc => by simp
  | x :: l, acc => by rw [List.foldl_cons, foldR_len l, insR_len, List.length_cons]; omega
theorem isort8_len (l : List HC) : (isort8 l).length = l.length := by
  unfold isort8
  rw [List.length_reverse, foldR_len]
  simp
def cmpLS : List HC → List HC → Int
  | [], [] => 0
  | [], _ :: _ => -1
  | _ :: _, [] => 1
  | a :: l, b :: l' => if a.cmp b ≠ 0 then a.cmp b else cmpLS l l'
theorem cmp_self (a : HC) : a.cmp a = 0 := by simp [HC.cmp, cmpI8]
theorem cmp_zero {a b : HC} (h : a.cmp b = 0) : a = b := by
  unfold HC.cmp cmpI8 at h
  cases a; cases b
  simp only at h
  congr 1
  · split at h <;> (repeat' split at h) <;> omega
  · split at h <;> (repeat' split at h) <;> omega
theorem cmp_anti (a b : HC) : b.cmp a = - a.cmp b := by
  unfold HC.cmp cmpI8
  (repeat' split) <;> omega
theorem cmp_neg {a b : HC} : a.cmp b < 0 ↔ a.row < b.row ∨ (a.row = b.row ∧ a.col < b.col) := by
  have e : ∀ x y : Int, (cmpI8 x y ≠ 0 ↔ x ≠ y) ∧ (cmpI8 x y < 0 ↔ x < y) := by
    intro x y
    unfold cmpI8
    split
    · omega
    · split <;> omega
  unfold HC.cmp
  by_cases h : cmpI8 a.row b.row ≠ 0
  · rw [if_pos h, (e _ _).2]
    have := (e _ _).1.1 h
    omega
  · rw [if_neg h, (e _ _).2]
    have := mt (e _ _).1.2 h
    omega
theorem cmp_trans {a b c : HC} (h1 : a.cmp b < 0) (h2 : b.cmp c < 0) : a.cmp c < 0 := by
  rw [cmp_neg] at *
  omega
theorem cmpLS_self : ∀ l, cmpLS l l = 0
  | [] => rfl
  | a :: l => by rw [cmpLS, if_neg (by simp [cmp_self]), cmpLS_self l]
theorem cmpLS_anti : ∀ l l', cmpLS l' l = - cmpLS l l'
  | [], [] => rfl
  | [], _ :: _ => rfl
  | _ :: _, [] => rfl
  | a :: l, b :: l' => by
    rw [cmpLS, cmpLS, cmp_anti a b]
    by_cases h : a.cmp b = 0
    · rw [if_neg (by omega), if_neg (by omega), cmpLS_anti l l']
    · rw [if_pos (by omega), if_pos h]
theorem cmpLS_trans : ∀ {l1 l2 l3 : List HC}, cmpLS l1 l2 ≤ 0 → cmpLS l2 l3 ≤ 0 → cmpLS l1 l3 ≤ 0
  | [], _, [], _, _ => by simp [cmpLS]
  | [], _, _ :: _, _, _ => by simp [cmpLS]
  | _ :: _, [], _, h, _ => by simp [cmpLS] at h
  | _ :: _, _ :: _, [], _, h => by simp [cmpLS] at h
  | a :: l1, b :: l2, c :: l3, h1, h2 => by
    rw [cmpLS] at h1 h2 ⊢
    by_cases e1 : a.cmp b = 0
    · rw [if_neg (by omega)] at h1
      have := cmp_zero e1
      subst this
      by_cases e2 : a.cmp c = 0
      · rw [if_neg (by omega)] at h2 ⊢
        exact cmpLS_trans h1 h2
      · rw [if_pos e2] at h2 ⊢; exact h2
    · rw [if_pos e1] at h1
      by_cases e2 : b.cmp c = 0
      · have := cmp_zero e2
        subst this
        rw [if_pos e1]; exact h1
      · rw [if_pos e2] at h2
        have := cmp_trans (a := a) (b := b) (c := c) (by omega) (by omega)
        rw [if_pos (by omega)]; omega
def subTo (F : List HC) (bits : Nat) : Nat → List HC
  | 0 => []
  | k + 1 => subTo F bits k ++ if bits.testBit k then [F.getD k default] else []
def subB (F : List HC) (bits : Nat) : List HC := subTo F bits F.length
theorem subTo_cons (x : HC) (F : List HC) (b : Nat) : ∀ k, subTo (x :: F) b (k + 1) = (if b.testBit 0 then [x] else []) ++ subTo F (b / 2) k
  | 0 => by simp [subTo]
  | k + 1 => by
    rw [subTo, subTo_cons x F b k, subTo, List.append_assoc, Nat.testBit_succ]
    simp
theorem subB_cons (x : HC) (F : List HC) (b : Nat) : subB (x :: F) b = (if b.testBit 0 then [x] else []) ++ subB F (b / 2) := subTo_cons x F b _
theorem subB_sublist : ∀ (F : List HC) (b : Nat), (subB F b).Sublist F
  | [], b => by simp [subB, subTo]
  | x :: F, b => by
    rw [subB_cons]
    split
    · exact .cons_cons x (subB_sublist F _)
    · simpa using List.Sublist.cons x (subB_sublist F (b / 2))
def stepB (F : List HC) (g : List HC → Bool) (W : List HC → List HC) (many : Nat) (st : List HC × Bool) (b : Nat) : List HC × Bool :=
  if (!decide ((subB F b).length = many) || (st.2 && decide (cmpLS (W (subB F b)) (W st.1) > 0))) = true then st else if g (subB F b) then (subB F b, true) else st
def innerB (F : List HC) (g : List HC → Bool) (W : List HC → List HC) (many : Nat) : Nat → List HC × Bool
  | 0 => ([], false)
  | k + 1 => stepB F g W many (innerB F g W many k) k
def bestG (F : List HC) (g : List HC → Bool) (W : List HC → List HC) : Nat → Nat → List HC
  | 0, _ => []
  | r + 1, many => if (innerB F g W many (2 ^ F.length)).2 then (innerB F g W many (2 ^ F.length)).1 else bestG F g W r (many + 1)
theorem inner_law {F : List HC} {g : List HC → Bool} {W : List HC → List HC} {many : Nat} : ∀ k,
    ((innerB F g W many k).2 = false → (innerB F g W many k).1 = [] ∧ ∀ b, b < k → ¬ ((subB F b).length = many ∧ g (subB F b) = true)) ∧
    ((innerB F g W many k).2 = true → ∃ b, b < k ∧ (subB F b).length = many ∧ g (subB F b) = true ∧ (innerB F g W many k).1 = subB F b ∧
      ∀ b', b' < k → (subB F b').length = many → g (subB F b') = true → cmpLS (W (subB F b)) (W (subB F b')) ≤ 0)
  | 0 => ⟨fun _ => ⟨rfl, fun b h => absurd h (Nat.not_lt_zero _)⟩, fun h => (by cases h)⟩
  | k + 1 => by
    have ih := inner_law (F := F) (g := g) (W := W) (many := many) k
    rw [innerB]
    generalize hst : innerB F g W many k = st at ih
    obtain ⟨l, is⟩ := st
    unfold stepB
    by_cases hc : (!decide ((subB F k).length = many) || (is && decide (cmpLS (W (subB F k)) (W l) > 0))) = true
    · rw [if_pos hc]
      simp only [Bool.or_eq_true, Bool.not_eq_true', decide_eq_false_iff_not, Bool.and_eq_true, decide_eq_true_eq] at hc
      refine ⟨fun h => ⟨(ih.1 h).1, fun b hb => ?_⟩, fun h => ?_⟩
      · by_cases e : b = k
        · subst e
          rcases hc with hc | hc
          · exact fun h' => hc h'.1
          · have : is = false := h
            rw [this] at hc; cases hc.1
        · exact (ih.1 h).2 b (by omega)
      · obtain ⟨b, h1, h2, h3, h4, h5⟩ := ih.2 h
        refine ⟨b, by omega, h2, h3, h4, fun b' hb' hl hg => ?_⟩
        by_cases e : b' = k
        · subst e
          rcases hc with hc | hc
          · exact absurd hl hc
          · have h4' : l = subB F b := h4
            have := hc.2
            rw [h4', cmpLS_anti] at this
            omega
        · exact h5 b' (by omega) hl hg
    · rw [if_neg hc]
      simp only [Bool.or_eq_true, Bool.not_eq_true', decide_eq_false_iff_not, Bool.and_eq_true, decide_eq_true_eq, not_or, not_and] at hc
      by_cases hg : g (subB F k) = true
      · rw [if_pos hg]
        refine ⟨fun h => (by cases h), fun _ => ⟨k, by omega, by have := hc.1; simpa using this, hg, rfl, fun b' hb' hl hg' => ?_⟩⟩
        by_cases e : b' = k
        · subst e; rw [cmpLS_self]; exact Int.le_refl _
        · cases his : is with
          | false => exact absurd ⟨hl, hg'⟩ ((ih.1 his).2 b' (by omega))
          | true =>
            obtain ⟨b, h1, h2, h3, h4, h5⟩ := ih.2 his
            have h6 := hc.2 his
            have h4' : l = subB F b := h4
            rw [h4'] at h6
            exact cmpLS_trans (by omega) (h5 b' (by omega) hl hg')
      · rw [if_neg hg]
        refine ⟨fun h => ⟨(ih.1 h).1, fun b hb => ?_⟩, fun h => ?_⟩
        · by_cases e : b = k
          · subst e; exact fun h' => hg h'.2
          · exact (ih.1 h).2 b (by omega)
        · obtain ⟨b, h1, h2, h3, h4, h5⟩ := ih.2 h
          refine ⟨b, by omega, h2, h3, h4, fun b' hb' hl hg' => ?_⟩
          by_cases e : b' = k
          · subst e; exact absurd hg' hg
          · exact h5 b' (by omega) hl hg'
end Go.Proofs.YtijechcadlklhaaGreat
namespace Go.Proofs.YtijechcadlklhaaGreat
def HT.n (t : HT) : Nat := t.rows.length
def HT.m (t : HT) : Nat := (t.rows.getD 0 []).length
def HW.mark (w : HW) (l : List HC) (b : Bool) : HW := { w with hid := l.foldl (fun h c => h.set c.key b) w.hid }
def HW.cells (w : HW) : List HC := (gridC w.rows.length (w.rows.getD 0 []).length).filter fun c => w.h c.row.toNat c.col.toNat
def HW.free (w : HW) : List HC := (gridC w.rows.length (w.rows.getD 0 []).length).filter fun c => !w.h c.row.toNat c.col.toNat
def HW.with (w : HW) (l : List HC) : List HC := isort8 (l ++ w.cells)
def HW.good (w : HW) (q : List HQ) : Bool := q.all w.sat
def HW.best (w : HW) (F : List HC) (q : List HQ) : List HC := bestG F (fun l => (w.mark l true).good q) w.with (F.length + 1) 0
def HT.hide (t : HT) (l : List HC) (q : List HQ) : List HC × Int :=
  if ((t.w l).mark (t.w l).free true).good q = true then ((t.w l).with ((t.w l).best (t.w l).free q), 0) else ([], 11)
theorem foldSet_len (b : Bool) : ∀ (l : List HC) (h : List Bool), (l.foldl (fun h c => h.set c.key b) h).length = h.length
  | [], h => rfl
  | c :: l, h => by rw [List.foldl_cons, foldSet_len b l, List.length_set]
theorem foldSet_get (b : Bool) : ∀ (l : List HC) (h : List Bool) (j : Nat), j < h.length → (l.foldl (fun h c => h.set c.key b) h).getD j false = if l.any (fun c => decide (c.key = j)) then b else h.getD j false
  | [], h, j, _ => by simp
  | c :: l, h, j, hj => by
    rw [List.foldl_cons, foldSet_get b l _ j (by rw [List.length_set]; exact hj), List.any_cons]
    by_cases e : c.key = j
    · subst e
      rw [List.getD_eq_getElem?_getD (l := h.set c.key b), List.getElem?_set_self hj]
      simp
    · rw [List.getD_eq_getElem?_getD (l := h.set c.key b), List.getElem?_set_ne e, ← List.getD_eq_getElem?_getD]
      simp [e]
theorem list_ext_getD {l l' : List Bool} (h : l.length = l'.length) (hg : ∀ j, j < l.length → l.getD j false = l'.getD j false) : l = l' := by
  refine List.ext_getElem h fun j h1 h2 => ?_
  have := hg j h1
  simpa [List.getD_eq_getElem?_getD, h1, h2] using this
theorem mark_eq {t : HT} {n m : Nat} {l s S : List HC} (hn : n ≤ 3) (hm : m ≤ 4) (hS : HidOk n m S) (hs : ∀ c, c ∈ S ↔ c ∈ s ∨ c ∈ l) : (t.w l).mark s true = t.w S := by
  unfold HW.mark HT.w
  simp only [HW.mk.injEq, true_and]
  have hl12 := marks_len l l.length
  refine list_ext_getD (by rw [foldSet_len, marks_len, marks_len]) fun j hj => ?_
  rw [foldSet_len, hl12] at hj
  rw [foldSet_get _ _ _ _ (by rw [hl12]; exact hj)]
  have e : ∀ a b : Bool, (a = true ↔ b = true) → a = b := by intro a b; cases a <;> cases b <;> simp
  apply e
  rw [marks_get S _ (Nat.le_refl _) j hj]
  have k1 : (∃ i, i < S.length ∧ (S.getD i default).key = j) ↔ ∃ c ∈ S, c.key = j := by
    constructor
    · rintro ⟨i, hi, h⟩; exact ⟨_, getD_mem' default hi, h⟩
    · rintro ⟨c, hc, h⟩
      obtain ⟨i, hi, e⟩ := mem_getD' hc
      exact ⟨i, hi, by rw [e]; exact h⟩
  have k2 : ((marksTo l l.length).getD j false = true) ↔ ∃ c ∈ l, c.key = j := by
    rw [marks_get l _ (Nat.le_refl _) j hj]
    constructor
    · rintro ⟨i, hi, h⟩; exact ⟨_, getD_mem' default hi, h⟩
    · rintro ⟨c, hc, h⟩
      obtain ⟨i, hi, e⟩ := mem_getD' hc
      exact ⟨i, hi, by rw [e]; exact h⟩
  rw [k1]
  split
  · rename_i ha
    obtain ⟨c, hc, h⟩ := List.any_eq_true.1 ha
    simp only [true_iff]
    exact ⟨c, (hs c).2 (.inl hc), by simpa using h⟩
  · rename_i ha
    rw [k2]
    constructor
    · rintro ⟨c, hc, h⟩; exact ⟨c, (hs c).2 (.inr hc), h⟩
    · rintro ⟨c, hc, h⟩
      rcases (hs c).1 hc with h' | h'
      · exact absurd (List.any_eq_true.2 ⟨c, h', by simpa using h⟩) ha
      · exact ⟨c, h', h⟩
theorem mark_back {w : HW} {l : List HC} (h12 : w.hid.length = 12) (hl : ∀ c ∈ l, w.hid.getD c.key false = false) : (w.mark l true).mark l false = w := by
  obtain ⟨rows, cap, hid⟩ := w
  unfold HW.mark
  simp only [HW.mk.injEq, true_and]
  simp only at h12 hl
  refine list_ext_getD (by rw [foldSet_len, foldSet_len]) fun j hj => ?_
  rw [foldSet_len, foldSet_len] at hj
  rw [foldSet_get _ _ _ _ (by rw [foldSet_len]; exact hj), foldSet_get _ _ _ _ hj]
  split
  · rename_i ha
    obtain ⟨c, hc, h⟩ := List.any_eq_true.1 ha
    have h' : c.key = j := by simpa using h
    rw [← h', hl c hc]
  · rfl
section
variable {t : HT} {l : List HC}
theorem pub_dims (h : t.pub l = 0) : t.n ≤ 3 ∧ t.m ≤ 4 ∧ HidOk t.n t.m l ∧ t.check = 0 := by
  obtain ⟨h0, hl⟩ := HT.pub_ok h
  have ho := HT.check_ok h0
  exact ⟨ho.n3, ho.m4, hl, h0⟩
theorem w_h_mem (h : t.pub l = 0) {c : HC} (hc : c ∈ gridC t.n t.m) : (t.w l).h c.row.toNat c.col.toNat = true ↔ c ∈ l := by
  obtain ⟨h3, h4, hl, h0⟩ := pub_dims h
  have hb := mem_gridC.1 hc
  rw [hl.h_iff h3 h4]
  have : (⟨(c.row.toNat : Int), (c.col.toNat : Int)⟩ : HC) = c := by
    cases c
    simp only at hb ⊢
    congr 1 <;> omega
  rw [this]
theorem cells_eq (h : t.pub l = 0) : (t.w l).cells = l := by
  obtain ⟨h3, h4, hl, h0⟩ := pub_dims h
  refine HidOk.ext ((gridC_ok h4).filter _) hl h4 fun c => ?_
  have hd : (t.w l).cells = (gridC t.n t.m).filter fun c => (t.w l).h c.row.toNat c.col.toNat := rfl
  constructor
  · intro hc
    have := List.mem_filter.1 hc
    exact (w_h_mem h this.1).1 this.2
  · intro hc
    exact List.mem_filter.2 ⟨mem_gridC.2 (hl.cell c hc), (w_h_mem h (mem_gridC.2 (hl.cell c hc))).2 hc⟩
theorem mem_free (h : t.pub l = 0) {c : HC} : c ∈ (t.w l).free ↔ c ∈ gridC t.n t.m ∧ c ∉ l := by
  have hd : (t.w l).free = (gridC t.n t.m).filter fun c => !(t.w l).h c.row.toNat c.col.toNat := rfl
  rw [hd, List.mem_filter]
  constructor
  · rintro ⟨h1, h2⟩
    refine ⟨h1, fun hc => ?_⟩
    rw [(w_h_mem h h1).2 hc] at h2
    cases h2
  · rintro ⟨h1, h2⟩
    refine ⟨h1, ?_⟩
    cases hh : (t.w l).h c.row.toNat c.col.toNat
    · rfl
    · exact absurd ((w_h_mem h h1).1 hh) h2
theorem free_ok (h : t.pub l = 0) : HidOk t.n t.m (t.w l).free := (gridC_ok (pub_dims h).2.1).filter _
theorem with_ok (h : t.pub l = 0) {s : List HC} (hs : s.Sublist (t.w l).free) : HidOk t.n t.m ((t.w l).with s) ∧ (∀ c, c ∈ (t.w l).with s ↔ c ∈ s ∨ c ∈ l) ∧ ((t.w l).with s).length = s.length + l.length := by
  obtain ⟨h3, h4, hl, h0⟩ := pub_dims h
  have hf := free_ok h
  unfold HW.with
  rw [cells_eq h]
  have := isort8_ok (n := t.n) (m := t.m) (l := s ++ l) h4 (fun c hc => by
    rcases List.mem_append.1 hc with hc | hc
    · exact hf.cell c (hs.subset hc)
    · exact hl.cell c hc) (by
    rw [List.nodup_append]
    refine ⟨hs.nodup hf.nodup, hl.nodup, fun a ha b hb e => ?_⟩
    subst e
    exact ((mem_free h).1 (hs.subset ha)).2 hb)
  refine ⟨this.1, fun c => ?_, ?_⟩
  · rw [this.2 c, List.mem_append]
  · rw [isort8_len, List.length_append]
theorem mark_with (h : t.pub l = 0) {s : List HC} (hs : s.Sublist (t.w l).free) : (t.w l).mark s true = t.w ((t.w l).with s) := by
  obtain ⟨h3, h4, hl, h0⟩ := pub_dims h
  have := with_ok h hs
  exact mark_eq h3 h4 this.1 this.2.1
end
end Go.Proofs.YtijechcadlklhaaGreat
namespace Go.Proofs.YtijechcadlklhaaGreat
def sumI : List Int → Int
  | [] => 0
  | x :: l => x + sumI l
def colI (rows : Rows8) (c : Nat) : Int := sumI (rows.map fun l => l.getD c 0)
theorem sumI_4 {l : List Int} (h : l.length ≤ 4) : sumI l = l.getD 0 0 + l.getD 1 0 + l.getD 2 0 + l.getD 3 0 := by
  match l, h with
  | [], _ => rfl
  | [a], _ => simp [sumI]
  | [a, b], _ => simp only [sumI, List.getD_cons_zero, List.getD_cons_succ, List.getD_nil]; omega
  | [a, b, c], _ => simp only [sumI, List.getD_cons_zero, List.getD_cons_succ, List.getD_nil]; omega
  | [a, b, c, d], _ => simp only [sumI, List.getD_cons_zero, List.getD_cons_succ]; omega
  | a :: b :: c :: d :: e :: l, h => simp at h
theorem sumI_row {n m : Nat} {rows : Rows8} (h : Dim n m rows) (hm : m ≤ 4) {r : Nat} (hr : r < n) : sumI (rows.getD r []) = rs8 rows r := by
  rw [sumI_4 (by rw [h.2 r hr]; exact hm)]; rfl
theorem colI_col {n m : Nat} {rows : Rows8} (h : Dim n m rows) (hn : n ≤ 3) (c : Nat) : colI rows c = cs8 rows c := by
  unfold colI
  rw [sumI_4 (by rw [List.length_map, h.1]; omega)]
  have e : ∀ i, (rows.map fun l => l.getD c 0).getD i 0 = cellAt rows i c := by
    intro i
    unfold cellAt
    by_cases hi : i < rows.length
    · simp [List.getD_eq_getElem?_getD, hi]
    · simp [List.getD_eq_getElem?_getD, show rows.length ≤ i by omega]
  rw [e, e, e, e]
  have h3 : cellAt rows 3 c = 0 := by
    unfold cellAt
    have : rows.length ≤ 3 := by rw [h.1]; exact hn
    simp [List.getD_eq_getElem?_getD, this]
  rw [h3]
  unfold cs8
  omega
def HT.candB (t : HT) (hid : Nat → Nat → Bool) (rows : Rows8) : Bool := t.filled rows && (List.range t.n).all fun r => decide (sumI (rows.getD r []) = sumI (t.rows.getD r [])) && (List.range t.m).all fun c => (hid r c || decide (cellAt rows r c = cellAt t.rows r c)) && decide (colI rows c = colI t.rows c)
theorem cell_out {n m : Nat} {rows : Rows8} (h : Dim n m rows) {r c : Nat} (ho : ¬ (r < n ∧ c < m)) : cellAt rows r c = 0 := by
  unfold cellAt
  by_cases hr : r < n
  · have hc : m ≤ c := by omega
    have := h.2 r hr
    rw [List.getD_eq_getElem?_getD (l := rows.getD r []), List.getElem?_eq_none (by omega)]
    rfl
  · rw [List.getD_eq_getElem?_getD (l := rows), List.getElem?_eq_none (by rw [h.1]; omega)]
    rfl
theorem candB_iff {t : HT} {l : List HC} (h : t.pub l = 0) (rows : Rows8) : t.candB (t.w l).h rows = true ↔ (t.w l).Cand t.n t.m rows := by
  have hw := HT.w_ok h
  have hd : Dim t.n t.m t.rows := hw.dim
  unfold HT.candB
  rw [Bool.and_eq_true, HT.filled_iff (n := t.n) (m := t.m) rfl rfl]
  simp only [List.all_eq_true, List.mem_range, Bool.and_eq_true, decide_eq_true_eq, Bool.or_eq_true]
  constructor
  · rintro ⟨⟨d1, d2⟩, h2⟩
    have hrow : ∀ r, rs8 rows r = rs8 t.rows r := by
      intro r
      by_cases hr : r < t.n
      · rw [← sumI_row d1 hw.m4 hr, ← sumI_row hd hw.m4 hr]; exact (h2 r hr).1
      · unfold rs8
        rw [cell_out d1 (by omega), cell_out d1 (by omega), cell_out d1 (by omega), cell_out d1 (by omega), cell_out hd (by omega), cell_out hd (by omega), cell_out hd (by omega), cell_out hd (by omega)]
    have hcol : ∀ c, cs8 rows c = cs8 t.rows c := by
      intro c
      by_cases hc : c < t.m
      · rw [← colI_col d1 hw.n3, ← colI_col hd hw.n3]; exact ((h2 0 hw.n0).2 c hc).2
      · unfold cs8
        rw [cell_out d1 (by omega), cell_out d1 (by omega), cell_out d1 (by omega), cell_out hd (by omega), cell_out hd (by omega), cell_out hd (by omega)]
    refine ⟨⟨d1, d2, fun r c hh => ?_⟩, hrow, hcol⟩
    by_cases ho : r < t.n ∧ c < t.m
    · rcases ((h2 r ho.1).2 c ho.2).1 with h3 | h3
      · rw [hh] at h3; cases h3
      · exact h3
    · rw [cell_out d1 ho]; exact (cell_out hd ho).symm
  · intro hc
    refine ⟨⟨hc.fit.dim, hc.fit.cell⟩, fun r hr => ⟨?_, fun c hcc => ⟨?_, ?_⟩⟩⟩
    · rw [sumI_row hc.fit.dim hw.m4 hr, sumI_row hd hw.m4 hr]; exact hc.row r
    · cases hh : (t.w l).h r c
      · exact .inr (hc.fit.shown r c hh)
      · exact .inl rfl
    · rw [colI_col hc.fit.dim hw.n3, colI_col hd hw.n3]; exact hc.col c
def movedBy (t : HT) (out : Rows8) (w a b c d : Nat) : Int := min (min (min (min ((w / 256 : Nat) : Int) (t.cap - cellAt out a c)) (t.cap - cellAt out b d)) (cellAt out a d)) (cellAt out b c)
def movedOne (t : HT) (l : List HC) (out : Rows8) (w : Nat) : Rows8 :=
  let a := w % t.n; let b := w / 4 % t.n; let c := w / 16 % t.m; let d := w / 64 % t.m
  if a ≠ b ∧ c ≠ d ∧ l.contains ⟨(a : Nat), (c : Nat)⟩ = true ∧ l.contains ⟨(b : Nat), (d : Nat)⟩ = true ∧ l.contains ⟨(a : Nat), (d : Nat)⟩ = true ∧ l.contains ⟨(b : Nat), (c : Nat)⟩ = true then
    addAt (addAt (addAt (addAt out a c (movedBy t out w a b c d)) b d (movedBy t out w a b c d)) a d (-(movedBy t out w a b c d))) b c (-(movedBy t out w a b c d))
  else out
def movedTo (t : HT) (l : List HC) (words : List Nat) : Nat → Rows8
  | 0 => t.rows
  | k + 1 => movedOne t l (movedTo t l words k) (words.getD k 0)
theorem movedOne_law {t : HT} {l : List HC} (h : t.pub l = 0) {out : Rows8} (ho : (t.w l).Cand t.n t.m out) (w : Nat) : (t.w l).Cand t.n t.m (movedOne t l out w) := by
  have hw := HT.w_ok h
  obtain ⟨h3, h4, hl, h0⟩ := pub_dims h
  unfold movedOne
  simp only
  split
  · rename_i hc
    obtain ⟨hab, hcd, e1, e2, e3, e4⟩ := hc
    have ha : w % t.n < t.n := Nat.mod_lt _ hw.n0
    have hb : w / 4 % t.n < t.n := Nat.mod_lt _ hw.n0
    have hc : w / 16 % t.m < t.m := Nat.mod_lt _ hw.m0
    have hd : w / 64 % t.m < t.m := Nat.mod_lt _ hw.m0
    have hby : movedBy t out w (w % t.n) (w / 4 % t.n) (w / 16 % t.m) (w / 64 % t.m) ≤ t.cap - cellAt out (w % t.n) (w / 16 % t.m) ∧ movedBy t out w (w % t.n) (w / 4 % t.n) (w / 16 % t.m) (w / 64 % t.m) ≤ t.cap - cellAt out (w / 4 % t.n) (w / 64 % t.m) ∧ movedBy t out w (w % t.n) (w / 4 % t.n) (w / 16 % t.m) (w / 64 % t.m) ≤ cellAt out (w % t.n) (w / 64 % t.m) ∧ movedBy t out w (w % t.n) (w / 4 % t.n) (w / 16 % t.m) (w / 64 % t.m) ≤ cellAt out (w / 4 % t.n) (w / 16 % t.m) ∧ (0 ≤ t.cap - cellAt out (w % t.n) (w / 16 % t.m) → 0 ≤ t.cap - cellAt out (w / 4 % t.n) (w / 64 % t.m) → 0 ≤ cellAt out (w % t.n) (w / 64 % t.m) → 0 ≤ cellAt out (w / 4 % t.n) (w / 16 % t.m) → 0 ≤ movedBy t out w (w % t.n) (w / 4 % t.n) (w / 16 % t.m) (w / 64 % t.m)) := by
      unfold movedBy
      omega
    generalize movedBy t out w (w % t.n) (w / 4 % t.n) (w / 16 % t.m) (w / 64 % t.m) = g at hby ⊢
    generalize w % t.n = a at *
    generalize w / 4 % t.n = b at *
    generalize w / 16 % t.m = c at *
    generalize w / 64 % t.m = d at *
    have hcap : (t.w l).cap = t.cap := rfl
    have x1 := ho.fit.cell a c ha hc
    have x2 := ho.fit.cell b d hb hd
    have x3 := ho.fit.cell a d ha hd
    have x4 := ho.fit.cell b c hb hc
    rw [hcap] at x1 x2 x3 x4
    have m1 := (hl.h_iff (t := t) h3 h4).2 (List.contains_iff_mem.1 e1)
    have m2 := (hl.h_iff (t := t) h3 h4).2 (List.contains_iff_mem.1 e2)
    have m3 := (hl.h_iff (t := t) h3 h4).2 (List.contains_iff_mem.1 e3)
    have m4 := (hl.h_iff (t := t) h3 h4).2 (List.contains_iff_mem.1 e4)
    have d1 := ho.fit.dim.add a c g
    have d2 := d1.add b d g
    have d3 := d2.add a d (-g)
    have c1 := cellAt_add ho.fit.dim ha hc g
    have c2 := cellAt_add d1 hb hd g
    have c3 := cellAt_add d2 ha hd (-g)
    have c4 := cellAt_add d3 hb hc (-g)
    have hall : ∀ r' c', cellAt (addAt (addAt (addAt (addAt out a c g) b d g) a d (-g)) b c (-g)) r' c' = cellAt out r' c' + (if r' = a ∧ c' = c then g else 0) + (if r' = b ∧ c' = d then g else 0) - (if r' = a ∧ c' = d then g else 0) - (if r' = b ∧ c' = c then g else 0) := by
      intro r' c'
      rw [c4, c3, c3, c2, c2, c2, c1, c1, c1, c1]
      by_cases q1 : r' = a <;> by_cases q2 : r' = b <;> by_cases q3 : c' = c <;> by_cases q4 : c' = d <;> simp [q1, q2, q3, q4, hab, hcd, Ne.symm hab, Ne.symm hcd] <;> (try (subst_vars; simp_all)) <;> omega
    refine ⟨⟨d3.add b c (-g), fun r' c' hr hc' => ?_, fun r' c' hh => ?_⟩, fun r' => ?_, fun c' => ?_⟩
    · rw [hall]
      have := ho.fit.cell r' c' hr hc'
      rw [hcap] at this ⊢
      by_cases q1 : r' = a ∧ c' = c
      · obtain ⟨rfl, rfl⟩ := q1; simp [hab, hcd]; omega
      · by_cases q2 : r' = b ∧ c' = d
        · obtain ⟨rfl, rfl⟩ := q2; simp [Ne.symm hab, Ne.symm hcd]; omega
        · by_cases q3 : r' = a ∧ c' = d
          · obtain ⟨rfl, rfl⟩ := q3; simp [hab, Ne.symm hcd]; omega
          · by_cases q4 : r' = b ∧ c' = c
            · obtain ⟨rfl, rfl⟩ := q4; simp [Ne.symm hab, hcd]; omega
            · simp only [q1, q2, q3, q4, if_false]; omega
    · rw [hall]
      have n1 : ¬ (r' = a ∧ c' = c) := by rintro ⟨rfl, rfl⟩; rw [m1] at hh; cases hh
      have n2 : ¬ (r' = b ∧ c' = d) := by rintro ⟨rfl, rfl⟩; rw [m2] at hh; cases hh
      have n3 : ¬ (r' = a ∧ c' = d) := by rintro ⟨rfl, rfl⟩; rw [m3] at hh; cases hh
      have n4 : ¬ (r' = b ∧ c' = c) := by rintro ⟨rfl, rfl⟩; rw [m4] at hh; cases hh
      simp only [n1, n2, n3, n4, if_false]
      have := ho.fit.shown r' c' hh
      omega
    · rw [rs8_add d3 hb hc h4, rs8_add d2 ha hd h4, rs8_add d1 hb hd h4, rs8_add ho.fit.dim ha hc h4, ho.row]
      (repeat' split) <;> omega
    · rw [cs8_add d3 hb hc h3, cs8_add d2 ha hd h3, cs8_add d1 hb hd h3, cs8_add ho.fit.dim ha hc h3, ho.col]
      (repeat' split) <;> omega
  · exact ho
theorem movedTo_law {t : HT} {l : List HC} (h : t.pub l = 0) (words : List Nat) : ∀ k, (t.w l).Cand t.n t.m (movedTo t l words k)
  | 0 => (HT.w_ok h).self
  | k + 1 => movedOne_law h (movedTo_law h words k) _
end Go.Proofs.YtijechcadlklhaaGreat
namespace Go.Sy
def pickArgs (o : Oper) (ρ : Operand → SV) : Option (SV × SV × SV) := match o.op with | .pick c a b => some (ρ c, ρ a, ρ b) | _ => none
theorem yT (a b : Bool) (K : SV → Prop) (h : K (.d (.lit (.bool (a && b))))) : zI (.d (.lit (.bool a))) (if a = true then .d (.lit (.bool b)) else .unk) (.d (.lit (.bool false))) K := by
  cases a <;> cases b <;> exact h
theorem exq_pick {P : Program} {G : Nat → Option (List D)} {o : Oper} {ρ : Operand → SV} {hp : HpT} {nx : Nat} {K : KT} {x y z : SV} (h : pickArgs o ρ = some (x, y, z)) (hK : zI x y z fun r => K r hp nx) : exq P G o ρ hp nx K := by
  unfold pickArgs at h
  unfold exq
  split at h
  · rename_i c a b ho
    simp only [Option.some.injEq, Prod.mk.injEq] at h
    obtain ⟨rfl, rfl, rfl⟩ := h
    rw [ho]; exact hK
  · cases h
section
variable {P : Program} {G : Nat → Option (List D)}
theorem GdO.and {all : List Oper} {o : Oper} {os : List Oper} {st : St} {g : Bool} {K : St → Prop} {a b : Bool} (h : g = true → pickArgs o (fun x => gstrip (ev G st.tm x)) = some (.d (.lit (.bool a)), if a = true then .d (.lit (.bool b)) else .unk, .d (.lit (.bool false))))
    (k : z8 P G all os ⟨putT o.dst (.whn g (.d (.lit (.bool (a && b))))) st.tm, st.hp, st.nx, st.nt, st.df, st.nb⟩ K) : GdO P G all o os st g K :=
  GdO.mk _ (fun hg => exq_pick (h hg) (yT a b _ ⟨rfl, rfl, rfl⟩)) k
theorem pick_callV {o : Oper} {ρ : Operand → SV} {t : SV × SV × SV} (h : pickArgs o ρ = some t) : callV o = false := by
  unfold pickArgs at h
  unfold callV
  split at h
  · rename_i ho; rw [ho]
  · cases h
theorem GdD.and {ops : Array Oper} {ul louds : List Nat} {o : Oper} {is : List Nat} {st : St} {g : Bool} {lds : List Nat} {K : St → Prop} {a b : Bool} (h : g = true → pickArgs o (fun x => gstrip (ev G st.tm x)) = some (.d (.lit (.bool a)), if a = true then .d (.lit (.bool b)) else .unk, .d (.lit (.bool false))))
    (k : exY P G ops ul louds is ⟨putT o.dst (.whn g (.d (.lit (.bool (a && b))))) st.tm, st.hp, st.nx, st.nt, st.df, st.nb⟩ lds K) : GdD P G ops ul louds o is st g lds K :=
  GdD.mk _ (fun hg => by rw [yI (pick_callV (h hg))]; exact exq_pick (h hg) (yT a b _ ⟨rfl, rfl, rfl⟩)) k
end
end Go.Sy
