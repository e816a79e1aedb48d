/- Lemmas, part ZAJ. Conditions: none. -/
import Derived.Test.YtijechcadlklhaaGreatZAI
import Derived.Deep.Slices
import Derived.OpenShut
import Derived.Test.YtijechcadlklhaaGreatRows
import Derived.ProofKit
import Derived.Stop.Joined
import Derived.WideKeyArgs
import Derived.Handed
import Derived.Carry
set_option linter.unusedVariables false
namespace Go.Proofs.YtijechcadlklhaaGreat
def tcell (t : HT) (c : HC) : Int := cellAt t.rows c.row.toNat c.col.toNat
def rowsTo (t : HT) (l : List HC) : Nat → List Int
  | 0 => [0, 0, 0]
  | k + 1 => (rowsTo t l k).set (l.getD k default).row.toNat ((rowsTo t l k).getD (l.getD k default).row.toNat 0 + tcell t (l.getD k default))
def colsTo (t : HT) (l : List HC) : Nat → List Int
  | 0 => [0, 0, 0, 0]
  | k + 1 => (colsTo t l k).set (l.getD k default).col.toNat ((colsTo t l k).getD (l.getD k default).col.toNat 0 + tcell t (l.getD k default))
def bitI (i r : Nat) : Int := ((i / 2 ^ r % 2 : Nat) : Int)
def capTo (t : HT) (l : List HC) (cell : HC) (i k : Nat) : Nat → Int
  | 0 => 0
  | n + 1 => capTo t l cell i k n + if l.getD n default ≠ cell ∧ bitI i (l.getD n default).row.toNat = 1 ∧ bitI k (l.getD n default).col.toNat = 0 then t.cap else 0
def rowsV (t : HT) (l : List HC) (cell : HC) (v : Int) : List Int := (rowsTo t l l.length).set cell.row.toNat ((rowsTo t l l.length).getD cell.row.toNat 0 - v)
def colsV (t : HT) (l : List HC) (cell : HC) (v : Int) : List Int := (colsTo t l l.length).set cell.col.toNat ((colsTo t l l.length).getD cell.col.toNat 0 - v)
def sumR (R : List Int) (i : Nat) : Nat → Int
  | 0 => 0
  | r + 1 => sumR R i r + R.getD r 0 * bitI i r
def leftS (t : HT) (l : List HC) (cell : HC) (v : Int) (i k : Nat) : Int := sumR (rowsV t l cell v) i 3 - sumR (colsV t l cell v) k 4 - capTo t l cell i k l.length
def canS (t : HT) (l : List HC) (cell : HC) (v : Int) : Bool :=
  if inR v 0 t.cap = false then false else if l.contains cell = false then decide (v = tcell t cell) else (List.range 8).all fun i => (List.range 16).all fun k => decide (leftS t l cell v i k ≤ 0)
def markK (l : List HC) (k i j : Nat) : Bool := decide (j < 4) && (marksTo l k).getD (4 * i + j) false
theorem markK_full (t : HT) (l : List HC) (i j : Nat) : markK l l.length i j = (t.w l).h i j := rfl
theorem HidOk.step {n m : Nat} {l : List HC} (hl : HidOk n m l) (hn : n ≤ 3) (hm : m ≤ 4) {k : Nat} (hk : k < l.length) (i j : Nat) :
    markK l (k + 1) i j = (markK l k i j || decide (i = (l.getD k default).row.toNat ∧ j = (l.getD k default).col.toNat)) := by
  have hb := hl.cell _ (getD_mem' default hk)
  unfold markK
  rw [marksTo]
  have hlen := marks_len l k
  by_cases hj : j < 4
  · simp only [hj, decide_true, Bool.true_and]
    by_cases e : i = (l.getD k default).row.toNat ∧ j = (l.getD k default).col.toNat
    · obtain ⟨e1, e2⟩ := e
      subst e1 e2
      simp only [and_self, decide_true, Bool.or_true]
      have : 4 * (l.getD k default).row.toNat + (l.getD k default).col.toNat < 12 := by omega
      rw [List.getD_eq_getElem?_getD, List.getElem?_set_self (by omega)]
      rfl
    · simp only [e, decide_false, Bool.or_false]
      rw [List.getD_eq_getElem?_getD, List.getElem?_set_ne (by omega), ← List.getD_eq_getElem?_getD]
  · have : ¬ (i = (l.getD k default).row.toNat ∧ j = (l.getD k default).col.toNat) := by rintro ⟨_, e⟩; omega
    rw [decide_eq_false this]
    simp [hj]
theorem HidOk.fresh {n m : Nat} {l : List HC} (hl : HidOk n m l) (hn : n ≤ 3) (hm : m ≤ 4) {k : Nat} (hk : k < l.length) : markK l k (l.getD k default).row.toNat (l.getD k default).col.toNat = false := by
  have hb := hl.cell _ (getD_mem' default hk)
  unfold markK
  rw [Bool.and_eq_false_iff]
  right
  cases h : (marksTo l k).getD (4 * (l.getD k default).row.toNat + (l.getD k default).col.toNat) false
  · rfl
  · obtain ⟨i, hi, he⟩ := (marks_get l k (by omega) _ (by omega)).1 h
    have := List.pairwise_iff_getElem.1 hl.lt i k (by omega) hk hi
    have e1 : l.getD i default = l[i] := by simp [List.getD_eq_getElem?_getD, show i < l.length by omega]
    have e2 : l.getD k default = l[k] := by simp [List.getD_eq_getElem?_getD, hk]
    rw [← e1, ← e2] at this
    have he' : (l.getD i default).key = (l.getD k default).key := he
    omega
theorem HidOk.one {n m : Nat} {l : List HC} (hl : HidOk n m l) (hn : n ≤ 3) (hm : m ≤ 4) {k : Nat} (hk : k < l.length) (f : Nat → Nat → Int) (i j : Nat) :
    (if markK l (k + 1) i j = true then f i j else 0) = (if markK l k i j = true then f i j else 0) + if i = (l.getD k default).row.toNat ∧ j = (l.getD k default).col.toNat then f (l.getD k default).row.toNat (l.getD k default).col.toNat else 0 := by
  rw [hl.step hn hm hk]
  by_cases e : i = (l.getD k default).row.toNat ∧ j = (l.getD k default).col.toNat
  · obtain ⟨e1, e2⟩ := e
    rw [← e1, ← e2]
    have hf := hl.fresh hn hm hk
    rw [← e1, ← e2] at hf
    simp [hf]
  · rw [decide_eq_false e, Bool.or_false, if_neg e, Int.add_zero]
theorem rowsTo_len (t : HT) (l : List HC) : ∀ k, (rowsTo t l k).length = 3
  | 0 => rfl
  | k + 1 => by rw [rowsTo, List.length_set, rowsTo_len t l k]
theorem colsTo_len (t : HT) (l : List HC) : ∀ k, (colsTo t l k).length = 4
  | 0 => rfl
  | k + 1 => by rw [colsTo, List.length_set, colsTo_len t l k]
theorem getD_set {α : Type} (l : List α) (i j : Nat) (x d : α) (hi : i < l.length) : (l.set i x).getD j d = if j = i then x else l.getD j d := by
  by_cases e : j = i
  · subst e; simp [List.getD_eq_getElem?_getD, hi]
  · rw [List.getD_eq_getElem?_getD, List.getElem?_set_ne (Ne.symm e), if_neg e, ← List.getD_eq_getElem?_getD]
def hvK (t : HT) (l : List HC) (k i j : Nat) : Int := if markK l k i j = true then cellAt t.rows i j else 0
theorem rowsTo_sum {t : HT} {n m : Nat} {l : List HC} (hl : HidOk n m l) (hn : n ≤ 3) (hm : m ≤ 4) (r : Nat) : ∀ k, k ≤ l.length → (rowsTo t l k).getD r 0 = hvK t l k r 0 + hvK t l k r 1 + hvK t l k r 2 + hvK t l k r 3
  | 0, _ => by
    have : ∀ j, hvK t l 0 r j = 0 := fun j => by
      unfold hvK markK marksTo
      rw [if_neg]
      rw [Bool.and_eq_true]
      rintro ⟨_, h⟩
      rw [List.getD_eq_getElem?_getD, List.getElem?_replicate] at h
      split at h <;> cases h
    rw [this, this, this, this]
    match r with
    | 0 => rfl
    | 1 => rfl
    | 2 => rfl
    | r + 3 => rfl
  | k + 1, hk => by
    have hb := hl.cell _ (getD_mem' default hk)
    have ih := rowsTo_sum (t := t) hl hn hm r k (by omega)
    have h1 := fun j => hl.one hn hm hk (cellAt t.rows) r j
    unfold hvK at ih ⊢
    rw [rowsTo, getD_set _ _ _ _ _ (by rw [rowsTo_len]; omega), h1, h1, h1, h1]
    by_cases e : r = (l.getD k default).row.toNat
    · rw [if_pos e, ← e, ih, tcell, ← e]
      have hc : (l.getD k default).col.toNat = 0 ∨ (l.getD k default).col.toNat = 1 ∨ (l.getD k default).col.toNat = 2 ∨ (l.getD k default).col.toNat = 3 := by omega
      rcases hc with hc | hc | hc | hc <;> rw [hc] <;> simp <;> omega
    · rw [if_neg e, ih]
      simp only [e, false_and, if_false, Int.add_zero]
theorem colsTo_sum {t : HT} {n m : Nat} {l : List HC} (hl : HidOk n m l) (hn : n ≤ 3) (hm : m ≤ 4) (c : Nat) : ∀ k, k ≤ l.length → (colsTo t l k).getD c 0 = hvK t l k 0 c + hvK t l k 1 c + hvK t l k 2 c
  | 0, _ => by
    have : ∀ i, hvK t l 0 i c = 0 := fun i => by
      unfold hvK markK marksTo
      rw [if_neg]
      rw [Bool.and_eq_true]
      rintro ⟨_, h⟩
      rw [List.getD_eq_getElem?_getD, List.getElem?_replicate] at h
      split at h <;> cases h
    rw [this, this, this]
    match c with
    | 0 => rfl
    | 1 => rfl
    | 2 => rfl
    | 3 => rfl
    | c + 4 => rfl
  | k + 1, hk => by
    have hb := hl.cell _ (getD_mem' default hk)
    have ih := colsTo_sum (t := t) hl hn hm c k (by omega)
    have h1 := fun i => hl.one hn hm hk (cellAt t.rows) i c
    unfold hvK at ih ⊢
    rw [colsTo, getD_set _ _ _ _ _ (by rw [colsTo_len]; omega), h1, h1, h1]
    by_cases e : c = (l.getD k default).col.toNat
    · rw [if_pos e, ← e, ih, tcell, ← e]
      have hc : (l.getD k default).row.toNat = 0 ∨ (l.getD k default).row.toNat = 1 ∨ (l.getD k default).row.toNat = 2 := by omega
      rcases hc with hc | hc | hc <;> rw [hc] <;> simp <;> omega
    · rw [if_neg e, ih]
      simp only [e, and_false, if_false, Int.add_zero]
theorem bitI_test (i r : Nat) : bitI i r = if i.testBit r then 1 else 0 := by
  unfold bitI
  rw [Nat.testBit_eq_decide_div_mod_eq]
  have : i / 2 ^ r % 2 < 2 := Nat.mod_lt _ (by omega)
  by_cases h : i / 2 ^ r % 2 = 1
  · simp [h]
  · have : i / 2 ^ r % 2 = 0 := by omega
    simp [this]
theorem capTo_sum {t : HT} {n m : Nat} {l : List HC} (hl : HidOk n m l) (hn : n ≤ 3) (hm : m ≤ 4) {cell : HC} (hc0 : 0 ≤ cell.row ∧ 0 ≤ cell.col) (i k : Nat) : ∀ q, q ≤ l.length →
    capTo t l cell i k q = S12 (fun a b => if markK l q a b = true then (if ¬ (a = cell.row.toNat ∧ b = cell.col.toNat) ∧ i.testBit a = true ∧ k.testBit b = false then t.cap else 0) else 0)
  | 0, _ => by
    have : S12 (fun a b => if markK l 0 a b = true then (if ¬ (a = cell.row.toNat ∧ b = cell.col.toNat) ∧ i.testBit a = true ∧ k.testBit b = false then t.cap else 0) else 0) = S12 (fun _ _ => 0) := by
      refine S12_eq fun a b _ _ => ?_
      rw [if_neg]
      unfold markK marksTo
      rw [Bool.and_eq_true]
      rintro ⟨_, h⟩
      rw [List.getD_eq_getElem?_getD, List.getElem?_replicate] at h
      split at h <;> cases h
    rw [this]
    rfl
  | q + 1, hq => by
    have hb := hl.cell _ (getD_mem' default hq)
    have ih := capTo_sum (t := t) hl hn hm hc0 i k q (by omega)
    have h1 := fun a b => hl.one hn hm hq (fun a b => if ¬ (a = cell.row.toNat ∧ b = cell.col.toNat) ∧ i.testBit a = true ∧ k.testBit b = false then t.cap else 0) a b
    simp only [h1]
    rw [S12_add, S12_one (by omega) (by omega), capTo, ih]
    congr 1
    rw [bitI_test, bitI_test]
    have e : (l.getD q default ≠ cell) ↔ ¬ ((l.getD q default).row.toNat = cell.row.toNat ∧ (l.getD q default).col.toNat = cell.col.toNat) := by
      constructor
      · rintro h ⟨h1, h2⟩
        apply h
        cases hx : l.getD q default with
        | mk a b =>
          cases cell
          rw [hx] at h1 h2 hb
          simp only at h1 h2 hb hc0
          congr 1 <;> omega
      · intro h he
        rw [he] at h
        exact h ⟨rfl, rfl⟩
    simp only [e]
    cases i.testBit (l.getD q default).row.toNat <;> cases k.testBit (l.getD q default).col.toNat <;> simp
theorem HT.w_ok {t : HT} {l : List HC} (h : t.pub l = 0) : (t.w l).Ok t.rows.length (t.rows.getD 0 []).length := by
  obtain ⟨h0, hl⟩ := HT.pub_ok h
  have ho := HT.check_ok h0
  exact ⟨ho.dim, ho.n3, ho.m4, ho.n0, ho.m0, marks_len _ _, fun r c hh => by
    have := hl.cell _ ((hl.h_iff (t := t) ho.n3 ho.m4).1 hh)
    simp only at this
    omega, ho.cell, ho.cap⟩
theorem leftS_eq {t : HT} {l : List HC} {n m : Nat} (hl : HidOk n m l) (hn : n ≤ 3) (hm : m ≤ 4) {cell : HC} (hc : 0 ≤ cell.row ∧ cell.row < n ∧ 0 ≤ cell.col ∧ cell.col < m) (v : Int) (i k : Nat) :
    leftS t l cell v i k = S12 (cutT ((t.w l).hv t.rows) i.testBit k.testBit) - (if i.testBit cell.row.toNat then v else 0) + (if k.testBit cell.col.toNat then v else 0) - S12 ((t.w l).cutC cell.row.toNat cell.col.toNat i.testBit k.testBit) := by
  have hR : ∀ r, (rowsV t l cell v).getD r 0 = (hvK t l l.length r 0 + hvK t l l.length r 1 + hvK t l l.length r 2 + hvK t l l.length r 3) - (if r = cell.row.toNat then v else 0) := by
    intro r
    unfold rowsV
    rw [getD_set _ _ _ _ _ (by rw [rowsTo_len]; omega), rowsTo_sum hl hn hm _ _ (Nat.le_refl _), rowsTo_sum hl hn hm _ _ (Nat.le_refl _)]
    by_cases e : r = cell.row.toNat
    · rw [if_pos e, if_pos e, e]
    · rw [if_neg e, if_neg e]; omega
  have hC : ∀ c, (colsV t l cell v).getD c 0 = (hvK t l l.length 0 c + hvK t l l.length 1 c + hvK t l l.length 2 c) - (if c = cell.col.toNat then v else 0) := by
    intro c
    unfold colsV
    rw [getD_set _ _ _ _ _ (by rw [colsTo_len]; omega), colsTo_sum hl hn hm _ _ (Nat.le_refl _), colsTo_sum hl hn hm _ _ (Nat.le_refl _)]
    by_cases e : c = cell.col.toNat
    · rw [if_pos e, if_pos e, e]
    · rw [if_neg e, if_neg e]; omega
  have hcap : capTo t l cell i k l.length = S12 ((t.w l).cutC cell.row.toNat cell.col.toNat i.testBit k.testBit) := by
    rw [capTo_sum hl hn hm ⟨hc.1, hc.2.2.1⟩ i k _ (Nat.le_refl _)]
    refine S12_eq fun a b _ _ => ?_
    unfold HW.cutC
    rw [markK_full t]
    cases (t.w l).h a b
    · simp
    · simp only [if_true, true_and]
      rfl
  have hhv : ∀ a b, hvK t l l.length a b = (t.w l).hv t.rows a b := fun a b => rfl
  unfold leftS
  rw [hcap]
  have mul : ∀ (x : Int) (b : Bool), x * (if b then 1 else 0) = if b then x else 0 := by intro x b; cases b <;> simp
  have e3 : sumR (rowsV t l cell v) i 3 = (if i.testBit 0 then (rowsV t l cell v).getD 0 0 else 0) + (if i.testBit 1 then (rowsV t l cell v).getD 1 0 else 0) + (if i.testBit 2 then (rowsV t l cell v).getD 2 0 else 0) := by
    simp only [sumR, bitI_test, mul]; omega
  have e4 : sumR (colsV t l cell v) k 4 = (if k.testBit 0 then (colsV t l cell v).getD 0 0 else 0) + (if k.testBit 1 then (colsV t l cell v).getD 1 0 else 0) + (if k.testBit 2 then (colsV t l cell v).getD 2 0 else 0) + (if k.testBit 3 then (colsV t l cell v).getD 3 0 else 0) := by
    simp only [sumR, bitI_test, mul]; omega
  rw [e3, e4, S12_cut]
  simp only [hR, hC, hhv]
  have sp : ∀ (b : Bool) (x y : Int), (if b then x - y else 0) = (if b then x else 0) - (if b then y else 0) := by intro b x y; cases b <;> simp
  simp only [sp]
  have hr : (if i.testBit 0 then (if 0 = cell.row.toNat then v else 0) else 0) + (if i.testBit 1 then (if 1 = cell.row.toNat then v else 0) else 0) + (if i.testBit 2 then (if 2 = cell.row.toNat then v else 0) else 0) = if i.testBit cell.row.toNat then v else 0 := by
    have : cell.row.toNat = 0 ∨ cell.row.toNat = 1 ∨ cell.row.toNat = 2 := by omega
    rcases this with e | e | e <;> rw [e] <;> simp
  have hcc : (if k.testBit 0 then (if 0 = cell.col.toNat then v else 0) else 0) + (if k.testBit 1 then (if 1 = cell.col.toNat then v else 0) else 0) + (if k.testBit 2 then (if 2 = cell.col.toNat then v else 0) else 0) + (if k.testBit 3 then (if 3 = cell.col.toNat then v else 0) else 0) = if k.testBit cell.col.toNat then v else 0 := by
    have : cell.col.toNat = 0 ∨ cell.col.toNat = 1 ∨ cell.col.toNat = 2 ∨ cell.col.toNat = 3 := by omega
    rcases this with e | e | e | e <;> rw [e] <;> simp
  rw [← hr, ← hcc]
  omega
theorem ofBits3 (A : Nat → Bool) : ∃ i, i < 8 ∧ ∀ r, r < 3 → i.testBit r = A r := by
  have : ∀ a b c : Bool, ∃ i, i < 8 ∧ i.testBit 0 = a ∧ i.testBit 1 = b ∧ i.testBit 2 = c := by decide
  obtain ⟨i, h, h0, h1, h2⟩ := this (A 0) (A 1) (A 2)
  refine ⟨i, h, fun r hr => ?_⟩
  have : r = 0 ∨ r = 1 ∨ r = 2 := by omega
  rcases this with rfl | rfl | rfl <;> assumption
theorem ofBits4 (A : Nat → Bool) : ∃ i, i < 16 ∧ ∀ r, r < 4 → i.testBit r = A r := by
  have : ∀ a b c d : Bool, ∃ i, i < 16 ∧ i.testBit 0 = a ∧ i.testBit 1 = b ∧ i.testBit 2 = c ∧ i.testBit 3 = d := by decide
  obtain ⟨i, h, h0, h1, h2, h3⟩ := this (A 0) (A 1) (A 2) (A 3)
  refine ⟨i, h, fun r hr => ?_⟩
  have : r = 0 ∨ r = 1 ∨ r = 2 ∨ r = 3 := by omega
  rcases this with rfl | rfl | rfl | rfl <;> assumption
theorem canS_iff {t : HT} {l : List HC} (h : t.pub l = 0) {cell : HC} (hc : t.isCell cell = true) (v : Int) : canS t l cell v = true ↔ (t.w l).Can cell.row.toNat cell.col.toNat v := by
  obtain ⟨h0, hl⟩ := HT.pub_ok h
  have ho := HT.check_ok h0
  have hcc := (HT.isCell_iff (t := t) rfl rfl).1 hc
  have hcell : (⟨(cell.row.toNat : Int), (cell.col.toNat : Int)⟩ : HC) = cell := by
    cases cell
    simp only at hcc ⊢
    congr 1 <;> omega
  have hh := hl.h_iff (t := t) ho.n3 ho.m4 (r := cell.row.toNat) (c := cell.col.toNat)
  rw [hcell] at hh
  have hb := ho.cell cell.row.toNat cell.col.toNat (by omega) (by omega)
  unfold canS HW.Can
  by_cases hv : inR v 0 t.cap = false
  · rw [if_pos hv]
    refine ⟨fun h => (by cases h), fun h => ?_⟩
    exfalso
    have hv' : ¬ (0 ≤ v ∧ v ≤ t.cap) := fun hc => by rw [← inR_iff, hv] at hc; cases hc
    split at h
    · exact hv' ⟨h.1, h.2.1⟩
    · have : v = cellAt t.rows cell.row.toNat cell.col.toNat := h
      omega
  · rw [if_neg hv]
    have hv' : 0 ≤ v ∧ v ≤ t.cap := inR_iff.1 (by simpa using hv)
    by_cases hm : l.contains cell = false
    · rw [if_pos hm, if_neg]
      · rw [decide_eq_true_eq]; exact Iff.rfl
      · rw [hh, ← List.contains_iff_mem, hm]; simp
    · rw [if_neg hm, if_pos]
      · simp only [List.all_eq_true, List.mem_range, decide_eq_true_eq]
        constructor
        · intro H
          refine ⟨hv'.1, hv'.2, fun A K => ?_⟩
          obtain ⟨i, hi, hA⟩ := ofBits3 A
          obtain ⟨k, hk, hK⟩ := ofBits4 K
          have := H i hi k hk
          rw [leftS_eq hl ho.n3 ho.m4 hcc] at this
          have h3 := ho.n3
          have h4 := ho.m4
          rw [hA _ (by omega), hK _ (by omega)] at this
          have e1 : S12 (cutT ((t.w l).hv t.rows) i.testBit k.testBit) = S12 (cutT ((t.w l).hv t.rows) A K) := S12_eq fun a b ha hb => by unfold cutT; rw [hA a ha, hK b hb]
          have e2 : S12 ((t.w l).cutC cell.row.toNat cell.col.toNat i.testBit k.testBit) = S12 ((t.w l).cutC cell.row.toNat cell.col.toNat A K) := S12_eq fun a b ha hb => by unfold HW.cutC; rw [hA a ha, hK b hb]
          rw [e1, e2] at this
          show S12 (cutT ((t.w l).hv t.rows) A K) - _ + _ ≤ _
          omega
        · intro H i _ k _
          rw [leftS_eq hl ho.n3 ho.m4 hcc]
          have := H.2.2 i.testBit k.testBit
          have e : (t.w l).rows = t.rows := rfl
          rw [e] at this
          omega
      · rw [hh, ← List.contains_iff_mem]; simpa using hm
end Go.Proofs.YtijechcadlklhaaGreat
namespace Go.Proofs.YtijechcadlklhaaGreat
open Go.Sy
abbrev I (n : Int) : SV := .d (.lit (.int .i64 n))
abbrev U (n : Int) : SV := .d (.lit (.int .u64 n))
abbrev B (b : Bool) : SV := .d (.lit (.bool b))
abbrev cI (n : Int) : D := .lit (.int .i64 n)
abbrev cB (b : Bool) : D := .lit (.bool b)
def G0 : Nat → Option (List D) := fun _ => none
theorem mix : Tryz.prog.follows .mixedOrders = true := by kernel_rfl
theorem wr {n : Int} (h1 : -9223372036854775808 ≤ n) (h2 : n < 9223372036854775808) : IntKind.i64.wrap n = n := by
  have e : IntKind.i64.bits = 64 := rfl
  have s : IntKind.i64.signed = true := rfl
  simp only [IntKind.wrap, e, s, Bool.true_and, decide_eq_true_eq]
  split <;> omega
theorem wu {n : Int} (h1 : 0 ≤ n) (h2 : n < 18446744073709551616) : IntKind.u64.wrap n = n := by
  have e : IntKind.u64.bits = 64 := rfl
  have s : IntKind.u64.signed = false := rfl
  simp only [IntKind.wrap, e, s, Bool.false_and, Bool.false_eq_true, if_false]
  omega
structure Rng where
  lo : Int
  hi : Int
  deriving DecidableEq, Inhabited, Repr
def dI (l : List Int) : List (List D) := l.map fun n => [cI n]
def dL (l : List (List Int)) : List (List D) := l.map fun r => [.sl (dI r)]
def dW (l : List Nat) : List (List D) := l.map fun n => [.lit (.int .u16 (n : Nat))]
abbrev Rng.d (r : Rng) : List D := [cI r.lo, cI r.hi]
abbrev HC.d (p : HC) : List D := [cI p.row, cI p.col]
abbrev HQ.d (p : HQ) : List D := [cI p.cell.row, cI p.cell.col, cI p.below, cI p.above]
def dR (l : List Rng) : List (List D) := l.map Rng.d
def dC (l : List HC) : List (List D) := l.map HC.d
def dQ (l : List HQ) : List (List D) := l.map HQ.d
def dRL (l : List (List Rng)) : List (List D) := l.map fun r => [.sl (dR r)]
abbrev SI (l : List Int) : SV := .d (.sl (dI l))
abbrev SL (l : List (List Int)) : SV := .d (.sl (dL l))
abbrev SC (l : List HC) : SV := .d (.sl (dC l))
abbrev SQ (l : List HQ) : SV := .d (.sl (dQ l))
abbrev SRL (l : List (List Rng)) : SV := .d (.sl (dRL l))
abbrev Rng.s (r : Rng) : SV := .agg [I r.lo, I r.hi]
abbrev HC.s (p : HC) : SV := .agg [I p.row, I p.col]
abbrev HQ.s (p : HQ) : SV := .agg [I p.cell.row, I p.cell.col, I p.below, I p.above]
abbrev HT.s (t : HT) : SV := .agg [SL t.rows, I t.cap]
theorem dI_len (l : List Int) : (dI l).length = l.length := List.length_map ..
theorem dL_len (l : List (List Int)) : (dL l).length = l.length := List.length_map ..
theorem dW_len (l : List Nat) : (dW l).length = l.length := List.length_map ..
theorem dR_len (l : List Rng) : (dR l).length = l.length := List.length_map ..
theorem dC_len (l : List HC) : (dC l).length = l.length := List.length_map ..
theorem dQ_len (l : List HQ) : (dQ l).length = l.length := List.length_map ..
theorem dRL_len (l : List (List Rng)) : (dRL l).length = l.length := List.length_map ..
theorem map_get {α : Type} {f : α → List D} {l : List α} {n : Nat} (a : α) (h : n < l.length) : (l.map f).getD n [] = f (l.getD n a) := by
  simp [List.getD_eq_getElem?_getD, h]
theorem dI_get {l : List Int} {n : Nat} (h : n < l.length) : (dI l).getD n [] = [cI (l.getD n 0)] := map_get 0 h
theorem dL_get {l : List (List Int)} {n : Nat} (h : n < l.length) : (dL l).getD n [] = [.sl (dI (l.getD n []))] := map_get [] h
theorem dW_get {l : List Nat} {n : Nat} (h : n < l.length) : (dW l).getD n [] = [.lit (.int .u16 (l.getD n 0 : Nat))] := map_get 0 h
theorem dR_get {l : List Rng} {n : Nat} (h : n < l.length) : (dR l).getD n [] = (l.getD n default).d := map_get default h
theorem dC_get {l : List HC} {n : Nat} (h : n < l.length) : (dC l).getD n [] = (l.getD n default).d := map_get default h
theorem dQ_get {l : List HQ} {n : Nat} (h : n < l.length) : (dQ l).getD n [] = (l.getD n default).d := map_get default h
theorem dRL_get {l : List (List Rng)} {n : Nat} (h : n < l.length) : (dRL l).getD n [] = [.sl (dR (l.getD n []))] := map_get [] h
theorem dI_take (l : List Int) (n : Nat) : (dI l).take n = dI (l.take n) := (List.map_take ..).symm
theorem dI_drop (l : List Int) (n : Nat) : (dI l).drop n = dI (l.drop n) := (List.map_drop ..).symm
theorem dL_take (l : List (List Int)) (n : Nat) : (dL l).take n = dL (l.take n) := (List.map_take ..).symm
theorem dL_drop (l : List (List Int)) (n : Nat) : (dL l).drop n = dL (l.drop n) := (List.map_drop ..).symm
theorem dC_take (l : List HC) (n : Nat) : (dC l).take n = dC (l.take n) := (List.map_take ..).symm
theorem dC_drop (l : List HC) (n : Nat) : (dC l).drop n = dC (l.drop n) := (List.map_drop ..).symm
theorem dQ_take (l : List HQ) (n : Nat) : (dQ l).take n = dQ (l.take n) := (List.map_take ..).symm
theorem dQ_drop (l : List HQ) (n : Nat) : (dQ l).drop n = dQ (l.drop n) := (List.map_drop ..).symm
theorem dI_sz (l : List Int) : (∀ e ∈ dI l, e.length = 1) = True := by simp [dI]
theorem dL_sz (l : List (List Int)) : (∀ e ∈ dL l, e.length = 1) = True := by simp [dL]
theorem dW_sz (l : List Nat) : (∀ e ∈ dW l, e.length = 1) = True := by simp [dW]
theorem dR_sz (l : List Rng) : (∀ e ∈ dR l, e.length = 2) = True := by simp [dR]
theorem dC_sz (l : List HC) : (∀ e ∈ dC l, e.length = 2) = True := by simp [dC]
theorem dQ_sz (l : List HQ) : (∀ e ∈ dQ l, e.length = 4) = True := by simp [dQ]
theorem dRL_sz (l : List (List Rng)) : (∀ e ∈ dRL l, e.length = 1) = True := by simp [dRL]
theorem CallP.arg {G : Nat → Option (List D)} {f : FuncId} {args args' : List SV} {r : SV} (h : CallP Tryz.prog G f args' r) (ha : F2 (fun s s' => ∀ (pl : Nat → Option Pl) (ok : Nat → Prop) (w : World) (v : Value), SR pl ok w s v → SR pl ok w s' v) args args') : CallP Tryz.prog G f args r :=
  ⟨h.1, fun O pl w vs h1 h2 h3 h4 => h.2 O pl w vs h1 h2 (by rw [h3, ha.len]) fun i hi => ha.get i (by rw [ha.len]; exact hi) hi _ _ _ _ (h4 i (by rw [ha.len]; exact hi))⟩
theorem dxd (es : List (List D)) (pl : Nat → Option Pl) (ok : Nat → Prop) (w : World) (v : Value) (h : SR pl ok w (.dx es) v) : SR pl ok w (.d (.sl es)) v := by
  cases h with | dx _ a h => exact .d _ _ h
abbrev sxe :=
  And.intro (@Int.toNat_natCast) <|
  And.intro (@dI_take) <|
  And.intro (@dI_drop) <|
  And.intro (@dL_take) <|
  And.intro (@dL_drop) <|
  And.intro (@dC_take) <|
  And.intro (@dC_drop) <|
  And.intro (@dQ_take) <|
  And.intro (@dQ_drop) <|
  And.intro (@dI_sz) <|
  And.intro (@dL_sz) <|
  And.intro (@dW_sz) <|
  And.intro (@dR_sz) <|
  And.intro (@dC_sz) <|
  And.intro (@dQ_sz) <|
  And.intro (@dRL_sz) <|
  And.intro (@dI_len) <|
  And.intro (@dL_len) <|
  And.intro (@dW_len) <|
  And.intro (@dR_len) <|
  And.intro (@dC_len) <|
  And.intro (@dQ_len) <|
  And.intro (@dRL_len) <|
  And.intro (@dI_get) <|
  And.intro (@dL_get) <|
  And.intro (@dW_get) <|
  And.intro (@dR_get) <|
  And.intro (@dC_get) <|
  And.intro (@dQ_get) <|
  And.intro (@dRL_get) <|
  And.intro (@Int.natCast_nonneg) <|
  And.intro (@Int.ofNat_lt) <|
  And.intro (@Int.ofNat_le) <|
  @Int.toNat_natCast
end Go.Proofs.YtijechcadlklhaaGreat
namespace Go.Proofs.YtijechcadlklhaaGreat
open Go.Sy Go.Deep
section
variable {H : Type} {enc : TypeId × Value → H} {P : Program} {W : World} {spare : Nat → Bool}
def DRs (W : World) (ds : List D) (cs : List Value) : Prop := ds.length = cs.length ∧ ∀ j (h : j < ds.length), DR (fun _ => True) W ds[j] (cs.getD j undef)
def Reads {α : Type} (enc : TypeId × Value → H) (P : Program) (W : World) (spare : Nat → Bool) (t : TypeId) (n : Nat) (f : α → List D) : Prop :=
  ∀ fuel cs x, DataW.trod enc P W 0 spare true fuel t cs = some x → ∃ a : α, (f a).length = n ∧ DRs W (f a) cs
theorem reads_int {t : TypeId} (hu : P.underlying t = some (.int .i64)) : Reads enc P W spare t 1 (fun n : Int => [cI n]) := fun fuel cs x h => by
  obtain ⟨n, rfl, _⟩ := DataW.trod_int hu h
  refine ⟨n, rfl, rfl, fun j hj => ?_⟩
  obtain rfl : j = 0 := by simp at hj; omega
  exact DR.lit _ rfl
theorem exists_list {α : Type} {Q : Nat → α → Prop} : ∀ n, (∀ i, i < n → ∃ a, Q i a) → ∃ l : List α, l.length = n ∧ ∀ i (h : i < l.length), Q i l[i]
  | 0, _ => ⟨[], rfl, fun i h => absurd h (Nat.not_lt_zero _)⟩
  | n + 1, h => by
    obtain ⟨l, h1, h2⟩ := exists_list n fun i hi => h i (by omega)
    obtain ⟨a, ha⟩ := h n (by omega)
    refine ⟨l ++ [a], by simp [h1], fun i hi => ?_⟩
    by_cases hil : i < l.length
    · rw [List.getElem_append_left hil]; exact h2 i hil
    · have : i = n := by simp at hi; omega
      subst this
      rw [List.getElem_append_right (by omega)]
      simpa [h1] using ha
theorem cells_get {b : Addr} {n : Nat} {cs : List Value} (h : W.cells? 0 b n = some cs) : cs.length = n ∧ ∀ j, j < n → W.cell? (b.add j) = some (cs.getD j undef) := by
  unfold World.cells? at h
  rw [if_pos (Nat.zero_le _)] at h
  have hl := mapM_some_length h
  rw [List.length_range] at hl
  refine ⟨hl, fun j hj => ?_⟩
  have := mapM_some_get h j j (by simp [hj])
  rw [this, List.getElem?_eq_getElem (by omega)]
  simp [List.getD_eq_getElem?_getD, hl, hj]
theorem cell_some {a : Addr} {v : Value} (h : W.cell? a = some v) : a.spot = none ∧ a.block < W.heap.size := by
  unfold World.cell? at h
  split at h
  · rename_i c e f hc
    split at h
    · cases h
    · rename_i hs
      exact ⟨by simpa using hs, (Array.getElem?_eq_some_iff.1 hc).1⟩
  · cases h
theorem reads_slice {α : Type} {t e : TypeId} {n : Nat} {f : α → List D} (hu : P.underlying t = some (.slice e)) (hc : P.cellsOf e = n) (hn : n ≠ 0) (h : Reads enc P W spare e n f) : Reads enc P W spare t 1 (fun l : List α => [.sl (l.map f)]) := fun fuel cs x hx => by
  rcases open_slice hu hx with ⟨rfl, _⟩ | ⟨a, len, cap, m, n', Dd, Pl, rfl, _, hle, hcap, hm, _, hel⟩
  · refine ⟨[], rfl, rfl, fun j hj => ?_⟩
    obtain rfl : j = 0 := by simp at hj; omega
    exact DR.nil none 0
  · have hlm : len ≤ m := by rw [hm]; split <;> omega
    obtain ⟨l, hl, hq⟩ := exists_list (Q := fun i (p : α × List Value) => W.cells? 0 (a.add (i * n)) n = some p.2 ∧ (f p.1).length = n ∧ DRs W (f p.1) p.2) len (fun i hi => by
      obtain ⟨cs', h1, h2⟩ := hel i (by omega)
      rw [hc] at h1
      obtain ⟨y, h3, h4⟩ := h _ _ _ h2
      exact ⟨(y, cs'), h1, h3, h4⟩)
    refine ⟨l.map (·.1), rfl, rfl, fun j hj => ?_⟩
    obtain rfl : j = 0 := by simp at hj; omega
    show DR (fun _ => True) W (.sl ((l.map (·.1)).map f)) (.slice (some a) len cap)
    by_cases h0 : len = 0
    · subst h0
      obtain rfl := List.length_eq_zero_iff.1 hl
      exact DR.nil _ _
    · have q0 := (cells_get (hq 0 (by omega)).1).2 0 (by omega)
      rw [Nat.zero_mul] at q0
      have ea : (a.add 0).add 0 = a := rfl
      rw [ea] at q0
      obtain ⟨hsp, hbl⟩ := cell_some q0
      obtain ⟨B, off, sp⟩ := a
      simp only at hsp hbl
      subst hsp
      have hlen : ((l.map (·.1)).map f).length = len := by simp [hl]
      rw [← hlen]
      have hget : ∀ i (hi : i < ((l.map (·.1)).map f).length), ((l.map (·.1)).map f)[i] = f (l[i]'(by simpa using hi)).1 := fun i hi => by simp
      refine DR.sl n _ B off cap (fun i j => match l[i]? with | some p => p.2.getD j undef | none => undef) trivial hbl (by rw [hlen]; exact hle) (fun i hi => ?_) (fun i hi j hj => ?_) (fun i hi j hj => ?_)
      · rw [hget i hi]; exact (hq i (by simpa using hi)).2.1
      · have hi' : i < l.length := by simpa using hi
        rw [hget i hi] at hj
        have hjn : j < n := by rw [← (hq i hi').2.1]; exact hj
        have := (cells_get (hq i hi').1).2 j hjn
        rw [addr_add, addr_add] at this
        rw [List.getElem?_eq_getElem hi', ← this, Nat.add_assoc]
      · have hi' : i < l.length := by simpa using hi
        have hj' : j < (f (l[i]).1).length := by rw [← hget i hi]; exact hj
        have := (hq i hi').2.2.2 j hj'
        rw [List.getElem?_eq_getElem hi']
        simp only [hget i hi]
        exact this
theorem DRs.app {a b : List D} {c : List Value} (h1 : DRs W a (c.take a.length)) (h2 : DRs W b (c.drop a.length)) : DRs W (a ++ b) c := by
  obtain ⟨l1, g1⟩ := h1
  obtain ⟨l2, g2⟩ := h2
  rw [List.length_take] at l1
  rw [List.length_drop] at l2
  refine ⟨by rw [List.length_append]; omega, fun j hj => ?_⟩
  by_cases hja : j < a.length
  · rw [List.getElem_append_left hja]
    have := g1 j hja
    have e : (c.take a.length).getD j undef = c.getD j undef := by
      simp [List.getD_eq_getElem?_getD, hja]
    rw [e] at this; exact this
  · rw [List.getElem_append_right (by omega)]
    have := g2 (j - a.length) (by rw [List.length_append] at hj; omega)
    have e : (c.drop a.length).getD (j - a.length) undef = c.getD j undef := by
      simp only [List.getD_eq_getElem?_getD, List.getElem?_drop]
      congr 2; omega
    rw [e] at this; exact this
def Tile (W : World) (cs : List Value) : Nat → List (List D) → Prop
  | off, [] => cs.length = off
  | off, ds :: r => DRs W ds ((cs.drop off).take ds.length) ∧ Tile W cs (off + ds.length) r
theorem Tile.drs {cs : List Value} : ∀ (L : List (List D)) (off : Nat), Tile W cs off L → DRs W L.flatten (cs.drop off)
  | [], off, h => ⟨by rw [List.length_drop, show cs.length = off from h]; simp, fun j hj => absurd hj (Nat.not_lt_zero _)⟩
  | ds :: r, off, ⟨h1, h2⟩ => by
    have := Tile.drs r _ h2
    rw [List.flatten_cons]
    exact DRs.app h1 (by rw [List.drop_drop]; exact this)
theorem open_fields {t : TypeId} {cs : List Value} {fuel : Nat} {x : DataW H × List MemPlace} (L : List (TypeId × Nat)) (hu : (match P.underlying t with | some (.struct fs) => fs.toList.map (fun f => (f.type, f.offset)) | _ => []) = L) (hL : L ≠ [])
    (h : DataW.trod enc P W 0 spare true fuel t cs = some x) : cs.length = P.cellsOf t ∧ ∃ n : Nat, ∀ (i : Nat) (t' : TypeId) (o : Nat), L[i]? = some (t', o) → ∃ y, DataW.trod enc P W 0 spare true n t' ((cs.drop o).take (P.cellsOf t')) = some y := by
  split at hu
  · rename_i fs hfs
    obtain ⟨xs, n, _, _, h1, h2, h3⟩ := DataW.trod_struct hfs h
    refine ⟨h1, n, fun i t' o hi => ?_⟩
    rw [← hu, List.getElem?_map] at hi
    obtain ⟨f, hf, he⟩ := Option.map_eq_some_iff.1 hi
    simp only [Prod.mk.injEq] at he
    obtain ⟨rfl, rfl⟩ := he
    rw [Array.getElem?_toList] at hf
    have hlt : i < xs.length := by rw [h2]; exact (Array.getElem?_eq_some_iff.1 hf).1
    exact ⟨xs[i], by rw [h3 i f hf, List.getElem?_eq_getElem hlt]⟩
  · exact absurd hu.symm hL
end
end Go.Proofs.YtijechcadlklhaaGreat
namespace Go.Proofs.YtijechcadlklhaaGreat
open Go.Sy Go.Deep Go.ChangeShapes Go.WideShapes Go.ChangeAt Go.WideElems Go.RowKit
section
variable {H : Type} {enc : TypeId × Value → H} {W W' : World} {spare : Nat → Bool}
abbrev RI (enc : TypeId × Value → H) (W : World) (spare : Nat → Bool) : Reads enc Tryz.prog W spare 3 1 (fun n : Int => [cI n]) := reads_int (by kernel_rfl)
theorem rdCell : Reads enc Tryz.prog W spare 41 2 HC.d := fun fuel cs x h => by
  obtain ⟨hl, n, hf⟩ := open_fields [(3, 0), (3, 1)] (by kernel_rfl) (by simp) h
  obtain ⟨y0, h0⟩ := hf 0 3 0 rfl
  obtain ⟨y1, h1⟩ := hf 1 3 1 rfl
  obtain ⟨a, la, da⟩ := RI enc W spare _ _ _ h0
  obtain ⟨b, lb, db⟩ := RI enc W spare _ _ _ h1
  have hc3 : Tryz.prog.cellsOf 3 = 1 := by kernel_rfl
  rw [hc3] at da db
  rw [show Tryz.prog.cellsOf 41 = 2 by kernel_rfl] at hl
  exact ⟨⟨a, b⟩, rfl, Tile.drs [[cI a], [cI b]] 0 ⟨da, db, hl⟩⟩
theorem rdQ : Reads enc Tryz.prog W spare 43 4 HQ.d := fun fuel cs x h => by
  obtain ⟨hl, n, hf⟩ := open_fields [(41, 0), (3, 2), (3, 3)] (by kernel_rfl) (by simp) h
  obtain ⟨y0, h0⟩ := hf 0 41 0 rfl
  obtain ⟨y1, h1⟩ := hf 1 3 2 rfl
  obtain ⟨y2, h2⟩ := hf 2 3 3 rfl
  obtain ⟨c, lc, dc⟩ := rdCell _ _ _ h0
  obtain ⟨a, la, da⟩ := RI enc W spare _ _ _ h1
  obtain ⟨b, lb, db⟩ := RI enc W spare _ _ _ h2
  have hc3 : Tryz.prog.cellsOf 3 = 1 := by kernel_rfl
  rw [hc3] at da db
  rw [show Tryz.prog.cellsOf 41 = 2 by kernel_rfl] at dc
  rw [show Tryz.prog.cellsOf 43 = 4 by kernel_rfl] at hl
  exact ⟨⟨c, a, b⟩, rfl, Tile.drs [c.d, [cI a], [cI b]] 0 ⟨dc, da, db, hl⟩⟩
theorem rdCells : Reads enc Tryz.prog W spare 25 1 (fun l : List HC => [.sl (l.map HC.d)]) := reads_slice (e := 41) (n := 2) (by kernel_rfl) (by kernel_rfl) (by decide) rdCell
theorem rdQs : Reads enc Tryz.prog W spare 26 1 (fun l : List HQ => [.sl (l.map HQ.d)]) := reads_slice (e := 43) (n := 4) (by kernel_rfl) (by kernel_rfl) (by decide) rdQ
theorem rdI : Reads enc Tryz.prog W spare 44 1 (fun l : List Int => [.sl (l.map fun n => [cI n])]) := reads_slice (e := 3) (n := 1) (by kernel_rfl) (by kernel_rfl) (by decide) (RI enc W spare)
theorem rdL : Reads enc Tryz.prog W spare 22 1 (fun l : List (List Int) => [.sl (l.map fun l => [.sl (l.map fun n => [cI n])])]) := reads_slice (e := 44) (n := 1) (by kernel_rfl) (by kernel_rfl) (by decide) rdI
theorem rdT : Reads enc Tryz.prog W spare 24 2 (fun t : HT => [.sl (dL t.rows), cI t.cap]) := fun fuel cs x h => by
  obtain ⟨hl, n, hf⟩ := open_fields [(22, 0), (3, 1)] (by kernel_rfl) (by simp) h
  obtain ⟨y0, h0⟩ := hf 0 22 0 rfl
  obtain ⟨y1, h1⟩ := hf 1 3 1 rfl
  obtain ⟨a, la, da⟩ := rdL _ _ _ h0
  obtain ⟨b, lb, db⟩ := RI enc W spare _ _ _ h1
  rw [show Tryz.prog.cellsOf 22 = 1 by kernel_rfl] at da
  rw [show Tryz.prog.cellsOf 3 = 1 by kernel_rfl] at db
  rw [show Tryz.prog.cellsOf 24 = 2 by kernel_rfl] at hl
  exact ⟨⟨a, b⟩, rfl, Tile.drs [[.sl (dL a)], [cI b]] 0 ⟨da, db, hl⟩⟩
theorem agg_of {ds : List D} {v : Value} {pl : Nat → Option Pl} (h1 : ds.length ≠ 1) (h : DRs W ds v.cells.toList) : SR pl (fun B => ¬ False) W (.agg (ds.map .d)) v := by
  obtain ⟨hl, hd⟩ := h
  cases v
  case agg vs =>
    refine SR.agg _ _ (by simpa [Value.cells] using hl.symm) fun i hi => ?_
    rw [List.getElem_map]
    refine SR.d _ _ ?_
    have := hd i (by simpa using hi)
    simp only [Value.cells] at this
    have e : vs.toList.getD i undef = vs.getD i undef := by simp [List.getD_eq_getElem?_getD]
    rw [e] at this
    exact this.ext (Ext.weak fun _ _ _ h => h)
  all_goals exact absurd hl (by simpa [Value.cells] using h1)
theorem one_of {x : D} {v : Value} {pl : Nat → Option Pl} (hc : v.cells.toList = [v]) (h : DRs W [x] v.cells.toList) : SR pl (fun B => ¬ False) W (.d x) v := by
  obtain ⟨_, hd⟩ := h
  have := hd 0 (by simp)
  rw [hc] at this
  exact SR.d _ _ (this.ext (Ext.weak fun _ _ _ h => h))
theorem Tryz.ownK : ownKnob Tryz.prog.godebug = none := by kernel_rfl
theorem Tryz.laidOutK : laidOutB Tryz.prog = true := by kernel_rfl
theorem sameAt_add (h : Add W W') {p : MemPlace} (hp : p.block < W.heap.size) : W.sameAt W' p := by
  cases p with
  | cell b off => show W'.cell? ⟨b, off, none⟩ = W.cell? ⟨b, off, none⟩; unfold World.cell?; rw [h.keep b hp]
  | map b => exact h.keep b hp
theorem kept_add (h : Add W W') (may : MemPlace → Prop) : W.keptBut W' may :=
  ⟨h.os, h.out, fun i hi => by rw [h.keep i hi]; exact (World.keptBut_refl W may).2.2 i hi⟩
theorem trodAll_stays {sp' : Nat → Bool} : ∀ {ts : List TypeId} {vs : List Value} {ds : List (DataW H)} {ps : List MemPlace}, (∀ t ∈ ts, Tryz.prog.readableRec t = true ∧ t < Tryz.prog.types.size) →
    DataW.TrodAll enc Tryz.prog W 0 (fun _ => true) true ts vs ds ps → (∀ p ∈ ps, W.sameAt W' p) → (∀ p ∈ ps, sp' p.block = true) → DataW.TrodAll enc Tryz.prog W' 0 sp' true ts vs ds ps
  | [], [], [], _, _, h, _, _ => h
  | t :: ts, v :: vs, d :: ds, _, ht, ⟨p, q, h1, h2, e⟩, hs, hb => by
    subst e
    have h0 := ht t (List.mem_cons_self ..)
    exact ⟨p, q, Trod_stays Tryz.laidOutK h0.1 h0.2 h1 (fun x hx => hs x (List.mem_append_left _ hx)) (fun x hx => hb x (List.mem_append_left _ hx)),
      trodAll_stays (fun t hh => ht t (List.mem_cons_of_mem _ hh)) h2 (fun x hx => hs x (List.mem_append_right _ hx)) (fun x hx => hb x (List.mem_append_right _ hx)), rfl⟩
theorem post_true {fn : Func} {s : ChangeSpec} {args : Array Value} {ds gs : List (DataW H)} {before : List MemPlace} (hv : s.vars = []) (hres : fn.resultTypes = #[4])
    (hpar : ∀ t ∈ fn.params.toList, Tryz.prog.readableRec t = true ∧ t < Tryz.prog.types.size)
    (hW : DataW.Whole enc Tryz.prog fn.params.toList s.vars false W args.toList ds gs before) (hf : s.fn H ds = { results := [.lit (.bool true)], args := ds }) (ha : Add W W') :
    s.post enc Tryz.prog fn false true false false W args (.bool true) W' := by
  have hW0 := hW
  obtain ⟨p, q, h1, h2, e, hz, hn⟩ := hW
  have h4 : Tryz.prog.underlying 4 = some .bool := by kernel_rfl
  rw [hv] at h2
  have hgs : gs = [] ∧ q = [] := trodVars_none h2
  obtain ⟨rfl, rfl⟩ := hgs
  have hlt := hW0.lt
  have hb : ∀ p ∈ before, (fun b => decide (b < W.heap.size)) p.block = true := fun p hp => by simpa using hlt p hp
  rw [List.append_nil] at e
  subst e
  have hr : (Value.bool true).resultList fn.resultTypes.size = [.bool true] := by rw [hres]; rfl
  refine ⟨ds, [], before, [], before, [], hW0, ?_, ?_, ?_, ?_, fun hh => by cases hh⟩
  · rw [List.append_nil, hf, hr, hres]
    exact trodAll_mk1 (shut_bool h4 true)
  · rw [List.append_nil, hf]
    exact trodAll_stays hpar h1 (fun x hx => sameAt_add ha (hlt x hx)) hb
  · rw [List.append_nil, hf, hv]
    exact (rfl : ([] : List MemPlace) = [])
  · exact kept_add ha _
end
end Go.Proofs.YtijechcadlklhaaGreat
namespace Go.Proofs.YtijechcadlklhaaGreat
def HW.sat (w : HW) (q : HQ) : Bool := decide (w.lo q.cell.row.toNat q.cell.col.toNat ≤ cellAt w.rows q.cell.row.toNat q.cell.col.toNat - q.below) && decide (w.hi q.cell.row.toNat q.cell.col.toNat ≥ cellAt w.rows q.cell.row.toNat q.cell.col.toNat + q.above)
def HT.okQ (t : HT) (q : HQ) : Bool := t.isCell q.cell && inR q.below 0 1000 && inR q.above 0 1000
def satR (t : HT) (l : List HC) (q : HQ) : Bool := canS t l q.cell (tcell t q.cell - q.below) && canS t l q.cell (tcell t q.cell + q.above)
theorem satR_eq {t : HT} {l : List HC} (h : t.pub l = 0) {q : HQ} (hq : t.okQ q = true) : satR t l q = (t.w l).sat q := by
  unfold HT.okQ at hq
  rw [Bool.and_eq_true, Bool.and_eq_true, inR_iff, inR_iff] at hq
  obtain ⟨⟨hc, hb⟩, ha⟩ := hq
  have hle := (HT.w_ok h).lo_le q.cell.row.toNat q.cell.col.toNat
  have e : ∀ a b : Bool, (a = true ↔ b = true) → a = b := by intro a b; cases a <;> cases b <;> simp
  apply e
  unfold satR HW.sat
  rw [Bool.and_eq_true, Bool.and_eq_true, canS_iff h hc, canS_iff h hc, (HT.w_ok h).can_iff, (HT.w_ok h).can_iff, decide_eq_true_eq, decide_eq_true_eq]
  have e1 : tcell t q.cell = cellAt (t.w l).rows q.cell.row.toNat q.cell.col.toNat := rfl
  rw [e1]
  omega
theorem HidOk.ext {n m : Nat} : ∀ {l l' : List HC}, HidOk n m l → HidOk n m l' → m ≤ 4 → (∀ c, c ∈ l ↔ c ∈ l') → l = l'
  | [], [], _, _, _, _ => rfl
  | [], x :: l', _, _, _, h => absurd ((h x).2 List.mem_cons_self) (by simp)
  | x :: l, [], _, _, _, h => absurd ((h x).1 List.mem_cons_self) (by simp)
  | x :: l, y :: l', hl, hl', hm, h => by
    have h1 := List.pairwise_cons.1 hl.lt
    have h2 := List.pairwise_cons.1 hl'.lt
    have hx := (h x).1 List.mem_cons_self
    have hy := (h y).2 List.mem_cons_self
    have e : x = y := by
      rcases List.mem_cons.1 hx with hx | hx
      · exact hx
      · rcases List.mem_cons.1 hy with hy | hy
        · exact hy.symm
        · have a := h1.1 y hy
          have b := h2.1 x hx
          omega
    subst e
    congr 1
    refine HidOk.ext ⟨fun c hc => hl.cell c (List.mem_cons_of_mem _ hc), h1.2⟩ ⟨fun c hc => hl'.cell c (List.mem_cons_of_mem _ hc), h2.2⟩ hm fun c => ⟨fun hc => ?_, fun hc => ?_⟩
    · rcases List.mem_cons.1 ((h c).1 (List.mem_cons_of_mem _ hc)) with rfl | h'
      · exact absurd (h1.1 c hc) (by omega)
      · exact h'
    · rcases List.mem_cons.1 ((h c).2 (List.mem_cons_of_mem _ hc)) with rfl | h'
      · exact absurd (h2.1 c hc) (by omega)
      · exact h'
def gridC (n m : Nat) : List HC := (List.range n).flatMap fun r => (List.range m).map fun c => ⟨(r : Nat), (c : Nat)⟩
theorem mem_gridC {n m : Nat} {c : HC} : c ∈ gridC n m ↔ 0 ≤ c.row ∧ c.row < n ∧ 0 ≤ c.col ∧ c.col < m := by
  unfold gridC
  rw [List.mem_flatMap]
  constructor
  · rintro ⟨r, hr, h⟩
    obtain ⟨k, hk, rfl⟩ := List.mem_map.1 h
    rw [List.mem_range] at hr hk
    simp only
    omega
  · intro h
    refine ⟨c.row.toNat, List.mem_range.2 (by omega), List.mem_map.2 ⟨c.col.toNat, List.mem_range.2 (by omega), ?_⟩⟩
    cases c
    simp only at h ⊢
    congr 1 <;> omega
theorem pairwise_range_lt : ∀ n, (List.range n).Pairwise (· < ·) := fun n => List.pairwise_lt_range
theorem gridC_ok {n m : Nat} (hm : m ≤ 4) : HidOk n m (gridC n m) := by
  refine ⟨fun c hc => mem_gridC.1 hc, ?_⟩
  unfold gridC
  rw [List.pairwise_flatMap]
  refine ⟨fun r _ => ?_, ?_⟩
  · rw [List.pairwise_map]
    exact (pairwise_range_lt m).imp fun {a b} h => by simp [HC.key]; omega
  · refine (pairwise_range_lt n).imp fun {a b} h x hx y hy => ?_
    obtain ⟨i, hi, rfl⟩ := List.mem_map.1 hx
    obtain ⟨j, hj, rfl⟩ := List.mem_map.1 hy
    rw [List.mem_range] at hi hj
    simp [HC.key]
    omega
theorem HidOk.filter {n m : Nat} {l : List HC} (h : HidOk n m l) (p : HC → Bool) : HidOk n m (l.filter p) :=
  ⟨fun c hc => h.cell c (List.mem_filter.1 hc).1, h.lt.filter p⟩
theorem HidOk.nodup {n m : Nat} {l : List HC} (h : HidOk n m l) : l.Nodup := h.lt.imp fun {a b} h e => by subst e; omega
end Go.Proofs.YtijechcadlklhaaGreat
namespace Go.Proofs.YtijechcadlklhaaGreat
def insR (x : HC) : List HC → List HC
  | [] => [x]
  | y :: l => if x.cmp y < 0 then y :: insR x l else x :: y :: l
def isort8 (l : List HC) : List HC := (l.foldl (fun acc x => insR x acc) []).reverse
theorem mem_insR {x c : HC} : ∀ {l : List HC}, c ∈ insR x l ↔ c = x ∨ c ∈ l
  | [] => by simp [insR]
  | y :: l => by
    unfold insR
    split
    · simp only [List.mem_cons, mem_insR (l := l)]
      constructor
      · rintro (h | h | h) <;> simp [h]
      · rintro (h | h | h) <;> simp [h]
    · simp
theorem insR_len {x : HC} : ∀ {l : List HC}, (insR x l).length = l.length + 1
  | [] => rfl
  | y :: l => by
    unfold insR
    split
    · simp [insR_len (l := l)]
    · simp
theorem insR_sorted {x : HC} (hx : 0 ≤ x.row ∧ 0 ≤ x.col ∧ x.col < 4) : ∀ {l : List HC}, (∀ c ∈ l, 0 ≤ c.row ∧ 0 ≤ c.col ∧ c.col < 4) → x ∉ l → l.Pairwise (fun a b => b.key < a.key) → (insR x l).Pairwise (fun a b => b.key < a.key)
  | [], _, _, _ => by simp [insR]
  | y :: l, hv, hn, hp => by
    have hy := hv y List.mem_cons_self
    have h1 := List.pairwise_cons.1 hp
    unfold insR
    split
    · rename_i h
      rw [cmp_key hx hy] at h
      refine .cons (fun c hc => ?_) (insR_sorted hx (fun c hc => hv c (List.mem_cons_of_mem _ hc)) (fun h => hn (List.mem_cons_of_mem _ h)) h1.2)
      rcases mem_insR.1 hc with rfl | hc
      · exact h
      · exact h1.1 c hc
    · rename_i h
      rw [cmp_key hx hy] at h
      have hne : x.key ≠ y.key := by
        intro e
        apply hn
        have : x = y := by
          cases x; cases y
          simp only [HC.key] at e hx hy
          congr 1 <;> omega
        rw [this]; exact List.mem_cons_self
      refine .cons (fun c hc => ?_) hp
      rcases List.mem_cons.1 hc with rfl | hc
      · omega
      · have := h1.1 c hc; omega
theorem foldR_law : ∀ {l acc : List HC}, (∀ c ∈ l ++ acc, 0 ≤ c.row ∧ 0 ≤ c.col ∧ c.col < 4) → (l ++ acc).Nodup → acc.Pairwise (fun a b => b.key < a.key) →
    (l.foldl (fun acc x => insR x acc) acc).Pairwise (fun a b => b.key < a.key) ∧ ∀ c, c ∈ l.foldl (fun acc x => insR x acc) acc ↔ c ∈ l ∨ c ∈ acc
  | [], acc, _, _, hp => ⟨hp, fun c => by simp⟩
  | x :: l, acc, hv, hd, hp => by
    have hd' := List.nodup_cons.1 hd
    have ih := foldR_law (l := l) (acc := insR x acc) (fun c hc => by
      rcases List.mem_append.1 hc with h | h
      · exact hv c (List.mem_append.2 (.inl (List.mem_cons_of_mem _ h)))
      · rcases mem_insR.1 h with rfl | h
        · exact hv c (by simp)
        · exact hv c (List.mem_append.2 (.inr h))) (by
      have h2 := List.nodup_append.1 hd'.2
      rw [List.nodup_append]
      refine ⟨h2.1, ?_, fun a ha b hb e => ?_⟩
      · have := insR_sorted (hv x (by simp)) (fun c hc => hv c (List.mem_append.2 (.inr hc))) (fun h => hd'.1 (List.mem_append.2 (.inr h))) hp
        exact this.imp fun {a b} h e => by subst e; omega
      · subst e
        rcases mem_insR.1 hb with rfl | h
        · exact hd'.1 (List.mem_append.2 (.inl ha))
        · exact h2.2.2 a ha a h rfl)
      (insR_sorted (hv x (by simp)) (fun c hc => hv c (List.mem_append.2 (.inr hc))) (fun h => hd'.1 (List.mem_append.2 (.inr h))) hp)
    refine ⟨ih.1, fun c => ?_⟩
    show c ∈ l.foldl (fun acc x => insR x acc) (insR x acc) ↔ _
    rw [ih.2 c, mem_insR, List.mem_cons]
    constructor
    · rintro (h | h | h) <;> simp [h]
    · rintro ((h | h) | h) <;> simp [h]
theorem isort8_ok {n m : Nat} {l : List HC} (hm : m ≤ 4) (hv : ∀ c ∈ l, 0 ≤ c.row ∧ c.row < n ∧ 0 ≤ c.col ∧ c.col < m) (hd : l.Nodup) : HidOk n m (isort8 l) ∧ ∀ c, c ∈ isort8 l ↔ c ∈ l := by
  have h := foldR_law (l := l) (acc := []) (fun c hc => by
    have := hv c (by simpa using hc)
    omega) (by simpa using hd) .nil
  have hmem : ∀ c, c ∈ isort8 l ↔ c ∈ l := fun c => by
    unfold isort8
    rw [List.mem_reverse, h.2 c]
    simp
  refine ⟨⟨fun c hc => hv c ((hmem c).1 hc), ?_⟩, hmem⟩
  unfold isort8
  rw [List.pairwise_reverse]
  exact h.1
theorem foldR_len : ∀ (l acc : List HC), (l.foldl (fun acc x => insR x acc) acc).length = l.length + acc.length
  | [], acc => by simp
  | x :: l, acc => by rw [List.foldl_cons, foldR_len l, insR_len, List.length_cons]; omega
theorem isort8_len (l : List HC) : (isort8 l).length = l.length := by
  unfold isort8
  rw [List.length_reverse, foldR_len]
  simp
def cmpLS : List HC → List HC → Int
  | [], [] => 0
  | [], _ :: _ => -1
  | _ :: _, [] => 1
  | a :: l, b :: l' => if a.cmp b ≠ 0 then a.cmp b else cmpLS l l'
theorem cmp_self (a : HC) : a.cmp a = 0 := by simp [HC.cmp, cmpI8]
theorem cmp_zero {a b : HC} (h : a.cmp b = 0) : a = b := by
  unfold HC.cmp cmpI8 at h
  cases a; cases b
  simp only at h
  congr 1
  · split at h <;> (repeat' split at h) <;> omega
  · split at h <;> (repeat' split at h) <;> omega
theorem cmp_anti (a b : HC) : b.cmp a = - a.cmp b := by
  unfold HC.cmp cmpI8
  (repeat' split) <;> omega
theorem cmp_neg {a b : HC} : a.cmp b < 0 ↔ a.row < b.row ∨ (a.row = b.row ∧ a.col < b.col) := by
  have e : ∀ x y : Int, (cmpI8 x y ≠ 0 ↔ x ≠ y) ∧ (cmpI8 x y < 0 ↔ x < y) := by
    intro x y
    unfold cmpI8
    split
    · omega
    · split <;> omega
  unfold HC.cmp
  by_cases h : cmpI8 a.row b.row ≠ 0
  · rw [if_pos h, (e _ _).2]
    have := (e _ _).1.1 h
    omega
  · rw [if_neg h, (e _ _).2]
    have := mt (e _ _).1.2 h
    omega
theorem cmp_trans {a b c : HC} (h1 : a.cmp b < 0) (h2 : b.cmp c < 0) : a.cmp c < 0 := by
  rw [cmp_neg] at *
  omega
theorem cmpLS_self : ∀ l, cmpLS l l = 0
  | [] => rfl
  | a :: l => by rw [cmpLS, if_neg (by simp [cmp_self]), cmpLS_self l]
theorem cmpLS_anti : ∀ l l', cmpLS l' l = - cmpLS l l'
  | [], [] => rfl
  | [], _ :: _ => rfl
  | _ :: _, [] => rfl
  | a :: l, b :: l' => by
    rw [cmpLS, cmpLS, cmp_anti a b]
    by_cases h : a.cmp b = 0
    · rw [if_neg (by omega), if_neg (by omega), cmpLS_anti l l']
    · rw [if_pos (by omega), if_pos h]
theorem cmpLS_trans : ∀ {l1 l2 l3 : List HC}, cmpLS l1 l2 ≤ 0 → cmpLS l2 l3 ≤ 0 → cmpLS l1 l3 ≤ 0
  | [], _, [], _, _ => by simp [cmpLS]
  | [], _, _ :: _, _, _ => by simp [cmpLS]
  | _ :: _, [], _, h, _ => by simp [cmpLS] at h
  | _ :: _, _ :: _, [], _, h => by simp [cmpLS] at h
  | a :: l1, b :: l2, c :: l3, h1, h2 => by
    rw [cmpLS] at h1 h2 ⊢
    by_cases e1 : a.cmp b = 0
    · rw [if_neg (by omega)] at h1
      have := cmp_zero e1
      subst this
      by_cases e2 : a.cmp c = 0
      · rw [if_neg (by omega)] at h2 ⊢
        exact cmpLS_trans h1 h2
      · rw [if_pos e2] at h2 ⊢; exact h2
    · rw [if_pos e1] at h1
      by_cases e2 : b.cmp c = 0
      · have := cmp_zero e2
        subst this
        rw [if_pos e1]; exact h1
      · rw [if_pos e2] at h2
        have := cmp_trans (a := a) (b := b) (c := c) (by omega) (by omega)
        rw [if_pos (by omega)]; omega
def subTo (F : List HC) (bits : Nat) : Nat → List HC
  | 0 => []
  | k + 1 => subTo F bits k ++ if bits.testBit k then [F.getD k default] else []
def subB (F : List HC) (bits : Nat) : List HC := subTo F bits F.length
theorem subTo_cons (x : HC) (F : List HC) (b : Nat) : ∀ k, subTo (x :: F) b (k + 1) = (if b.testBit 0 then [x] else []) ++ subTo F (b / 2) k
  | 0 => by simp [subTo]
  | k + 1 => by
    rw [subTo, subTo_cons x F b k, subTo, List.append_assoc, Nat.testBit_succ]
    simp
theorem subB_cons (x : HC) (F : List HC) (b : Nat) : subB (x :: F) b = (if b.testBit 0 then [x] else []) ++ subB F (b / 2) := subTo_cons x F b _
theorem subB_sublist : ∀ (F : List HC) (b : Nat), (subB F b).Sublist F
  | [], b => by simp [subB, subTo]
  | x :: F, b => by
    rw [subB_cons]
    split
    · exact .cons_cons x (subB_sublist F _)
    · simpa using List.Sublist.cons x (subB_sublist F (b / 2))
def stepB (F : List HC) (g : List HC → Bool) (W : List HC → List HC) (many : Nat) (st : List HC × Bool) (b : Nat) : List HC × Bool :=
  if (!decide ((subB F b).length = many) || (st.2 && decide (cmpLS (W (subB F b)) (W st.1) > 0))) = true then st else if g (subB F b) then (subB F b, true) else st
def innerB (F : List HC) (g : List HC → Bool) (W : List HC → List HC) (many : Nat) : Nat → List HC × Bool
  | 0 => ([], false)
  | k + 1 => stepB F g W many (innerB F g W many k) k
def bestG (F : List HC) (g : List HC → Bool) (W : List HC → List HC) : Nat → Nat → List HC
  | 0, _ => []
  | r + 1, many => if (innerB F g W many (2 ^ F.length)).2 then (innerB F g W many (2 ^ F.length)).1 else bestG F g W r (many + 1)
theorem inner_law {F : List HC} {g : List HC → Bool} {W : List HC → List HC} {many : Nat} : ∀ k,
    ((innerB F g W many k).2 = false → (innerB F g W many k).1 = [] ∧ ∀ b, b < k → ¬ ((subB F b).length = many ∧ g (subB F b) = true)) ∧
    ((innerB F g W many k).2 = true → ∃ b, b < k ∧ (subB F b).length = many ∧ g (subB F b) = true ∧ (innerB F g W many k).1 = subB F b ∧
      ∀ b', b' < k → (subB F b').length = many → g (subB F b') = true → cmpLS (W (subB F b)) (W (subB F b')) ≤ 0)
  | 0 => ⟨fun _ => ⟨rfl, fun b h => absurd h (Nat.not_lt_zero _)⟩, fun h => (by cases h)⟩
  | k + 1 => by
    have ih := inner_law (F := F) (g := g) (W := W) (many := many) k
    rw [innerB]
    generalize hst : innerB F g W many k = st at ih
    obtain ⟨l, is⟩ := st
    unfold stepB
    by_cases hc : (!decide ((subB F k).length = many) || (is && decide (cmpLS (W (subB F k)) (W l) > 0))) = true
    · rw [if_pos hc]
      simp only [Bool.or_eq_true, Bool.not_eq_true', decide_eq_false_iff_not, Bool.and_eq_true, decide_eq_true_eq] at hc
      refine ⟨fun h => ⟨(ih.1 h).1, fun b hb => ?_⟩, fun h => ?_⟩
      · by_cases e : b = k
        · subst e
          rcases hc with hc | hc
          · exact fun h' => hc h'.1
          · have : is = false := h
            rw [this] at hc; cases hc.1
        · exact (ih.1 h).2 b (by omega)
      · obtain ⟨b, h1, h2, h3, h4, h5⟩ := ih.2 h
        refine ⟨b, by omega, h2, h3, h4, fun b' hb' hl hg => ?_⟩
        by_cases e : b' = k
        · subst e
          rcases hc with hc | hc
          · exact absurd hl hc
          · have h4' : l = subB F b := h4
            have := hc.2
            rw [h4', cmpLS_anti] at this
            omega
        · exact h5 b' (by omega) hl hg
    · rw [if_neg hc]
      simp only [Bool.or_eq_true, Bool.not_eq_true', decide_eq_false_iff_not, Bool.and_eq_true, decide_eq_true_eq, not_or, not_and] at hc
      by_cases hg : g (subB F k) = true
      · rw [if_pos hg]
        refine ⟨fun h => (by cases h), fun _ => ⟨k, by omega, by have := hc.1; simpa using this, hg, rfl, fun b' hb' hl hg' => ?_⟩⟩
        by_cases e : b' = k
        · subst e; rw [cmpLS_self]; exact Int.le_refl _
        · cases his : is with
          | false => exact absurd ⟨hl, hg'⟩ ((ih.1 his).2 b' (by omega))
          | true =>
            obtain ⟨b, h1, h2, h3, h4, h5⟩ := ih.2 his
            have h6 := hc.2 his
            have h4' : l = subB F b := h4
            rw [h4'] at h6
            exact cmpLS_trans (by omega) (h5 b' (by omega) hl hg')
      · rw [if_neg hg]
        refine ⟨fun h => ⟨(ih.1 h).1, fun b hb => ?_⟩, fun h => ?_⟩
        · by_cases e : b = k
          · subst e; exact fun h' => hg h'.2
          · exact (ih.1 h).2 b (by omega)
        · obtain ⟨b, h1, h2, h3, h4, h5⟩ := ih.2 h
          refine ⟨b, by omega, h2, h3, h4, fun b' hb' hl hg' => ?_⟩
          by_cases e : b' = k
          · subst e; exact absurd hg' hg
          · exact h5 b' (by omega) hl hg'
end Go.Proofs.YtijechcadlklhaaGreat
