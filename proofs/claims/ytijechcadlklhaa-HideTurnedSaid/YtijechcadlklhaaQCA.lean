/- Lemmas, part QCA. Conditions: none. -/
import Derived.Test.YtijechcadlklhaaQABB
set_option linter.unusedVariables false
namespace Go.Sy
theorem Ox_put (O : Nat → Prop) (a : Act) (dst : Option Tmp) (v : Value) : Ox O (a.put dst v) = Ox O a := by cases dst <;> rfl
section
variable {P : Program} {G : Nat → Option (List D)} {ro : Option Nat} {st : St} {Q : Exit → St → Prop}
end
end Go.Sy
namespace Go.Proofs.Ytijechcadlklhaa
theorem HW.Cand.Can {w : HW} {n m : Nat} (hw : w.Ok n m) {y : Rows8} (hy : w.Cand n m y) (r c : Nat) : w.Can r c (cellAt y r c) := by
  unfold HW.Can
  cases hh : w.h r c
  · simp [hy.fit.shown r c hh]
  · simp only [if_true]; exact hy.can hw hh
end Go.Proofs.Ytijechcadlklhaa
namespace Go.Proofs.Ytijechcadlklhaa
section
variable {t : HT} {l : List HC}
end
def setR (n m bits : Nat) : List HC := (gridC n m).filter fun c => bits.testBit (c.row.toNat * m + c.col.toNat)
theorem setR_ok {n m : Nat} (hm : m ≤ 4) (b : Nat) : HidOk n m (setR n m b) := (gridC_ok hm).filter _
theorem mem_setR {n m b : Nat} {c : HC} : c ∈ setR n m b ↔ c ∈ gridC n m ∧ b.testBit (c.row.toNat * m + c.col.toNat) = true := List.mem_filter
theorem idx_inj {m a b c d : Nat} (hb : b < m) (hd : d < m) (h : a * m + b = c * m + d) : a = c ∧ b = d := by
  have h1 : (a * m + b) / m = a := by rw [Nat.mul_comm, Nat.mul_add_div (by omega), Nat.div_eq_of_lt hb]; omega
  have h2 : (c * m + d) / m = c := by rw [Nat.mul_comm, Nat.mul_add_div (by omega), Nat.div_eq_of_lt hd]; omega
  rw [h, h2] at h1
  subst h1
  omega
end Go.Proofs.Ytijechcadlklhaa
namespace Go.Proofs.Ytijechcadlklhaa
theorem cell_out {n m : Nat} {rows : Rows8} (h : Dim n m rows) {r c : Nat} (ho : ¬ (r < n ∧ c < m)) : cellAt rows r c = 0 := by
  unfold cellAt
  by_cases hr : r < n
  · have hc : m ≤ c := by omega
    have := h.2 r hr
    rw [List.getD_eq_getElem?_getD (l := rows.getD r []), List.getElem?_eq_none (by omega)]
    rfl
  · rw [List.getD_eq_getElem?_getD (l := rows), List.getElem?_eq_none (by rw [h.1]; omega)]
    rfl
end Go.Proofs.Ytijechcadlklhaa
namespace Go.Proofs.Ytijechcadlklhaa
theorem iso_ends {w w' : HW} {n m n' m' : Nat} (hw : w.Ok n m) (hw' : w'.Ok n' m') {r c r' c' : Nat} (h : ∀ y, w.Cand n m y → ∃ y', w'.Cand n' m' y' ∧ cellAt y' r' c' = cellAt y r c) : w'.lo r' c' ≤ w.lo r c ∧ w.hi r c ≤ w'.hi r' c' := by
  obtain ⟨y1, h1, e1⟩ := h _ (hw.ends false r c)
  obtain ⟨y2, h2, e2⟩ := h _ (hw.ends true r c)
  have a := h1.Can hw' r' c'
  have b := h2.Can hw' r' c'
  rw [hw'.can_iff, e1] at a
  rw [hw'.can_iff, e2] at b
  exact ⟨a.1, b.2⟩
def rot (k : Nat) (y : Rows8) : Rows8 := y.drop k ++ y.take k
theorem rot_at {n m : Nat} {y : Rows8} (h : Dim n m y) {k : Nat} (hk : k ≤ n) {i : Nat} (hi : i < n) (c : Nat) : cellAt (rot k y) i c = cellAt y ((i + k) % n) c := by
  unfold cellAt rot
  congr 1
  rw [List.getD_eq_getElem?_getD, List.getD_eq_getElem?_getD]
  congr 1
  by_cases hc : i + k < n
  · rw [List.getElem?_append_left (by rw [List.length_drop, h.1]; omega), List.getElem?_drop, Nat.mod_eq_of_lt hc, Nat.add_comm k i]
  · rw [List.getElem?_append_right (by rw [List.length_drop, h.1]; omega), List.length_drop, h.1, List.getElem?_take, if_pos (by omega)]
    congr 1
    rw [Nat.mod_eq_sub_mod (by omega), Nat.mod_eq_of_lt (by omega)]
    omega
theorem rot_dim {n m : Nat} {y : Rows8} (h : Dim n m y) {k : Nat} (hk : k ≤ n) : Dim n m (rot k y) := by
  refine ⟨by unfold rot; rw [List.length_append, List.length_drop, List.length_take, h.1]; omega, fun r hr => ?_⟩
  unfold rot
  rw [List.getD_eq_getElem?_getD]
  by_cases hc : r + k < n
  · rw [List.getElem?_append_left (by rw [List.length_drop, h.1]; omega), List.getElem?_drop, ← List.getD_eq_getElem?_getD]
    exact h.2 _ (by omega)
  · rw [List.getElem?_append_right (by rw [List.length_drop, h.1]; omega), List.length_drop, h.1, List.getElem?_take, if_pos (by omega), ← List.getD_eq_getElem?_getD]
    exact h.2 _ (by omega)
theorem rot_back {n m : Nat} {y : Rows8} (h : Dim n m y) {k : Nat} (hk : k ≤ n) : rot (n - k) (rot k y) = y := by
  unfold rot
  rw [List.drop_left' (by rw [List.length_drop, h.1]), List.take_left' (by rw [List.length_drop, h.1]), List.take_append_drop]
theorem mod_add' {i k n : Nat} (hi : i < n) (hk : k ≤ n) : (i + k) % n = if i + k < n then i + k else i + k - n := by
  split
  · rename_i e; exact Nat.mod_eq_of_lt e
  · rename_i e; rw [Nat.mod_eq_sub_mod (by omega), Nat.mod_eq_of_lt (by omega)]
theorem mod_sub' {i k n : Nat} (hi : i < n) (hk : k ≤ n) : (i + n - k) % n = if i + n - k < n then i + n - k else i - k := by
  split
  · rename_i e; exact Nat.mod_eq_of_lt e
  · rename_i e; rw [Nat.mod_eq_sub_mod (by omega), Nat.mod_eq_of_lt (by omega)]; omega
theorem rs8_cell (y : Rows8) (i : Nat) : rs8 y i = cellAt y i 0 + cellAt y i 1 + cellAt y i 2 + cellAt y i 3 := rfl
theorem rot_cs {n m : Nat} {y : Rows8} (h : Dim n m y) (hn : n ≤ 3) {k : Nat} (hk : k ≤ n) (c : Nat) : cs8 (rot k y) c = cs8 y c := by
  have hd := rot_dim h hk
  unfold cs8
  have z : ∀ i, n ≤ i → cellAt y i c = 0 := fun i hi => cell_out h (by omega)
  have z' : ∀ i, n ≤ i → cellAt (rot k y) i c = 0 := fun i hi => cell_out hd (by omega)
  have a := fun i (hi : i < n) => rot_at h hk hi c
  have hn' : n = 0 ∨ n = 1 ∨ n = 2 ∨ n = 3 := by omega
  rcases hn' with rfl | rfl | rfl | rfl
  · rw [z 0 (by omega), z 1 (by omega), z 2 (by omega), z' 0 (by omega), z' 1 (by omega), z' 2 (by omega)]
  · rw [z 1 (by omega), z 2 (by omega), z' 1 (by omega), z' 2 (by omega), a 0 (by omega)]
    simp [Nat.mod_one]
  · rw [z 2 (by omega), z' 2 (by omega), a 0 (by omega), a 1 (by omega)]
    have : k = 0 ∨ k = 1 ∨ k = 2 := by omega
    rcases this with rfl | rfl | rfl <;> simp <;> omega
  · rw [a 0 (by omega), a 1 (by omega), a 2 (by omega)]
    have : k = 0 ∨ k = 1 ∨ k = 2 ∨ k = 3 := by omega
    rcases this with rfl | rfl | rfl | rfl <;> simp <;> omega
theorem rot_cand {w w' : HW} {n m : Nat} (hw : w.Ok n m) (hw' : w'.Ok n m) {k : Nat} (hk : k ≤ n) (hr : w'.rows = rot k w.rows) (hc : w'.cap = w.cap) (hh : ∀ i c, i < n → w'.h i c = w.h ((i + k) % n) c) {y : Rows8} (hy : w.Cand n m y) : w'.Cand n m (rot k y) := by
  have hn := hw.n0
  have hd := hy.fit.dim
  have hwd := hw.dim
  refine ⟨⟨rot_dim hd hk, fun r c h1 h2 => ?_, fun r c h => ?_⟩, fun r => ?_, fun c => ?_⟩
  · rw [rot_at hd hk h1, hc]
    exact hy.fit.cell _ c (Nat.mod_lt _ hn) h2
  · by_cases hrn : r < n
    · rw [hr, rot_at hd hk hrn, rot_at hwd hk hrn]
      rw [hh r c hrn] at h
      exact hy.fit.shown _ c h
    · rw [cell_out (rot_dim hd hk) (by omega), cell_out hw'.dim (by omega)]
  · by_cases hrn : r < n
    · rw [hr]
      have := hy.row ((r + k) % n)
      simp only [rs8_cell] at this ⊢
      rw [rot_at hd hk hrn, rot_at hd hk hrn, rot_at hd hk hrn, rot_at hd hk hrn, rot_at hwd hk hrn, rot_at hwd hk hrn, rot_at hwd hk hrn, rot_at hwd hk hrn]
      exact this
    · simp only [rs8_cell]
      rw [cell_out (rot_dim hd hk) (by omega), cell_out (rot_dim hd hk) (by omega), cell_out (rot_dim hd hk) (by omega), cell_out (rot_dim hd hk) (by omega), cell_out hw'.dim (by omega), cell_out hw'.dim (by omega), cell_out hw'.dim (by omega), cell_out hw'.dim (by omega)]
  · rw [hr, rot_cs hd hw.n3 hk, rot_cs hwd hw.n3 hk]; exact hy.col c
theorem rot_ends {w w' : HW} {n m : Nat} (hw : w.Ok n m) (hw' : w'.Ok n m) {k : Nat} (hk : k < n) (hr : w'.rows = rot k w.rows) (hc : w'.cap = w.cap) (hh : ∀ i c, i < n → w'.h i c = w.h ((i + k) % n) c) {r : Nat} (hrn : r < n) (c : Nat) :
    w'.lo ((r + n - k) % n) c = w.lo r c ∧ w'.hi ((r + n - k) % n) c = w.hi r c := by
  have hlt : (r + n - k) % n < n := Nat.mod_lt _ hw.n0
  have hidx : ((r + n - k) % n + k) % n = r := by
    rw [mod_add' hlt (by omega), mod_sub' hrn (by omega)]
    split <;> split <;> omega
  have f1 := iso_ends hw hw' (r := r) (c := c) (r' := (r + n - k) % n) (c' := c) fun y hy => ⟨rot k y, rot_cand hw hw' (by omega) hr hc hh hy, by rw [rot_at hy.fit.dim (by omega) hlt, hidx]⟩
  have hback : ∀ i c, i < n → w.h i c = w'.h ((i + (n - k)) % n) c := by
    intro i c hi
    have hl := Nat.mod_lt (i + (n - k)) hw.n0
    rw [hh _ _ hl]
    congr 1
    rw [mod_add' hl (by omega), mod_add' hi (by omega)]
    split <;> split <;> omega
  have f2 := iso_ends hw' hw (r := (r + n - k) % n) (c := c) (r' := r) (c' := c) fun y hy => ⟨rot (n - k) y, rot_cand hw' hw (by omega) (by rw [hr, rot_back hw.dim (by omega)]) hc.symm hback hy, by
    rw [rot_at hy.fit.dim (by omega) hrn]
    congr 2
    omega⟩
  omega
def tr8 (n m : Nat) (y : Rows8) : Rows8 := (List.range m).map fun c => (List.range n).map fun r => cellAt y r c
theorem tr8_dim (n m : Nat) (y : Rows8) : Dim m n (tr8 n m y) := by
  refine ⟨by simp [tr8], fun r hr => ?_⟩
  simp [tr8, List.getD_eq_getElem?_getD, hr]
theorem tr8_at {n m : Nat} {y : Rows8} (h : Dim n m y) (c r : Nat) : cellAt (tr8 n m y) c r = cellAt y r c := by
  by_cases hc : c < m
  · by_cases hr : r < n
    · have : cellAt (tr8 n m y) c r = cellAt y r c := by
        show ((tr8 n m y).getD c []).getD r 0 = _
        unfold tr8
        simp [List.getD_eq_getElem?_getD, hc, hr]
      exact this
    · rw [cell_out (tr8_dim n m y) (by omega), cell_out h (by omega)]
  · rw [cell_out (tr8_dim n m y) (by omega), cell_out h (by omega)]
theorem dim_ext {n m : Nat} {y z : Rows8} (hy : Dim n m y) (hz : Dim n m z) (h : ∀ r c, cellAt y r c = cellAt z r c) : y = z := by
  refine List.ext_getElem (by rw [hy.1, hz.1]) fun r h1 h2 => ?_
  have e1 : y.getD r [] = y[r] := by simp [List.getD_eq_getElem?_getD, h1]
  have e2 : z.getD r [] = z[r] := by simp [List.getD_eq_getElem?_getD, h2]
  have l1 := hy.2 r (by rw [← hy.1]; exact h1)
  have l2 := hz.2 r (by rw [← hz.1]; exact h2)
  rw [e1] at l1
  rw [e2] at l2
  refine List.ext_getElem (by rw [l1, l2]) fun c g1 g2 => ?_
  have := h r c
  unfold cellAt at this
  rw [e1, e2] at this
  simpa [List.getD_eq_getElem?_getD, g1, g2] using this
theorem tr_cand {w w' : HW} {n m : Nat} (hw : w.Ok n m) (hw' : w'.Ok m n) (hr : w'.rows = tr8 n m w.rows) (hc : w'.cap = w.cap) (hh : ∀ r c, w'.h c r = w.h r c) {y : Rows8} (hy : w.Cand n m y) : w'.Cand m n (tr8 n m y) := by
  have hm3 := hw'.n3
  have hn3 := hw.n3
  refine ⟨⟨tr8_dim n m y, fun c r h1 h2 => ?_, fun c r h => ?_⟩, fun c => ?_, fun r => ?_⟩
  · rw [tr8_at hy.fit.dim, hc]; exact hy.fit.cell r c h2 h1
  · rw [hr, tr8_at hy.fit.dim, tr8_at hw.dim]
    rw [hh] at h
    exact hy.fit.shown r c h
  · rw [hr, rs8_cell, rs8_cell]
    simp only [tr8_at hy.fit.dim, tr8_at hw.dim]
    have := hy.col c
    unfold cs8 at this
    rw [cell_out hy.fit.dim (r := 3) (by omega), cell_out hw.dim (r := 3) (by omega)]
    omega
  · rw [hr]
    unfold cs8
    simp only [tr8_at hy.fit.dim, tr8_at hw.dim]
    have := hy.row r
    rw [rs8_cell, rs8_cell, cell_out hy.fit.dim (c := 3) (by omega), cell_out hw.dim (c := 3) (by omega)] at this
    omega
theorem tr_ends {w w' : HW} {n m : Nat} (hw : w.Ok n m) (hw' : w'.Ok m n) (hr : w'.rows = tr8 n m w.rows) (hc : w'.cap = w.cap) (hh : ∀ r c, w'.h c r = w.h r c) (r c : Nat) : w'.lo c r = w.lo r c ∧ w'.hi c r = w.hi r c := by
  have f1 := iso_ends hw hw' (r := r) (c := c) (r' := c) (c' := r) fun y hy => ⟨tr8 n m y, tr_cand hw hw' hr hc hh hy, tr8_at hy.fit.dim _ _⟩
  have hrr : w.rows = tr8 m n w'.rows := by
    refine dim_ext hw.dim (tr8_dim m n _) fun r c => ?_
    rw [tr8_at hw'.dim, hr, tr8_at hw.dim]
  have f2 := iso_ends hw' hw (r := c) (c := r) (r' := r) (c' := c) fun y hy => ⟨tr8 m n y, tr_cand hw' hw hrr hc.symm (fun r c => (hh c r).symm) hy, tr8_at hy.fit.dim _ _⟩
  omega
def bitsFTo (f : HC → Nat) (l : List HC) : Nat → Nat
  | 0 => 0
  | k + 1 => bitsFTo f l k ||| 2 ^ f (l.getD k default)
theorem bitsFTo_test (f : HC → Nat) (l : List HC) (j : Nat) : ∀ k, (bitsFTo f l k).testBit j = true ↔ ∃ i, i < k ∧ f (l.getD i default) = j
  | 0 => by simp [bitsFTo]
  | k + 1 => by
    rw [bitsFTo, Nat.testBit_or, Bool.or_eq_true, bitsFTo_test f l j k, Nat.testBit_two_pow, decide_eq_true_eq]
    constructor
    · rintro (⟨i, hi, h⟩ | h)
      · exact ⟨i, by omega, h⟩
      · exact ⟨k, by omega, h⟩
    · rintro ⟨i, hi, h⟩
      by_cases e : i = k
      · subst e; exact .inr h
      · exact .inl ⟨i, by omega, h⟩
theorem bitsF_mem {n m n' m' : Nat} {l : List HC} (f : HC → HC) (hinj : ∀ c ∈ gridC n m, f c ∈ gridC n' m') (hl : HidOk n m l) {c : HC} (hc : c ∈ gridC n' m') :
    c ∈ setR n' m' (bitsFTo (fun x => (f x).row.toNat * m' + (f x).col.toNat) l l.length) ↔ ∃ x ∈ l, f x = c := by
  have hb := mem_gridC.1 hc
  rw [mem_setR, bitsFTo_test]
  constructor
  · rintro ⟨_, i, hi, h⟩
    have hm := getD_mem' (default : HC) hi
    have hg := mem_gridC.1 (hinj _ (mem_gridC.2 (hl.cell _ hm)))
    refine ⟨_, hm, ?_⟩
    have := idx_inj (by omega) (by omega) h
    cases hx : f (l.getD i default) with
    | mk a b =>
      rw [hx] at this hg
      cases c
      simp only at this hb hg
      congr 1 <;> omega
  · rintro ⟨x, hx, rfl⟩
    obtain ⟨i, hi, e⟩ := mem_getD' hx
    exact ⟨hc, i, hi, by rw [e]⟩
end Go.Proofs.Ytijechcadlklhaa
namespace Go.Sy
section
variable {P : Program} {G : Nat → Option (List D)} {ro : Option Nat} {ops : Array Oper} {ul louds : List Nat}
theorem RunL_append : ∀ {e1 e2 : List Ev} {a b c : St}, RunL a e1 b → RunL b e2 c → RunL a (e1 ++ e2) c
  | [], _, _, _, _, h1, h2 => by
    have h1 : _ = _ := h1
    subst h1; exact h2
  | _ :: _, _, _, _, _, ⟨h1, h2, h3⟩, h => ⟨h1, h2, RunL_append h3 h⟩
end
end Go.Sy
namespace Go.Proofs.Ytijechcadlklhaa
theorem HT.Ok.check {t : HT} {n m : Nat} (h : t.Ok n m) : t.check = 0 ∧ t.n = n ∧ t.m = m := by
  have e1 : t.rows.length = n := h.dim.1
  have e2 : (t.rows.getD 0 []).length = m := h.dim.2 0 h.n0
  refine ⟨?_, e1, e2⟩
  have hf : t.filled t.rows = true := (HT.filled_iff e1 e2 t.rows).2 ⟨h.dim, h.cell⟩
  have hc : inR t.cap 0 1000 = true := inR_iff.2 h.cap
  have h3 := h.n3
  have h4 := h.m4
  have hn := h.n0
  have hm := h.m0
  have ha : (t.rows.all fun l => decide (l.length ≤ 4)) = true := List.all_eq_true.2 fun x hx => by
    obtain ⟨i, hi, rfl⟩ := List.getElem_of_mem hx
    have := h.dim.2 i (by omega)
    simp only [List.getD_eq_getElem?_getD, List.getElem?_eq_getElem hi, Option.getD_some] at this
    simp [this, h4]
  unfold HT.check
  rw [ha, hf, hc, e1, e2, if_neg, if_neg]
  · simp; omega
  · simp; omega
def rotT (t : HT) (k : Nat) : HT := ⟨rot k t.rows, t.cap⟩
theorem rotT_ok {t : HT} {n m k : Nat} (h : t.Ok n m) (hk : k ≤ n) : (rotT t k).Ok n m :=
  ⟨rot_dim h.dim hk, h.n3, h.m4, h.n0, h.m0, fun r c hr hc => by
    rw [show (rotT t k).rows = rot k t.rows from rfl, rot_at h.dim hk hr]; exact h.cell _ c (Nat.mod_lt _ h.n0) hc, h.cap⟩
def rotC (n k : Nat) (c : HC) : HC := ⟨((c.row.toNat + n - k) % n : Nat), c.col⟩
def rotB (n m k : Nat) (l : List HC) : Nat := bitsFTo (fun x => (rotC n k x).row.toNat * m + (rotC n k x).col.toNat) l l.length
theorem turned_rot {t : HT} {l : List HC} (h : t.pub l = 0) {k : Nat} (hk : k < t.n) :
    (rotT t k).pub (setR t.n t.m (rotB t.n t.m k l)) = 0 ∧ ∀ r c, r < t.n → ((rotT t k).w (setR t.n t.m (rotB t.n t.m k l))).lo ((r + t.n - k) % t.n) c = (t.w l).lo r c ∧ ((rotT t k).w (setR t.n t.m (rotB t.n t.m k l))).hi ((r + t.n - k) % t.n) c = (t.w l).hi r c := by
  obtain ⟨h3, h4, hl, h0⟩ := pub_dims h
  have ho : t.Ok t.n t.m := HT.check_ok h0
  obtain ⟨c0, c1, c2⟩ := (rotT_ok ho (k := k) (by omega)).check
  have hS : HidOk t.n t.m (setR t.n t.m (rotB t.n t.m k l)) := setR_ok h4 _
  have hpub : (rotT t k).pub (setR t.n t.m (rotB t.n t.m k l)) = 0 := HT.pub_of c0 (by
    show HidOk (rotT t k).n (rotT t k).m _
    rw [c1, c2]; exact hS)
  refine ⟨hpub, fun r c hr => ?_⟩
  have hw : (t.w l).Ok t.n t.m := HT.w_ok h
  have hw' : ((rotT t k).w (setR t.n t.m (rotB t.n t.m k l))).Ok t.n t.m := by
    have := HT.w_ok hpub
    change ((rotT t k).w _).Ok (rotT t k).n (rotT t k).m at this
    rwa [c1, c2] at this
  refine rot_ends hw hw' hk rfl rfl (fun i c hi => ?_) hr c
  have e : ∀ a b : Bool, (a = true ↔ b = true) → a = b := by intro a b; cases a <;> cases b <;> simp
  apply e
  rw [hS.h_iff (t := rotT t k) h3 h4, hl.h_iff (t := t) h3 h4]
  by_cases hc : c < t.m
  · have hg : (⟨(i : Nat), (c : Nat)⟩ : HC) ∈ gridC t.n t.m := mem_gridC.2 ⟨Int.natCast_nonneg _, by simp only; omega, Int.natCast_nonneg _, by simp only; omega⟩
    have hinj : ∀ c ∈ gridC t.n t.m, rotC t.n k c ∈ gridC t.n t.m := fun c hc => by
      have hb := mem_gridC.1 hc
      have := Nat.mod_lt (c.row.toNat + t.n - k) ho.n0
      exact mem_gridC.2 ⟨Int.natCast_nonneg _, by show (((c.row.toNat + t.n - k) % t.n : Nat) : Int) < _; omega, hb.2.2.1, hb.2.2.2⟩
    rw [show setR t.n t.m (rotB t.n t.m k l) = setR t.n t.m (bitsFTo (fun x => (rotC t.n k x).row.toNat * t.m + (rotC t.n k x).col.toNat) l l.length) from rfl, bitsF_mem (rotC t.n k) hinj hl hg]
    constructor
    · rintro ⟨x, hx, he⟩
      have hb := hl.cell x hx
      obtain ⟨a, b⟩ := x
      simp only [rotC, HC.mk.injEq] at he hb
      obtain ⟨he1, rfl⟩ := he
      obtain ⟨a, rfl⟩ := Int.eq_ofNat_of_zero_le hb.1
      have : a < t.n := by omega
      rw [Int.toNat_natCast] at he1
      have he2 : (a + t.n - k) % t.n = i := by omega
      rw [mod_sub' this (by omega)] at he2
      rw [mod_add' hi (by omega)]
      have : (if i + k < t.n then i + k else i + k - t.n) = a := by split <;> split at he2 <;> omega
      rw [this]; exact hx
    · intro hx
      refine ⟨_, hx, ?_⟩
      have hlt := Nat.mod_lt (i + k) ho.n0
      simp only [rotC, HC.mk.injEq, Int.toNat_natCast, and_true]
      rw [mod_sub' hlt (by omega), mod_add' hi (by omega)]
      split <;> split <;> omega
  · constructor
    · intro hx; have := hS.cell _ hx; simp only at this; omega
    · intro hx; have := hl.cell _ hx; simp only at this; omega
def trT (t : HT) : HT := ⟨tr8 t.n t.m t.rows, t.cap⟩
def trB (n : Nat) (l : List HC) : Nat := bitsFTo (fun x => x.col.toNat * n + x.row.toNat) l l.length
theorem trT_ok {t : HT} {n m : Nat} (h : t.Ok n m) (h3 : m ≤ 3) (hn : t.n = n) (hm : t.m = m) : (trT t).Ok m n :=
  ⟨by unfold trT; rw [hn, hm]; exact tr8_dim n m t.rows, h3, by have := h.n3; omega, h.m0, h.n0, fun r c hr hc => by
    show 0 ≤ cellAt (tr8 t.n t.m t.rows) r c ∧ cellAt (tr8 t.n t.m t.rows) r c ≤ t.cap
    rw [hn, hm, tr8_at h.dim]; exact h.cell c r hc hr, h.cap⟩
theorem turned_tr {t : HT} {l : List HC} (h : t.pub l = 0) (hm3 : t.m ≤ 3) :
    (trT t).pub (setR t.m t.n (trB t.n l)) = 0 ∧ (trT t).n = t.m ∧ (trT t).m = t.n ∧ ∀ r c, ((trT t).w (setR t.m t.n (trB t.n l))).lo c r = (t.w l).lo r c ∧ ((trT t).w (setR t.m t.n (trB t.n l))).hi c r = (t.w l).hi r c := by
  obtain ⟨h3, h4, hl, h0⟩ := pub_dims h
  have ho : t.Ok t.n t.m := HT.check_ok h0
  obtain ⟨c0, c1, c2⟩ := (trT_ok ho hm3 rfl rfl).check
  have hS : HidOk t.m t.n (setR t.m t.n (trB t.n l)) := setR_ok (by omega) _
  have hpub : (trT t).pub (setR t.m t.n (trB t.n l)) = 0 := HT.pub_of c0 (by
    show HidOk (trT t).n (trT t).m _
    rw [c1, c2]; exact hS)
  refine ⟨hpub, c1, c2, fun r c => ?_⟩
  have hw : (t.w l).Ok t.n t.m := HT.w_ok h
  have hw' : ((trT t).w (setR t.m t.n (trB t.n l))).Ok t.m t.n := by
    have := HT.w_ok hpub
    change ((trT t).w _).Ok (trT t).n (trT t).m at this
    rwa [c1, c2] at this
  refine tr_ends hw hw' rfl rfl (fun r c => ?_) r c
  have e : ∀ a b : Bool, (a = true ↔ b = true) → a = b := by intro a b; cases a <;> cases b <;> simp
  apply e
  rw [hS.h_iff (t := trT t) hm3 (by omega), hl.h_iff (t := t) h3 h4]
  by_cases hc : r < t.n ∧ c < t.m
  · have hg : (⟨(c : Nat), (r : Nat)⟩ : HC) ∈ gridC t.m t.n := mem_gridC.2 ⟨Int.natCast_nonneg _, by simp only; omega, Int.natCast_nonneg _, by simp only; omega⟩
    have hinj : ∀ c ∈ gridC t.n t.m, (fun x : HC => (⟨x.col, x.row⟩ : HC)) c ∈ gridC t.m t.n := fun c hc => by
      have hb := mem_gridC.1 hc
      exact mem_gridC.2 ⟨hb.2.2.1, hb.2.2.2, hb.1, hb.2.1⟩
    rw [show setR t.m t.n (trB t.n l) = setR t.m t.n (bitsFTo (fun x => ((fun x : HC => (⟨x.col, x.row⟩ : HC)) x).row.toNat * t.n + ((fun x : HC => (⟨x.col, x.row⟩ : HC)) x).col.toNat) l l.length) from rfl, bitsF_mem (fun x : HC => (⟨x.col, x.row⟩ : HC)) hinj hl hg]
    constructor
    · rintro ⟨⟨a, b⟩, hx, he⟩
      simp only [HC.mk.injEq] at he
      obtain ⟨rfl, rfl⟩ := he
      exact hx
    · intro hx
      exact ⟨_, hx, rfl⟩
  · constructor
    · intro hx; have := hS.cell _ hx; simp only at this; omega
    · intro hx; have := hl.cell _ hx; simp only at this; omega
end Go.Proofs.Ytijechcadlklhaa
namespace Go.Proofs.Ytijechcadlklhaa
open Go.Sy
set_option maxRecDepth 8000
def HT.ready (t : HT) (l : List HC) : Bool := shortB t.rows && decide ((l.length : Int) ≤ 20) && decide (t.pub l = 0)
theorem ready_ok {t : HT} {l : List HC} (h : t.ready l = true) : small8 t.rows ∧ l.length ≤ 1000 ∧ t.pub l = 0 := by
  unfold HT.ready at h
  simp only [Bool.and_eq_true, decide_eq_true_eq] at h
  obtain ⟨⟨h1, h2⟩, h3⟩ := h
  exact ⟨short_small h1, by omega, h3⟩
abbrev tysH31_16 := And.intro ty.sz0 <| And.intro ty.agg0 <| And.intro ty.elem0 <| And.intro ty.sz4 <| And.intro ty.agg4 <| And.intro ty.elem4 <| And.intro ty.zero4 <| And.intro ty.und4 <| And.intro ty.sz24 <| And.intro ty.agg24 <| And.intro ty.fld24_0 <| And.intro ty.fld24_1 <| And.intro ty.elem24 <| And.intro ty.zero24 <| And.intro ty.pl24 <| And.intro ty.sz25 <| And.intro ty.agg25 <| And.intro ty.elem25 <| And.intro ty.by25 <| And.intro ty.ez25 <| And.intro ty.zero25 <| And.intro ty.und25 <| And.intro ty.sz29 <| And.intro ty.agg29 <| And.intro ty.elem29 <| And.intro ty.zero29 <| ty.und29
theorem ready_c (t : HT) (l : List HC) : CallP Try.prog G0 16 [t.s, SC l] (B (t.ready l)) := by
  refine CallP.body 14 [.tmp 4] Try.func16 (by kernel_rfl) rfl rfl rfl (by repeat' (first | exact Pure.d _ | exact Pure.dx _ | exact Pure.dp _ | exact fa_nil | refine fa_cons ?_ ?_ | refine Pure.agg ?_ | refine Pure.tup ?_ | refine Pure.clo ?_ ?_ | refine Pure.fp ?_ | exact Pure.mapd _ | assumption)) (by repeat' (first | exact Pure.d _ | exact Pure.dx _ | exact Pure.dp _ | exact fa_nil | refine fa_cons ?_ ?_ | refine Pure.agg ?_ | refine Pure.tup ?_ | refine Pure.clo ?_ ?_ | refine Pure.fp ?_ | exact Pure.mapd _ | assumption)) ?_
  refine Tr.reg [1, 2] (by
      simp only [↓sxd, sxu, ↓zE, ↓exq, St.keep, ↓zN, Nat.reduceBEq, Nat.reduceAdd, Nat.reduceLT, Nat.reduceEqDiff]
      (repeat' (first | rfl | exact trivial | exact fun h => h | exact fun h => (by rw [h]; rfl) | apply And.intro | omega | exact Nat.le_of_ble_eq_true rfl))) ?_
  refine Tr.reg [4] (by
      simp only [↓sxd, sxu, ↓zE, ↓exq, St.keep, ↓zD, Nat.reduceBEq, Nat.reduceAdd, Nat.reduceLT, tysH31_16]
      (repeat ((with_reducible refine And.intro ?_ ?_); (focus (first | with_reducible rfl | trivial | exact fun h => h | exact fun h => (by rw [h]; rfl) | omega | assumption))))
      refine CallO.use (thin0_c t l) ?_
      try simp only [↓sxd, sxu, ↓zE, ↓exq, Nat.reduceLT]
      iterate 2
        (repeat ((with_reducible refine And.intro ?_ ?_); (focus (first | with_reducible rfl | trivial | exact fun h => h | exact fun h => (by rw [h]; rfl) | omega | assumption))))
        refine GdO.mk _ (fun hg => by simp only [sxu, ↓exq, ↓zD, Nat.reduceBEq, Nat.reduceAdd, Nat.reduceLT, tysH31_16, hg]; (repeat' (first | rfl | exact trivial | exact fun h => h | exact fun h => (by rw [h]; rfl) | apply And.intro | omega | exact Nat.le_of_ble_eq_true rfl))) ?_
        simp only [↓sxd, sxu, ↓zE, Nat.reduceBEq, Nat.reduceLT]
      (repeat ((with_reducible refine And.intro ?_ ?_); (focus (first | with_reducible rfl | trivial | exact fun h => h | exact fun h => (by rw [h]; rfl) | omega | assumption))))
      refine GdO.mk _ (fun hg => by simp only [sxu, ↓exq, ↓zB, Nat.reduceBEq, hg]; (repeat ((with_reducible refine And.intro ?_ ?_); (focus (first | with_reducible rfl | trivial | exact fun h => h | exact fun h => (by rw [h]; rfl) | omega | assumption)))); exact CallP.use (published_c t l (thin0_go hg).1 (thin0_go hg).2) ⟨rfl, rfl, rfl⟩) ?_
      simp only [↓sxd, sxu, ↓zE, Nat.reduceBEq, Nat.reduceLT]
      (repeat ((with_reducible refine And.intro ?_ ?_); (focus (first | with_reducible rfl | trivial | exact fun h => h | exact fun h => (by rw [h]; rfl) | omega | assumption))))
      refine GdO.mk _ (fun hg => by simp only [↓sxd, sxu, ↓exq, hg]; (repeat' (first | rfl | exact trivial | exact fun h => h | exact fun h => (by rw [h]; rfl) | apply And.intro | omega | exact Nat.le_of_ble_eq_true rfl))) ?_
      simp only [↓sxd, sxu, ↓zE, ↓exq, ↓zI, Nat.reduceBEq, Nat.reduceLT]
      (repeat' (first | rfl | exact trivial | exact fun h => h | exact fun h => (by rw [h]; rfl) | apply And.intro | omega | exact Nat.le_of_ble_eq_true rfl))) ?_
  refine Tr.ret ?_
  exact ⟨.inr rfl, congrArg (fun n => some (B n)) (by
  unfold HT.ready
  rw [show decide (t.pub l = 0) = (t.pub l == 0) from by rw [Bool.eq_iff_iff, beq_iff_eq, decide_eq_true_eq]])⟩
theorem bit_eq {b n : Nat} (hb : b < 18446744073709551616) : (((b : Int).fdiv (2 ^ min n IntKind.i64.bits)).tmod 2 == 1) = b.testBit n := by
  rw [bit_i hb, bitI_test]
  cases b.testBit n <;> rfl
abbrev tysH31_17 := And.intro ty.sz0 <| And.intro ty.agg0 <| And.intro ty.elem0 <| And.intro ty.sz3 <| And.intro ty.agg3 <| And.intro ty.elem3 <| And.intro ty.zero3 <| And.intro ty.und3 <| And.intro ty.sz4 <| And.intro ty.agg4 <| And.intro ty.elem4 <| And.intro ty.zero4 <| And.intro ty.und4 <| And.intro ty.sz22 <| And.intro ty.agg22 <| And.intro ty.elem22 <| And.intro ty.by22 <| And.intro ty.ez22 <| And.intro ty.zero22 <| And.intro ty.und22 <| And.intro ty.sz24 <| And.intro ty.agg24 <| And.intro ty.fld24_0 <| And.intro ty.fld24_1 <| And.intro ty.elem24 <| And.intro ty.zero24 <| And.intro ty.pl24 <| And.intro ty.sz25 <| And.intro ty.agg25 <| And.intro ty.elem25 <| And.intro ty.by25 <| And.intro ty.ez25 <| And.intro ty.zero25 <| And.intro ty.und25 <| And.intro ty.sz38 <| And.intro ty.agg38 <| And.intro ty.elem38 <| And.intro ty.by38 <| And.intro ty.ez38 <| And.intro ty.zero38 <| And.intro ty.und38 <| And.intro ty.sz43 <| And.intro ty.agg43 <| And.intro ty.fld43_0 <| And.intro ty.fld43_1 <| And.intro ty.elem43 <| And.intro ty.zero43 <| And.intro ty.pl43 <| And.intro ty.sz55 <| And.intro ty.agg55 <| And.intro ty.elem55 <| And.intro ty.zero55 <| ty.und55
theorem Set_c (t : HT) (b : Nat) (hb : b < 4611686018427387904) (h0 : t.check = 0) : CallP Try.prog G0 17 [t.s, I (b : Nat)] (SC (setR t.n t.m b)) := by
  have ho := HT.check_ok h0
  change t.Ok t.n t.m at ho
  have hn3 := ho.n3
  have hm4 := ho.m4
  have hnn : t.rows.length = t.n := rfl
  have hmm : (t.rows.getD 0 []).length = t.m := rfl
  have hn0 := ho.n0
  obtain ⟨p, hp⟩ : ∃ p : HC → Bool, p = fun c => b.testBit (c.row.toNat * t.m + c.col.toNat) := ⟨_, rfl⟩
  obtain ⟨L, hL⟩ : ∃ L, L = selC p t.n t.m (0 * t.m) := ⟨_, rfl⟩
  have hLl : L.length ≤ 12 := by rw [hL]; exact sel_len hn3 hm4
  rw [show setR t.n t.m b = L by rw [hL, sel_zero, hp]; rfl]
  have hr0 : 0 < t.rows.length := by omega
  have hbd := fun n : Nat => bit_eq (b := b) (n := n) (by omega)
  generalize t.n = n at *
  generalize t.m = m at *
  refine CallP.body 40 [.tmp 4] Try.func17 (by kernel_rfl) rfl rfl rfl (by repeat' (first | exact Pure.d _ | exact Pure.dx _ | exact Pure.dp _ | exact fa_nil | refine fa_cons ?_ ?_ | refine Pure.agg ?_ | refine Pure.tup ?_ | refine Pure.clo ?_ ?_ | refine Pure.fp ?_ | exact Pure.mapd _ | assumption)) (by repeat' (first | exact Pure.d _ | exact Pure.dx _ | exact Pure.dp _ | exact fa_nil | refine fa_cons ?_ ?_ | refine Pure.agg ?_ | refine Pure.tup ?_ | refine Pure.clo ?_ ?_ | refine Pure.fp ?_ | exact Pure.mapd _ | assumption)) ?_
  refine Tr.reg [1, 2] (by
      simp only [↓sxd, sxu, ↓zE, ↓exq, St.keep, ↓zN, Nat.reduceBEq, Nat.reduceAdd, Nat.reduceLT, Nat.reduceEqDiff]
      (repeat' (first | rfl | exact trivial | exact fun h => h | exact fun h => (by rw [h]; rfl) | apply And.intro | omega | exact Nat.le_of_ble_eq_true rfl))) ?_
  refine Tr.reg [1, 2, 5] (by
      simp only [↓sxd, sxu, ↓zE, ↓exq, St.keep, Nat.reduceBEq, Nat.reduceLT]
      (repeat' (first | rfl | exact trivial | exact fun h => h | exact fun h => (by rw [h]; rfl) | apply And.intro | omega | exact Nat.le_of_ble_eq_true rfl))) ?_
  refine Tr.reg [1, 2, 5, 6] (by
      simp only [↓sxd, sxu, ↓zE, ↓exq, St.keep, Nat.reduceBEq, Nat.reduceLT]
      (repeat' (first | rfl | exact trivial | exact fun h => h | exact fun h => (by rw [h]; rfl) | apply And.intro | omega | exact Nat.le_of_ble_eq_true rfl))) ?_
  refine Tr.seq ?_
  refine Tr.reg [1, 2, 5, 6, 7] (by
      simp only [↓sxd, sxu, ↓zE, ↓exq, St.keep, Nat.reduceBEq, Nat.reduceLT]
      (repeat' (first | rfl | exact trivial | exact fun h => h | exact fun h => (by rw [h]; rfl) | apply And.intro | omega | exact Nat.le_of_ble_eq_true rfl))) ?_
  refine Tr.imp (st' := ⟨[(1, I (b : Nat)), (2, .ptr 0 0 0), (5, .slc 1 2 0 [].length [].length), (6, I ((0 * m : Nat) : Int)), (7, I 0)], [(1, .arr 2 (vC [])), (0, tbx t)], 2, 40, [], 0⟩) (by rw [Nat.zero_mul]; exact Imp.goV 2 rfl rfl rfl rfl (by repeat' (first | exact trivial | exact F2.nil | refine F2.cons ?_ ?_ | refine TmV.cons rfl VnS.nil ?_ | refine TmV.cons rfl VnS.same ?_ | refine ⟨rfl, ?_⟩ | exact VnO.same _ | refine VnO.arr ?_ | exact VnS.nil | exact VnS.same | exact F2.refl fun _ _ => VnS.same)) (F2.refl fun _ _ => ⟨rfl, VnO.same _⟩)) (Tr.block (Tr.loopI (fun mm ss => ∃ (r : Nat) (l : List HC), (r ≤ n ∧ l ++ selC p n m (r * m) = L) ∧ n - r = mm ∧ ss = ⟨[(1, I (b : Nat)), (2, .ptr 0 0 0), (5, .slc 1 2 0 l.length l.length), (6, I ((r * m : Nat) : Int)), (7, I r)], [(1, .arr 2 (vC l)), (0, tbx t)], 2, 40, [], 0⟩) _ ⟨0, [], ?_, rfl, rfl⟩ ?_))
  · exact ⟨Nat.zero_le _, hL.symm⟩
  rintro mm ss ⟨r, l, hI, rfl, rfl⟩
  obtain ⟨hrn, hsel⟩ := hI
  refine Tr.seq ?_
  refine Tr.reg [1, 2, 5, 6, 7, 13] (by
      simp only [↓sxd, sxu, ↓zE, ↓exq, ↓zB, St.keep, ↓zL, ↓zD, ↓zA, Nat.reduceBEq, Nat.reduceAdd, Nat.reduceLT, Nat.reduceEqDiff, sxe, tysH31_17]
      (repeat' (first | rfl | exact trivial | exact fun h => h | exact fun h => (by rw [h]; rfl) | apply And.intro | omega | exact Nat.le_of_ble_eq_true rfl))) ?_
  refine Tr.cond rfl (fun h13 => ?_) (fun h13 => ?_)
  · have hr : r < n := by rw [hnn] at h13; simpa using h13
    refine Tr.skip ?_
    refine Tr.seq ?_
    refine Tr.block ?_
    refine Tr.reg [1, 2, 5, 6, 7, 8] (by
        simp only [↓sxd, sxu, ↓zE, ↓exq, St.keep, Nat.reduceBEq, Nat.reduceLT]
        (repeat' (first | rfl | exact trivial | exact fun h => h | exact fun h => (by rw [h]; rfl) | apply And.intro | omega | exact Nat.le_of_ble_eq_true rfl))) ?_
    refine Tr.imp (st' := ⟨[(1, I (b : Nat)), (2, .ptr 0 0 0), (5, .slc 1 2 0 l.length l.length), (6, I ((r * m + 0 : Nat) : Int)), (7, I r), (8, I 0)], [(1, .arr 2 (vC l)), (0, tbx t)], 2, 40, [], 0⟩) (Imp.keepAll) (Tr.block (Tr.loopI (fun mm ss => ∃ (c : Nat) (l2 : List HC), (c ≤ m ∧ l2 ++ selC p n m (r * m + c) = L) ∧ m - c = mm ∧ ss = ⟨[(1, I (b : Nat)), (2, .ptr 0 0 0), (5, .slc 1 2 0 l2.length l2.length), (6, I ((r * m + c : Nat) : Int)), (7, I r), (8, I c)], [(1, .arr 2 (vC l2)), (0, tbx t)], 2, 40, [], 0⟩) _ ⟨0, l, ?_, rfl, rfl⟩ ?_))
    · exact ⟨Nat.zero_le _, hsel⟩
    rintro mm ss ⟨c, l2, hI, rfl, rfl⟩
    obtain ⟨hcm, hsel2⟩ := hI
    refine Tr.seq ?_
    refine Tr.reg [1, 2, 5, 6, 7, 8, 22] (by
        simp only [↓sxd, sxu, ↓zE, ↓exq, ↓zB, St.keep, ↓zL, ↓zD, ↓zA, Nat.reduceBEq, Nat.reduceAdd, Nat.reduceLT, Nat.reduceEqDiff, Int.reduceLE, sxe, tysH31_17, hr0]
        (repeat' (first | rfl | exact trivial | exact fun h => h | exact fun h => (by rw [h]; rfl) | apply And.intro | omega | exact Nat.le_of_ble_eq_true rfl))) ?_
    refine Tr.cond rfl (fun h22 => ?_) (fun h22 => ?_)
    · have hc : c < m := by rw [hmm] at h22; simpa using h22
      have hll : l2.length ≤ 12 := by
        rw [← hsel2, List.length_append] at hLl; omega
      have hk2 : (l2.length + 1 ≤ 1073741824) = True := eq_true (by omega)
      have hrm : r * m ≤ 12 := Nat.le_trans (Nat.mul_le_mul (show r ≤ 3 by omega) hm4) (by decide)
      have hpe : p ⟨(r : Nat), (c : Nat)⟩ = b.testBit (r * m + c) := by rw [hp]; rfl
      have hcn : c + 1 ≤ m := hc
      refine Tr.skip ?_
      refine Tr.seq ?_
      refine Tr.block ?_
      refine Tr.seq ?_
      have u1 : IntKind.u64.wrap ((r * m + c : Nat) : Int) = ((r * m + c : Nat) : Int) := wu (by omega) (by omega)
      have hbe := hbd (r * m + c)
      refine Tr.reg [1, 2, 5, 6, 7, 8, 30] (by
          simp only [↓sxd, sxu, ↓zE, ↓exq, St.keep, ↓zW, Nat.reduceBEq, Nat.reduceLT, sxe, tysH31_17, u1, hbe]
          (repeat' (first | rfl | exact trivial | exact fun h => h | exact fun h => (by rw [h]; rfl) | apply And.intro | omega | exact Nat.le_of_ble_eq_true rfl))) ?_
      refine Tr.cond rfl (fun h30 => ?_) (fun h30 => ?_)
      · have hy : p ⟨(r : Nat), (c : Nat)⟩ = true := by rw [hpe]; exact h30
        rw [sel_yes (by omega) hc hy] at hsel2
        refine Tr.reg1 [1, 2, 5, 6, 7, 8] (by
            simp only [↓sxd, sxu, ↓zE, ↓exq, ↓zB, St.keep, ↓zO, ↓zG, ↓zQ, Nat.reduceBEq, Nat.reduceAdd, Nat.reduceLT, Nat.reduceLeDiff, Nat.reduceEqDiff, tysH31_17, vC_len, hk2]
            (repeat' (first | rfl | exact trivial | exact fun h => h | exact fun h => (by rw [h]; rfl) | apply And.intro | omega | exact Nat.le_of_ble_eq_true rfl))) ?_
        have w1 := add1 (show r * m + c < 4611686018427387904 by omega)
        refine Tr.reg1 [1, 2, 5, 6, 7, 8] (by
            simp only [↓sxd, sxu, ↓zE, ↓exq, St.keep, Nat.reduceBEq, Nat.reduceLT, w1]
            (repeat' (first | rfl | exact trivial | exact fun h => h | exact fun h => (by rw [h]; rfl) | apply And.intro | omega | exact Nat.le_of_ble_eq_true rfl))) ?_
        have w1 := add1 (show c < 4611686018427387904 by omega)
        refine Tr.reg1 [1, 2, 5, 6, 7, 8] (by
            simp only [↓sxd, sxu, ↓zE, ↓exq, St.keep, Nat.reduceBEq, Nat.reduceLT, w1]
            (repeat' (first | rfl | exact trivial | exact fun h => h | exact fun h => (by rw [h]; rfl) | apply And.intro | omega | exact Nat.le_of_ble_eq_true rfl))) ?_
        first
        | exact ⟨_, _, by omega, Imp.keepAll, ⟨c + 1, l2, ⟨hcn, hsel2⟩, rfl, rfl⟩⟩
        | (refine ⟨_, _, ?_, ?_, ⟨c + 1, l2 ++ [⟨(r : Nat), (c : Nat)⟩], ⟨hcn, by rw [List.append_assoc]; exact hsel2⟩, rfl, rfl⟩⟩
           · omega
           · rw [List.length_append, List.length_singleton, vC_snoc]
             exact Imp.go (fun i => if i = 0 then 0 else i + 1) _ rfl rfl (List.Sublist.refl _) (fun _ h => absurd h (Nat.not_lt_zero _)) (fun id h => by have h2 : 2 ≤ id := h; show 3 ≤ if id = 0 then 0 else id + 1; rw [if_neg (by omega)]; omega) (by repeat' (first | exact TmT.cons rfl (TnS.d _) ?_ | exact trivial | exact F2.nil | refine F2.append ?_ ?_ | refine F2.map fun _ _ => ?_ | refine F2.cons ?_ ?_ | refine TmT.cons rfl ?_ ?_ | exact TnS.d _ | exact TnS.dx _ | exact TnS.dp _ | exact TnS.slc rfl | exact TnS.ptr rfl | refine TnS.frzf rfl (by simp) (by simp) (by simp) ?_ | refine TnS.frz0 rfl (by simp) (by simp) (by simp) ?_ | refine TnS.frzm rfl (by simp) ?_ | exact TnS.mapr rfl | exact TnS.yld rfl | refine ⟨rfl, ?_⟩ | refine TnO.arr ?_ | refine TnO.map ?_ | exact TnO.raw _ | exact TnO.iter _ _ | refine TnS.agg ?_ | refine TnS.tup ?_ | exact TnS.pure (Pure.clo (by assumption) (by assumption)) | refine TnS.clo ?_ ?_ | exact TnS.unk _ | exact TnS.pure (Pure.clo (by assumption) (by assumption)))) (.cons ⟨rfl, TnO.arr (F2.append (vC_tn _) (.cons (.cons (TnS.d _) (.cons (TnS.d _) .nil)) .nil))⟩ (.cons ⟨rfl, TnO.arr (by repeat' (first | exact TmT.cons rfl (TnS.d _) ?_ | exact trivial | exact F2.nil | refine F2.append ?_ ?_ | refine F2.map fun _ _ => ?_ | refine F2.cons ?_ ?_ | refine TmT.cons rfl ?_ ?_ | exact TnS.d _ | exact TnS.dx _ | exact TnS.dp _ | exact TnS.slc rfl | exact TnS.ptr rfl | refine TnS.frzf rfl (by simp) (by simp) (by simp) ?_ | refine TnS.frz0 rfl (by simp) (by simp) (by simp) ?_ | refine TnS.frzm rfl (by simp) ?_ | exact TnS.mapr rfl | exact TnS.yld rfl | refine ⟨rfl, ?_⟩ | refine TnO.arr ?_ | refine TnO.map ?_ | exact TnO.raw _ | exact TnO.iter _ _ | refine TnS.agg ?_ | refine TnS.tup ?_ | exact TnS.pure (Pure.clo (by assumption) (by assumption)) | refine TnS.clo ?_ ?_ | exact TnS.unk _ | exact TnS.pure (Pure.clo (by assumption) (by assumption))))⟩ .nil)) (fun h => h))
      · have hy : p ⟨(r : Nat), (c : Nat)⟩ = false := by rw [hpe]; exact h30
        rw [sel_no (by omega) hc hy] at hsel2
        refine Tr.skip ?_
        have w1 := add1 (show r * m + c < 4611686018427387904 by omega)
        refine Tr.reg1 [1, 2, 5, 6, 7, 8] (by
            simp only [↓sxd, sxu, ↓zE, ↓exq, St.keep, Nat.reduceBEq, Nat.reduceLT, w1]
            (repeat' (first | rfl | exact trivial | exact fun h => h | exact fun h => (by rw [h]; rfl) | apply And.intro | omega | exact Nat.le_of_ble_eq_true rfl))) ?_
        have w1 := add1 (show c < 4611686018427387904 by omega)
        refine Tr.reg1 [1, 2, 5, 6, 7, 8] (by
            simp only [↓sxd, sxu, ↓zE, ↓exq, St.keep, Nat.reduceBEq, Nat.reduceLT, w1]
            (repeat' (first | rfl | exact trivial | exact fun h => h | exact fun h => (by rw [h]; rfl) | apply And.intro | omega | exact Nat.le_of_ble_eq_true rfl))) ?_
        first
        | exact ⟨_, _, by omega, Imp.keepAll, ⟨c + 1, l2, ⟨hcn, hsel2⟩, rfl, rfl⟩⟩
        | (refine ⟨_, _, ?_, ?_, ⟨c + 1, l2 ++ [⟨(r : Nat), (c : Nat)⟩], ⟨hcn, by rw [List.append_assoc]; exact hsel2⟩, rfl, rfl⟩⟩
           · omega
           · rw [List.length_append, List.length_singleton, vC_snoc]
             exact Imp.go (fun i => if i = 0 then 0 else i + 1) _ rfl rfl (List.Sublist.refl _) (fun _ h => absurd h (Nat.not_lt_zero _)) (fun id h => by have h2 : 2 ≤ id := h; show 3 ≤ if id = 0 then 0 else id + 1; rw [if_neg (by omega)]; omega) (by repeat' (first | exact TmT.cons rfl (TnS.d _) ?_ | exact trivial | exact F2.nil | refine F2.append ?_ ?_ | refine F2.map fun _ _ => ?_ | refine F2.cons ?_ ?_ | refine TmT.cons rfl ?_ ?_ | exact TnS.d _ | exact TnS.dx _ | exact TnS.dp _ | exact TnS.slc rfl | exact TnS.ptr rfl | refine TnS.frzf rfl (by simp) (by simp) (by simp) ?_ | refine TnS.frz0 rfl (by simp) (by simp) (by simp) ?_ | refine TnS.frzm rfl (by simp) ?_ | exact TnS.mapr rfl | exact TnS.yld rfl | refine ⟨rfl, ?_⟩ | refine TnO.arr ?_ | refine TnO.map ?_ | exact TnO.raw _ | exact TnO.iter _ _ | refine TnS.agg ?_ | refine TnS.tup ?_ | exact TnS.pure (Pure.clo (by assumption) (by assumption)) | refine TnS.clo ?_ ?_ | exact TnS.unk _ | exact TnS.pure (Pure.clo (by assumption) (by assumption)))) (.cons ⟨rfl, TnO.arr (F2.append (vC_tn _) (.cons (.cons (TnS.d _) (.cons (TnS.d _) .nil)) .nil))⟩ (.cons ⟨rfl, TnO.arr (by repeat' (first | exact TmT.cons rfl (TnS.d _) ?_ | exact trivial | exact F2.nil | refine F2.append ?_ ?_ | refine F2.map fun _ _ => ?_ | refine F2.cons ?_ ?_ | refine TmT.cons rfl ?_ ?_ | exact TnS.d _ | exact TnS.dx _ | exact TnS.dp _ | exact TnS.slc rfl | exact TnS.ptr rfl | refine TnS.frzf rfl (by simp) (by simp) (by simp) ?_ | refine TnS.frz0 rfl (by simp) (by simp) (by simp) ?_ | refine TnS.frzm rfl (by simp) ?_ | exact TnS.mapr rfl | exact TnS.yld rfl | refine ⟨rfl, ?_⟩ | refine TnO.arr ?_ | refine TnO.map ?_ | exact TnO.raw _ | exact TnO.iter _ _ | refine TnS.agg ?_ | refine TnS.tup ?_ | exact TnS.pure (Pure.clo (by assumption) (by assumption)) | refine TnS.clo ?_ ?_ | exact TnS.unk _ | exact TnS.pure (Pure.clo (by assumption) (by assumption))))⟩ .nil)) (fun h => h))
    · have hc : c = m := by rw [hmm] at h22; simp at h22; omega
      subst hc
      refine Tr.exit ?_
      have w1 := add1 (show r < 4611686018427387904 by omega)
      refine Tr.reg1 [1, 2, 5, 6, 7] (by
          simp only [↓sxd, sxu, ↓zE, ↓exq, St.keep, Nat.reduceBEq, Nat.reduceLT, w1]
          (repeat' (first | rfl | exact trivial | exact fun h => h | exact fun h => (by rw [h]; rfl) | apply And.intro | omega | exact Nat.le_of_ble_eq_true rfl))) ?_
      exact ⟨_, _, by omega, by rw [← Nat.succ_mul]; exact Imp.keepAll, ⟨r + 1, _, ⟨by omega, by rw [Nat.succ_mul]; exact hsel2⟩, rfl, rfl⟩⟩
  · have hr : r = n := by rw [hnn] at h13; simp at h13; omega
    subst hr
    rw [sel_end, List.append_nil] at hsel
    subst hsel
    refine Tr.exit ?_
    refine Tr.imp (Imp.fin (tm' := [(5, SC l)]) (.cons rfl (TnS.frz0 (es := vC l) rfl (by simp) (by simp) (by simp [vC]) (vC_fz _)) trivial)) ?_
    refine Tr.reg [4] (by
        simp only [↓sxd, sxu, ↓zE, ↓exq, St.keep, Nat.reduceLT]
        (repeat' (first | rfl | exact trivial | exact fun h => h | exact fun h => (by rw [h]; rfl) | apply And.intro | omega | exact Nat.le_of_ble_eq_true rfl))) ?_
    refine Tr.ret ?_
    (refine ⟨.inr rfl, ?_⟩; first | rfl | exact ⟨rfl, rfl, trivial⟩ | exact ⟨rfl, rfl, rfl, trivial⟩ | (simp only [Res, ResL, ResOK, ↓sxd, sxu, ↓zE, ↓zC, zH, ↓exP, ↓exq, ↓zB, St.keep, ↓zW, ↓zJ, ↓zL, ↓zD, ↓zN, ↓zO, ↓zG, ↓zQ, ↓zA, Nat.reduceBEq, Nat.reduceAdd, Nat.reduceLT, Nat.reduceMul, Nat.reduceSub, Nat.reduceLeDiff, Nat.reduceEqDiff, Int.reduceLE, Int.reduceLT, Int.reduceToNat, reduceIte, implies_true, sxe, tysH31_17]; (repeat' (first | rfl | exact trivial | exact fun h => h | exact fun h => (by rw [h]; rfl) | apply And.intro | omega | exact Nat.le_of_ble_eq_true rfl))))
end Go.Proofs.Ytijechcadlklhaa
namespace Go.Sy
section
variable {P : Program} {G : Nat → Option (List D)} {ro : Option Nat} {M : Nat} {O : Nat → Prop} {pb pl pl' : Nat → Option Pl} {w w' : World} {hp hp' hp2 : HpT} {nx nx' nx2 : Nat} {ops : Array Oper}
def oUp (O : Nat → Prop) (B x : Nat) : Prop := O x ∨ x = B
theorem Ox_oUp {a : Act} {B : Nat} : Ox (oUp O B) a = oUp (Ox O a) B := funext fun _ => propext or_right_comm
theorem HS.boxO (hs : HS G O pb pl w hp nx) (c : Array Value) (e : TypeId) :
    HS G (oUp O w.heap.size) pb pl (w.alloc (.cells c e)) hp nx ∧ Ext (okOf O pl hp) w (okOf (oUp O w.heap.size) pl hp) (w.alloc (.cells c e)) := by
  have ha := Add.alloc w (.cells c e)
  have hE : Ext (okOf O pl hp) w (okOf (oUp O w.heap.size) pl hp) (w.alloc (.cells c e)) := ⟨fun B hB h => ⟨fun hc => hc.elim h.1 (fun h => by omega), h.2⟩, fun B hB _ => ha.keep B hB, ha.size⟩
  refine ⟨⟨fun p hp0 => ?_, hs.apart, hs.fresh, fun B hB => ?_, hs.base, fun g cs hg => (hs.glob g cs hg).ext hE (fun _ _ h => h)⟩, hE⟩
  · obtain ⟨q, hq, hl, ho⟩ := hs.obj p hp0
    exact ⟨q, hq, fun ht => ⟨Nat.lt_of_lt_of_le (hl ht).1 ha.size, fun hc => hc.elim (hl ht).2 (fun he => by have := (hl ht).1; omega)⟩, ho.ext hE (fun _ _ h => h) fun _ hlt => ha.keep _ hlt⟩
  · rcases hB with hB | rfl
    · exact Nat.lt_of_lt_of_le (hs.old B hB) ha.size
    · exact heap_lt (heap_alloc_new w (.cells c e))
theorem HS.adopt {B : Nat} {q : Pl} {o : Obj} (hs : HS G (oUp O B) pb pl w hp nx) (hO : ¬ O B) (hb : q.blk = B)
    (hobj : ∀ pl' ok', ObjR pl' ok' w q o) : HS G O pb (plUp pl nx q) w ((nx, o) :: hp) (nx + 1) ∧ Ext (okOf (oUp O B) pl hp) w (okOf O (plUp pl nx q) ((nx, o) :: hp)) w := by
  have hmono := hs.plUp_mono q
  have hE : Ext (okOf (oUp O B) pl hp) w (okOf O (plUp pl nx q) ((nx, o) :: hp)) w := Ext.weak fun x hx h => ⟨fun hc => h.1 (.inl hc), fun hc => by
      rcases hs.own_new q o x hc with h' | ⟨_, h'⟩
      · exact h.2 h'
      · exact h.1 (.inr (h'.symm.trans hb))⟩
  refine ⟨⟨fun p hp0 => ?_, ?_, fun id hid => ?_, fun x hx => hs.old x (.inl hx), fun id q' h => hmono _ _ (hs.base id q' h), fun g cs hg => (hs.glob g cs hg).ext hE hmono⟩, hE⟩
  · rcases List.mem_cons.1 hp0 with rfl | hp1
    · exact ⟨q, plUp_self _ _ _, fun _ => ⟨by rw [hb]; exact hs.old B (.inr rfl), by rw [hb]; exact hO⟩, hobj _ _⟩
    · obtain ⟨q', hq, hl, ho⟩ := hs.obj p hp1
      exact ⟨q', hmono _ _ hq, fun ht => ⟨(hl ht).1, fun hc => (hl ht).2 (.inl hc)⟩, ho.ext hE hmono fun _ _ => rfl⟩
  · refine List.Pairwise.cons ?_ ?_
    · intro p hp1
      have hne := hs.mem_lt hp1
      refine ⟨by simp only; omega, fun q₁ q₂ h1 h2 t1 t2 he => ?_⟩
      rw [plUp_self] at h1
      cases h1
      rw [plUp_ne _ _ (by omega)] at h2
      obtain ⟨q₃, h3, h4, _⟩ := hs.obj p hp1
      rw [h2] at h3
      cases h3
      exact (h4 t2).2 (.inr (he.symm.trans hb))
    · refine hs.apart.imp_of_mem fun {p p'} h1 h2 h => ⟨h.1, fun q₁ q₂ g1 g2 => ?_⟩
      have l1 := hs.mem_lt h1
      have l2 := hs.mem_lt h2
      rw [plUp_ne _ _ (by omega)] at g1 g2
      exact h.2 q₁ q₂ g1 g2
  · rw [plUp_ne _ _ (by omega)]; exact hs.fresh id (by omega)
theorem R.adopt {st : St} {a : Act} {B ta : Nat} {c : Array Value} {e : TypeId} {cs : List SV} (hR : R G (oUp O B) M pb pl st a w) (hO : ¬ O B) (hw : w.heap[B]? = some (.cells c e)) (hl : c.size = cs.length) (hne : cs.length ≠ 0)
    (hc : ∀ pl' ok' w' i (hi : i < cs.length), SR pl' ok' w' cs[i] (c.getD i undef)) (ht : a.tmps.getD ta undef = .pointer (some ⟨B, 0, none⟩)) :
    R G O M pb (plUp pl st.nx ⟨B, cs.length, c.size⟩) ⟨(ta, .ptr st.nx 0 0) :: st.tm, (st.nx, .arr cs.length [cs]) :: st.hp, st.nx + 1, st.nt, st.df, st.nb⟩ a w := by
  have hs := hR.hs
  rw [Ox_oUp] at hs
  have hO' : ¬ Ox O a B := by
    rintro (h | ⟨d, hd, hdt⟩)
    · exact hO h
    · obtain ⟨B', e1, _, e2⟩ := hR.df.mks d hd
      rw [e1] at hdt
      cases hdt
      rw [hw] at e2
      cases e2
  obtain ⟨h1, h2⟩ := hs.adopt (q := ⟨B, cs.length, c.size⟩) (o := .arr cs.length [cs]) hO' rfl fun pl' ok' => by
    refine .arr (q := ⟨B, cs.length, c.size⟩) [cs] c e (by show c.size ≠ 0; omega) hw rfl (by show 1 * cs.length ≤ c.size; omega) (fun i hi => ?_) fun i hi j hj => ?_
    · have : i = 0 := by simp at hi; omega
      subst this; rfl
    · have : i = 0 := by simp at hi; omega
      subst this
      simpa using hc pl' ok' w j (by simpa using hj)
  have hmono := hs.plUp_mono ⟨B, cs.length, c.size⟩
  refine ⟨h1, fun t s hl => ?_, hR.nt, hR.df, hR.bd⟩
  simp only [List.lookup_cons] at hl
  split at hl
  · rename_i he
    have : t = ta := by simpa using he
    subst this
    cases hl
    rw [ht]
    have := SR.ptr (ok := okOf (Ox O a) (plUp pl st.nx ⟨B, cs.length, c.size⟩) ((st.nx, .arr cs.length [cs]) :: st.hp)) (w := w) st.nx 0 0 _ (plUp_self pl st.nx ⟨B, cs.length, c.size⟩)
    simpa using this
  · have := hR.tm t s hl
    rw [Ox_oUp] at this
    exact this.ext h2 hmono
theorem EvAt.sound2 {ld : Bool} {i : Nat} {o : Oper} {st : St} {r : SV} {a : Act} {K : Act → World → Prop} {Q : Exit → Act → World → Prop} (hi : ops[i]? = some o) (h : EvAt P G ops ld o st r hp' nx') (hR : R G O M pb pl st a w)
    (hK : ∀ pl' v w', R G O M pb pl' ⟨putT o.dst r st.tm, hp', nx', st.nt, st.df, st.nb⟩ (a.put o.dst v) w' → Step (ownOf pl st.hp) (ownOf pl' hp') w w' → K (a.put o.dst v) w') : wpOpIn (Fw ro) 0 P ops Q i K a w := by
  unfold wpOpIn
  simp only [hi]
  obtain ⟨hd, h⟩ := h
  have hev := ev_sound hR.hs hR.tm
  cases hg : o.guard with
  | none =>
    rw [hg] at h
    simp only at h
    have hw : Region.wanted o (yielded ops a.tmps) = true := by simp [Region.wanted, hg]
    rw [if_pos hw]
    have h' : exq P G o (ev G st.tm) st.hp st.nx (Det r hp' nx') := by
      cases ld
      · exact xF h
      · exact h
    refine (exq_sound hR.hs hev h').wpIn (exq_defer h') ?_
    rintro v w' ⟨pl', r', hp2, nx2, ⟨rfl, rfl, rfl⟩, hs', hv, hst, hpl⟩
    exact hK pl' _ w' (hR.put hd hs' hst hpl hv) hst
  | some jw =>
    obtain ⟨j, want⟩ := jw
    rw [hg] at h
    simp only at h
    obtain ⟨g, b, r0, h1, h2, rfl, hx⟩ := h
    have hgv : SR pl (okOf (Ox O a) pl st.hp) w ((st.tm.lookup g).getD .unk) (a.tmps.getD g undef) := by
      have := hev (.tmp g)
      simpa [ev, Act.eval] using this
    have hgs := gcond_sound hgv h2
    have hwanted : Region.wanted o (yielded ops a.tmps) = b := by
      have hy : yielded ops a.tmps j = bval (a.tmps.getD g undef) := by
        unfold yielded
        rw [h1]
        simp only [Option.bind_some, Array.getD_eq_getD_getElem?]
        cases a.tmps[g]? with
        | none => simp [undef, bval]
        | some v => cases v <;> rfl
      simp only [Region.wanted, hg, hy]
      cases hbb : b
      · cases hv : (bval (a.tmps.getD g undef) == some want)
        · rfl
        · rw [hgs.1 hv] at hbb; cases hbb
      · exact hgs.2 hbb
    rw [hwanted]
    rcases hx with ⟨rfl, rfl, h6⟩ | ⟨_, rfl, h6⟩
    · cases b
      · simp only [Bool.false_eq_true, if_false]
        refine ⟨fun _ _ => trivial, ?_⟩
        exact hK pl _ w (hR.put hd hR.hs (.refl _ _) (fun _ _ h => h) (.whn false r0 undef (fun h => by cases h) (fun _ => rfl))) (.refl _ _)
      · simp only [if_true]
        have hex' := xF (h6 rfl)
        refine (exq_sound hR.hs (fun x => gstrip_sound (hev x)) hex').wpIn (exq_defer hex') ?_
        rintro v w' ⟨pl', r', hp', nx', ⟨rfl, rfl, rfl⟩, hs', hv, hst, hpl⟩
        exact hK pl' _ w' (hR.put hd hs' hst hpl (.whn true _ v (fun _ => hv) (fun h => by cases h))) hst
    · simp only [if_true]
      refine (exq_sound hR.hs (fun x => gstrip_sound (hev x)) h6).wpIn (exq_defer h6) ?_
      rintro v w' ⟨pl', r', hp2', nx2', ⟨rfl, rfl, rfl⟩, hs', hv, hst, hpl⟩
      exact hK pl' _ w' (hR.put hd hs' hst hpl (.whn true _ v (fun _ => hv) (fun h => by cases h))) hst
end
section
variable {P : Program} {G : Nat → Option (List D)} {ro : Option Nat} {M : Nat} {O : Nat → Prop} {pb : Nat → Option Pl} {ops : Array Oper} {m : List Nat} {evs : List Ev} {st0 stf : St} {Q : Exit → Act → World → Prop}
theorem Inv.next2 {own0 : Nat → Prop} {w0 : World} {listed : Array Bool} {pl : Nat → Option Pl} {st : St} {a : Act} {w : World} (hd : DOk ops m evs) (hrun : RunL st0 evs stf)
    (stab : evs.Pairwise (fun x y => y.ld = true → Bf m x.i y.i = true ∨ ∀ id, rdEv G x.o x.st = some id → y.hp.lookup id = y.st.hp.lookup id))
    (reads : evs.Pairwise (fun x y => x.ld = true → (rdEv G y.o y.st).isSome = true → Bf m x.i y.i = true))
    (hI : Inv G O M pb ops evs st0 own0 w0 listed pl st a w) {i : Nat} (hi : i ∈ Region.ready .any ops listed) (hev : ∀ e ∈ evs, e.i = i → EvOk P G ops e) {K : Act → World → Prop}
    (hK : ∀ pl' st' v o w', ops[i]? = some o → Inv G O M pb ops evs st0 own0 w0 (listed.setIfInBounds i true) pl' st' (a.put o.dst v) w' → Step (ownOf pl st.hp) (ownOf pl' st'.hp) w w' → K (a.put o.dst v) w') : wpOpIn (Fw ro) 0 P ops Q i K a w := by
  obtain ⟨hun, o, ho, hall⟩ := mem_ready.1 hi
  have hlt : i < ops.size := (Array.getElem?_eq_some_iff.1 ho).1
  have hlt' : i < listed.size := by rw [hI.sz]; exact hlt
  obtain ⟨e, he, rfl⟩ := hd.full i hlt
  have heo : e.o = o := by
    have := hd.get e he
    rw [ho] at this
    exact (Option.some.inj this).symm
  subst heo
  obtain ⟨pre, post, hsp⟩ := split_at he
  let S : Nat → Bool := fun j => listed.getD j false
  have hSe : S e.i = false := by
    show listed.getD e.i false = false
    rw [getD_lt hlt' false true]; exact hun
  have hdn : ∀ i o, S i = true → ops[i]? = some o → ∀ x ∈ o.after, Region.binds .any x = true → S x.on = true := hI.dn
  have hpred : ∀ j, Bf m j e.i = true → S j = true := down hd hdn e.i e.o ho hall
  have hsucc : ∀ y ∈ evs, S y.i = true → Bf m e.i y.i = false := by
    intro y hy hSy
    cases hb : Bf m e.i y.i
    · rfl
    · have := down hd hdn y.i y.o (hd.get y hy) (hdn _ _ hSy (hd.get y hy)) e.i hb
      rw [hSe] at this
      cases this
  have pw : ∀ {Rl : Ev → Ev → Prop}, evs.Pairwise Rl → (∀ x ∈ pre, Rl x e) ∧ (∀ y ∈ post, Rl e y) := by
    intro Rl h
    rw [hsp] at h
    obtain ⟨h1, h2, h3⟩ := List.pairwise_append.1 h
    exact ⟨fun x hx => h3 x hx e List.mem_cons_self, fun y hy => (List.pairwise_cons.1 h2).1 y hy⟩
  have mpre : ∀ x ∈ pre, x ∈ evs := fun x hx => by rw [hsp]; exact List.mem_append_left _ hx
  have mpost : ∀ y ∈ post, y ∈ evs := fun y hy => by rw [hsp]; exact List.mem_append_right _ (List.mem_cons_of_mem _ hy)
  obtain ⟨ap1, ap2⟩ := pw hd.apart
  obtain ⟨ld1, ld2⟩ := pw hd.louds
  obtain ⟨nd1, nd2⟩ := pw hd.nodup
  rw [hsp] at hrun
  obtain ⟨s, hr2, htm, hhp, hnt, hdf, hnb⟩ := hrun.split
  obtain ⟨hs, hq, hpost⟩ := hr2
  subst hs
  have T : ∀ t ∈ e.o.looksAt ops, st.tm.lookup t = e.st.tm.lookup t := by
    intro t ht
    rw [hI.tm t, hsp, foldT_append, htm]
    simp only [foldT]
    show (foldT S (if S e.i = true then _ else _) post).lookup t = _
    rw [hSe]
    simp only [Bool.false_eq_true, if_false]
    rw [foldT_none post _ fun y hy hyd => by
      cases hSy : S y.i
      · rfl
      · have hb := hsucc y (mpost y hy) hSy
        rcases ap2 y hy with h | h
        · rw [hb] at h; cases h
        · exact absurd hyd (apart_3 h ht)]
    exact foldT_lookup pre _ _ (fun x hx hxd => by
      cases hSx : S x.i
      · rcases ap1 x hx with h | h
        · have := hpred _ h; rw [hSx] at this; cases this
        · exact absurd hxd (apart_1 h ht)
      · exact hSx) rfl
  have hhead : foldH S (st0.hp, st0.nx) evs = foldH S (foldH S (st0.hp, st0.nx) pre) post := by
    rw [hsp, foldH_append]
    simp only [foldH, hSe, Bool.false_and, Bool.false_eq_true, if_false]
  have hpI : (st.hp, st.nx) = foldH S (foldH S (st0.hp, st0.nx) pre) post := by
    rw [← hhead]; exact hI.hp
  have hS' : ∀ j, (listed.setIfInBounds e.i true).getD j false = (if j = e.i then true else S j) := fun j => getD_set hlt'
  have hSe' : (listed.setIfInBounds e.i true).getD e.i false = true := by rw [hS', if_pos rfl]
  have hEv := hev e he rfl
  have hnt' : st.nt = e.st.nt := by rw [hI.nt, hnt]
  have key : ∀ hp2 nx2, EvAt P G ops e.ld e.o st e.r hp2 nx2 → (hp2, nx2) = foldH (fun j => (listed.setIfInBounds e.i true).getD j false) (st0.hp, st0.nx) evs → wpOpIn (Fw ro) 0 P ops Q e.i K a w := by
    intro hp2 nx2 hat hfold
    refine hat.sound2 ho hI.r fun pl' v w' hR' hst' => hK pl' ⟨putT e.o.dst e.r st.tm, hp2, nx2, st.nt, st.df, st.nb⟩ v e.o w' ho ?_ hst'
    refine ⟨by simp [hI.sz], ?_, hR', hI.step.trans hst', ?_, hfold, hI.nt, hI.df, hI.nb⟩
    · intro j oj hj hoj x hx hb
      rw [hS'] at hj ⊢
      split
      · rfl
      · by_cases hje : j = e.i
        · subst hje
          rw [ho] at hoj
          cases hoj
          exact hall x hx hb
        · rw [if_neg hje] at hj
          exact hdn j oj hj hoj x hx hb
    · intro t
      by_cases hdt : e.o.dst = some t
      · simp only [hdt, putT_lookup_eq]
        rw [hsp, foldT_append]
        simp only [foldT]
        rw [if_pos hSe']
        rw [foldT_none post _ fun y hy hyd => by
          have hne : y.i ≠ e.i := fun h => nd2 y hy h.symm
          show (listed.setIfInBounds e.i true).getD y.i false = false
          rw [hS', if_neg hne]
          cases hSy : S y.i
          · rfl
          · have hb := hsucc y (mpost y hy) hSy
            rcases ap2 y hy with h | h
            · rw [hb] at h; cases h
            · exact absurd hyd (apart_2 h hdt)]
        rw [hdt, putT_lookup_eq]
      · simp only
        rw [putT_lookup_ne hdt, hI.tm t]
        refine foldT_lookup evs _ _ (fun x hx hxd => ?_) rfl
        show S x.i = (listed.setIfInBounds e.i true).getD x.i false
        rw [hS']
        have hne : x.i ≠ e.i := by
          intro hc
          have h1 := hd.get x hx
          rw [hc, ho] at h1
          have : x.o = e.o := (Option.some.inj h1).symm
          rw [this] at hxd
          exact hdt hxd
        rw [if_neg hne]
  cases hl : e.ld with
  | true =>
    have hpre : foldH S (st0.hp, st0.nx) pre = (e.st.hp, e.st.nx) := by
      rw [hhp]
      exact foldH_congr pre _ fun x hx hxl => hpred _ (ld1 x hx hxl hl)
    have hpost0 : ∀ y ∈ post, y.ld = true → S y.i = false := by
      intro y hy hyl
      cases hSy : S y.i
      · rfl
      · have := hsucc y (mpost y hy) hSy
        rw [ld2 y hy hl hyl] at this
        cases this
    have hcur : (st.hp, st.nx) = (e.st.hp, e.st.nx) := by
      rw [hpI, hpre, foldH_none post _ hpost0]
    obtain ⟨c1, c2⟩ := Prod.mk.inj hcur
    refine key e.hp e.nx (hEv.1.move T hnt' (.inl ⟨c1, c2, rfl, rfl⟩)) ?_
    rw [hsp, foldH_append]
    simp only [foldH, hl, Bool.and_true]
    rw [if_pos hSe']
    rw [foldH_none post _ fun y hy hyl => by
      rw [hS', if_neg fun h => nd2 y hy h.symm]
      exact hpost0 y hy hyl]
  | false =>
    obtain ⟨q1, q2⟩ := hq hl
    refine key st.hp st.nx (hEv.1.move T hnt' (.inr ⟨hl, hEv.2 hl, q1, q2, rfl, rfl, fun id hid => ?_⟩)) ?_
    · have hpre : foldH S (st0.hp, st0.nx) pre = (e.st.hp, e.st.nx) := by
        rw [hhp]
        refine foldH_congr pre _ fun x hx hxl => hpred _ ((pw reads).1 x hx hxl (by rw [hid]; rfl))
      have h1 : st.hp = (foldH S (e.st.hp, e.st.nx) post).1 := by
        rw [← hpre, ← hpI]
      rw [h1]
      have hn : ((nextSt e).hp, (nextSt e).nx) = (e.st.hp, e.st.nx) := by simp [nextSt, q1, q2]
      rw [← hn]
      rw [show e.st.hp = (nextSt e).hp from (Prod.mk.inj hn).1.symm]
      refine foldH_stable hpost (fun y hy hyl hSy => ?_) ?_
      · rcases (pw stab).2 y hy hyl with h | h
        · have := hsucc y (mpost y hy) hSy
          rw [h] at this
          cases this
        · exact h id hid
      · have hpp : post.Pairwise (fun x y => x.ld = true → y.ld = true → Bf m x.i y.i = true) := by
          have h := hd.louds
          rw [hsp] at h
          exact (List.pairwise_cons.1 (List.pairwise_append.1 h).2.1).2
        refine hpp.imp_of_mem fun {x y} hx hy h hxl hyl hSy => ?_
        exact down hd hdn y.i y.o (hd.get y (mpost y hy)) (hdn _ _ hSy (hd.get y (mpost y hy))) x.i (h hxl hyl)
    · rw [hI.hp]
      refine foldH_congr evs _ fun x hx hxl => ?_
      show S x.i = _
      rw [hS']
      have hne : x.i ≠ e.i := by
        intro hc
        have hxe : x = e ∨ x ∈ pre ∨ x ∈ post := by
          rw [hsp] at hx
          rcases List.mem_append.1 hx with h | h
          · exact .inr (.inl h)
          · rcases List.mem_cons.1 h with h | h
            · exact .inl h
            · exact .inr (.inr h)
        rcases hxe with h | h | h
        · rw [h, hl] at hxl; cases hxl
        · exact nd1 x h hc
        · exact nd2 x h hc.symm
      rw [if_neg hne]
theorem DOk_of2 {ul : List Nat} {m : List Nat} {L : List (Nat × Oper × Bool)} {evs : List Ev} (h1 : pairB (dPair m ops ul) L = true) (h3 : ((List.range ops.size).all (fun i => L.any (·.1 == i))) = true) (h4 : ((List.range ops.size).all fun q => match ops[q]? with | some o => m.getD q 0 == orE m o.after.toList && o.after.toList.all (fun e => !Region.binds .any e || e.on < q) | none => true) = true) (hg : ∀ x ∈ L, ops[x.1]? = some x.2.1) (hm : evs.map (fun e => (e.i, e.o, e.ld)) = L) :
    DOk ops m evs ∧ evs.Pairwise (fun x y => x.ld = true → isRd y.o = true → Bf m x.i y.i = true) ∧
      evs.Pairwise (fun x y => y.ld = true → isRd x.o = true → Bf m x.i y.i = true ∨ ul.contains x.i = true) := by
  have hp := pairB_spec h1
  rw [← hm, List.pairwise_map] at hp
  have hp' : evs.Pairwise (fun x y => x.i ≠ y.i ∧ Bf m y.i x.i = false ∧ (Bf m x.i y.i = true ∨ (x.o.apart ops y.o = true ∧ ¬(x.ld = true ∧ y.ld = true) ∧ ¬(x.ld = true ∧ isRd y.o = true) ∧ (¬(y.ld = true ∧ isRd x.o = true) ∨ ul.contains x.i = true)))) := by
    refine hp.imp fun {x y} h => ?_
    simp only [dPair, Bool.and_eq_true, bne_iff_ne, ne_eq, Bool.not_eq_true', Bool.or_eq_true] at h
    obtain ⟨⟨a1, a2⟩, a3⟩ := h
    refine ⟨a1, a2, ?_⟩
    rcases a3 with a3 | ⟨⟨⟨a3, a4⟩, a5⟩, a6⟩
    · exact .inl a3
    · refine .inr ⟨a3, fun ⟨u, v⟩ => by simp [u, v] at a4, fun ⟨u, v⟩ => by simp [u, v] at a5, ?_⟩
      rcases a6 with a6 | a6
      · exact .inl fun ⟨u, v⟩ => by simp [u, v] at a6
      · exact .inr a6
  have mem : ∀ e ∈ evs, (e.i, e.o, e.ld) ∈ L := fun e he => by rw [← hm]; exact List.mem_map_of_mem (f := fun e : Ev => (e.i, e.o, e.ld)) he
  refine ⟨⟨fun e he => hg _ (mem e he), fun i hi => ?_, hp'.imp fun h => h.1, hp'.imp fun h => h.2.1, hp'.imp fun h => h.2.2.imp id fun h => h.1, hp'.imp fun h => ?_, fun q o ho => ?_, fun q o ho e he hb => ?_⟩, hp'.imp fun h hx hy => ?_, hp'.imp fun h hy hx => ?_⟩
  · have := List.all_eq_true.1 h3 i (List.mem_range.2 hi)
    obtain ⟨x, hx, hxi⟩ := List.any_eq_true.1 this
    rw [← hm] at hx
    obtain ⟨e, he, rfl⟩ := List.mem_map.1 hx
    exact ⟨e, he, by simpa using hxi⟩
  · intro hx hy
    rcases h.2.2 with h | h
    · exact h
    · exact absurd ⟨hx, hy⟩ h.2.1
  · have hq : q < ops.size := (Array.getElem?_eq_some_iff.1 ho).1
    have := List.all_eq_true.1 h4 q (List.mem_range.2 hq)
    rw [ho] at this
    simp only [Bool.and_eq_true, beq_iff_eq] at this
    exact this.1
  · have hq : q < ops.size := (Array.getElem?_eq_some_iff.1 ho).1
    have := List.all_eq_true.1 h4 q (List.mem_range.2 hq)
    rw [ho] at this
    simp only [Bool.and_eq_true, List.all_eq_true] at this
    have := this.2 e (by simpa using he)
    simpa [hb] using this
  · rcases h.2.2 with h | h
    · exact h
    · exact absurd ⟨hx, hy⟩ h.2.2.1
  · rcases h.2.2 with h | h
    · exact .inl h
    · rcases h.2.2.2 with h | h
      · exact absurd ⟨hy, hx⟩ h
      · exact .inr h
theorem ready_ne (hd : DOk ops m evs) {listed : Array Bool} (hsz : listed.size = ops.size) (hf : (evs.filter fun e => !listed.getD e.i false).length ≠ 0) : Region.ready .any ops listed ≠ [] := by
  intro h0
  have hex : ∃ pre e post, evs = pre ++ e :: post ∧ listed.getD e.i false = false ∧ ∀ x ∈ pre, listed.getD x.i false = true := by
    have : ∀ (l : List Ev), (l.filter fun e => !listed.getD e.i false).length ≠ 0 → ∃ pre e post, l = pre ++ e :: post ∧ listed.getD e.i false = false ∧ ∀ x ∈ pre, listed.getD x.i false = true := by
      intro l
      induction l with
      | nil => intro h; simp at h
      | cons x l ihl =>
        intro h
        cases hx : listed.getD x.i false
        · exact ⟨[], x, l, rfl, hx, fun _ h => by simp at h⟩
        · obtain ⟨pre, e, post, h1, h2, h3⟩ := ihl (by rw [List.filter_cons_of_neg (by rw [hx]; decide)] at h; exact h)
          refine ⟨x :: pre, e, post, by rw [h1]; rfl, h2, fun y hy => ?_⟩
          rcases List.mem_cons.1 hy with rfl | hy
          · exact hx
          · exact h3 y hy
    exact this evs hf
  obtain ⟨pre, e, post, hsp, hun, hpre⟩ := hex
  have he : e ∈ evs := by rw [hsp]; simp
  have hlt : e.i < ops.size := (Array.getElem?_eq_some_iff.1 (hd.get e he)).1
  have hmem : e.i ∈ Region.ready .any ops listed := by
    refine mem_ready.2 ⟨by rw [getD_lt (by rw [hsz]; exact hlt) true false]; exact hun, e.o, hd.get e he, fun x hx hb => ?_⟩
    have hback := hd.back _ _ (hd.get e he) x hx hb
    obtain ⟨y, hy, hyi⟩ := hd.full x.on (by omega)
    have hbit : Bf m y.i e.i = true := by
      unfold Bf
      rw [hd.bef _ _ (hd.get e he), hyi]
      exact orE_edge hb (by simpa using hx)
    have hext := hd.ext
    rw [hsp] at hext hy
    rcases List.mem_append.1 hy with h | h
    · rw [← hyi]; exact hpre y h
    · rcases List.mem_cons.1 h with h | h
      · subst h; omega
      · have := (List.pairwise_cons.1 (List.pairwise_append.1 hext).2.1).1 y h
        rw [hbit] at this
        cases this
  rw [h0] at hmem
  cases hmem
theorem count_set (hd : DOk ops m evs) {listed : Array Bool} (hsz : listed.size = ops.size) {i : Nat} (hi : i ∈ Region.ready .any ops listed) :
    (evs.filter fun x => !(listed.setIfInBounds i true).getD x.i false).length + 1 = (evs.filter fun x => !listed.getD x.i false).length := by
  obtain ⟨hun, o, ho, _⟩ := mem_ready.1 hi
  have hlt : i < ops.size := (Array.getElem?_eq_some_iff.1 ho).1
  have hlt' : i < listed.size := by rw [hsz]; exact hlt
  obtain ⟨e, he, rfl⟩ := hd.full i hlt
  have hun' : listed.getD e.i false = false := by rw [getD_lt hlt' false true]; exact hun
  have cnt : ∀ (l : List Ev), l.Pairwise (fun x y => x.i ≠ y.i) →
      (e ∈ l → (l.filter fun x => !(listed.setIfInBounds e.i true).getD x.i false).length + 1 = (l.filter fun x => !listed.getD x.i false).length) ∧
      ((∀ x ∈ l, x.i ≠ e.i) → (l.filter fun x => !(listed.setIfInBounds e.i true).getD x.i false).length = (l.filter fun x => !listed.getD x.i false).length) := by
    intro l
    induction l with
    | nil => intro _; simp
    | cons x l ihl =>
      intro hp
      obtain ⟨hp1, hp2⟩ := List.pairwise_cons.1 hp
      obtain ⟨i2, i3⟩ := ihl hp2
      refine ⟨fun h => ?_, fun h => ?_⟩
      · by_cases hx : x.i = e.i
        · have := i3 fun y hy hc => hp1 y hy (by rw [hx, hc])
          rw [List.filter_cons, List.filter_cons, getD_set hlt', if_pos hx, hx, hun']
          simp only [Bool.not_true, Bool.false_eq_true, if_false, Bool.not_false, if_true, List.length_cons]
          rw [this]
        · have hmem : e ∈ l := by
            rcases List.mem_cons.1 h with h | h
            · subst h; exact absurd rfl hx
            · exact h
          have := i2 hmem
          rw [List.filter_cons, List.filter_cons, getD_set hlt', if_neg hx]
          split
          · simp only [List.length_cons]; omega
          · exact this
      · have hx : x.i ≠ e.i := h x List.mem_cons_self
        have := i3 fun y hy => h y (List.mem_cons_of_mem _ hy)
        rw [List.filter_cons, List.filter_cons, getD_set hlt', if_neg hx]
        split
        · simp only [List.length_cons]; omega
        · exact this
  exact (cnt evs hd.nodup).1 he
theorem put_ne {a : Act} {dst : Option Tmp} {v : Value} {ta : Nat} (h : dst ≠ some ta) : (a.put dst v).tmps.getD ta undef = a.tmps.getD ta undef := by
  cases dst with
  | none => rfl
  | some d =>
    have hne : d ≠ ta := fun hc => h (by rw [hc])
    show (a.tmps.setIfInBounds d v).getD ta undef = _
    simp [Array.getD_eq_getD_getElem?, hne]
theorem put_eq {a : Act} {v : Value} {ta : Nat} (h : ta < a.tmps.size) : (a.put (some ta) v).tmps.getD ta undef = v := by
  show (a.tmps.setIfInBounds ta v).getD ta undef = _
  simp [Array.getD_eq_getD_getElem?, h]
theorem Inv.box {own0 : Nat → Prop} {w0 : World} {listed : Array Bool} {pl : Nat → Option Pl} {st : St} {a : Act} {w : World} (hd : DOk ops m evs) (hI : Inv G O M pb ops evs st0 own0 w0 listed pl st a w) {i : Nat} {o : Oper} {t : TypeId} {ta : Nat} {cs : List SV}
    (hi : i ∈ Region.ready .any ops listed) (ho : ops[i]? = some o) (hg : o.guard = none) (hop : o.op = .alloc t) (hdst : o.dst = some ta) (hta : ta < st0.nt) (hz : tzero P t = some cs)
    (hev : ∀ e ∈ evs, e.i = i → e.ld = false ∧ e.r = .unk) {K : Act → World → Prop}
    (hK : ∀ B c e st' a' w', Inv G (oUp O B) M pb ops evs st0 own0 w0 (listed.setIfInBounds i true) pl st' a' w' → ¬ O B → w0.heap.size ≤ B → w'.heap[B]? = some (.cells c e) → c.size = cs.length →
      (∀ pl' ok' w' i (hi : i < cs.length), SR pl' ok' w' cs[i] (c.getD i undef)) → a'.tmps.getD ta undef = .pointer (some ⟨B, 0, none⟩) → K a' w') : wpOpIn (Fw ro) 0 P ops Q i K a w := by
  obtain ⟨ii, z, hi', hz', rfl⟩ := tzero_some hz
  have hrun : (Instr.alloc t true (.tuple #[])).run P w = .ok (.pointer (some ⟨w.heap.size, 0, none⟩)) (w.alloc (.cells z.cells t)) := by simp [Instr.alloc, zeroValue, run_typeInfo w hi', hz', newVar, newRow]
  unfold wpOpIn
  simp only [ho]
  rw [if_pos (by simp [Region.wanted, hg])]
  refine RunOp.wpIn (K := fun u w' => u = .pointer (some ⟨w.heap.size, 0, none⟩) ∧ w' = w.alloc (.cells z.cells t)) (fun c hc => by rw [hop] at hc; cases hc) (RunOp.value (v := .pointer (some ⟨w.heap.size, 0, none⟩)) (by simp [execOp, hop, hrun]) ⟨rfl, rfl⟩) ?_
  rintro v w' ⟨rfl, rfl⟩
  obtain ⟨h1, h2⟩ := hI.r.hs.boxO z.cells t
  have hOB : ¬ O w.heap.size := fun h => by have := hI.r.hs.old _ (.inl h); omega
  have hst : Step (ownOf pl st.hp) (ownOf pl st.hp) w (w.alloc (.cells z.cells t)) := (Add.alloc w _).step
  obtain ⟨hun, o', ho', hall⟩ := mem_ready.1 hi
  rw [ho] at ho'
  cases ho'
  have hlt : i < ops.size := (Array.getElem?_eq_some_iff.1 ho).1
  have hlt' : i < listed.size := by rw [hI.sz]; exact hlt
  obtain ⟨e, he, hei⟩ := hd.full i hlt
  obtain ⟨hld, hr⟩ := hev e he hei
  have heo : e.o = o := by
    have := hd.get e he
    rw [hei, ho] at this
    exact (Option.some.inj this).symm
  subst hei heo
  obtain ⟨pre, post, hsp⟩ := split_at he
  let S : Nat → Bool := fun j => listed.getD j false
  have hSe : S e.i = false := by
    show listed.getD e.i false = false
    rw [getD_lt hlt' false true]; exact hun
  have hdn : ∀ i o, S i = true → ops[i]? = some o → ∀ x ∈ o.after, Region.binds .any x = true → S x.on = true := hI.dn
  have hsucc : ∀ y ∈ evs, S y.i = true → Bf m e.i y.i = false := by
    intro y hy hSy
    cases hb : Bf m e.i y.i
    · rfl
    · have := down hd hdn y.i y.o (hd.get y hy) (hdn _ _ hSy (hd.get y hy)) e.i hb
      rw [hSe] at this
      cases this
  have pw : ∀ {Rl : Ev → Ev → Prop}, evs.Pairwise Rl → (∀ x ∈ pre, Rl x e) ∧ (∀ y ∈ post, Rl e y) := by
    intro Rl h
    rw [hsp] at h
    obtain ⟨h1, h2, h3⟩ := List.pairwise_append.1 h
    exact ⟨fun x hx => h3 x hx e List.mem_cons_self, fun y hy => (List.pairwise_cons.1 h2).1 y hy⟩
  have mpost : ∀ y ∈ post, y ∈ evs := fun y hy => by rw [hsp]; exact List.mem_append_right _ (List.mem_cons_of_mem _ hy)
  obtain ⟨ap1, ap2⟩ := pw hd.apart
  obtain ⟨nd1, nd2⟩ := pw hd.nodup
  have hS' : ∀ j, (listed.setIfInBounds e.i true).getD j false = (if j = e.i then true else S j) := fun j => getD_set hlt'
  have hSe' : (listed.setIfInBounds e.i true).getD e.i false = true := by rw [hS', if_pos rfl]
  have hnt : ta < a.tmps.size := by rw [hI.r.nt, hI.nt]; exact hta
  refine hK w.heap.size z.cells t ⟨putT e.o.dst e.r st.tm, st.hp, st.nx, st.nt, st.df, st.nb⟩ _ _ ?_ hOB hI.step.size (heap_alloc_new _ _) (by simp) (fun pl' ok' w' i hi => zeroCells_rel z i hi) (by rw [hdst]; exact put_eq hnt)
  refine ⟨by simp [hI.sz], ?_, ?_, hI.step.trans hst, ?_, ?_, hI.nt, hI.df, hI.nb⟩
  · intro j oj hj hoj x hx hb
    rw [hS'] at hj ⊢
    split
    · rfl
    · by_cases hje : j = e.i
      · subst hje
        rw [ho] at hoj
        cases hoj
        exact hall x hx hb
      · rw [if_neg hje] at hj
        exact hdn j oj hj hoj x hx hb
  · rw [hdst, hr]
    refine ⟨by rw [Ox_put, Ox_oUp]; exact h1, fun u s hl => ?_, ?_, hI.r.dfStep hst, hI.r.bd⟩
    · rw [Ox_put, Ox_oUp]
      have hl : ((ta, SV.unk) :: st.tm).lookup u = some s := hl
      simp only [List.lookup_cons] at hl
      split at hl
      · cases hl; exact .unk _
      · rename_i hne
        have hne : u ≠ ta := by simpa using hne
        rw [put_ne (fun hc => hne (by cases hc; rfl))]
        exact (hI.r.tm u s hl).ext h2 (fun _ _ h => h)
    · show (a.tmps.setIfInBounds ta _).size = _
      rw [Array.size_setIfInBounds]; exact hI.r.nt
  · intro t
    by_cases hdt : e.o.dst = some t
    · simp only [hdt, putT_lookup_eq]
      rw [hsp, foldT_append]
      simp only [foldT]
      rw [if_pos hSe']
      rw [foldT_none post _ fun y hy hyd => by
        have hne : y.i ≠ e.i := fun h => nd2 y hy h.symm
        show (listed.setIfInBounds e.i true).getD y.i false = false
        rw [hS', if_neg hne]
        cases hSy : S y.i
        · rfl
        · have hb := hsucc y (mpost y hy) hSy
          rcases ap2 y hy with h | h
          · rw [hb] at h; cases h
          · exact absurd hyd (apart_2 h hdt)]
      rw [hdt, putT_lookup_eq]
    · simp only
      rw [putT_lookup_ne hdt, hI.tm t]
      refine foldT_lookup evs _ _ (fun x hx hxd => ?_) rfl
      show S x.i = (listed.setIfInBounds e.i true).getD x.i false
      rw [hS']
      have hne : x.i ≠ e.i := by
        intro hc
        have h1 := hd.get x hx
        rw [hc, ho] at h1
        have : x.o = e.o := (Option.some.inj h1).symm
        rw [this] at hxd
        exact hdt hxd
      rw [if_neg hne]
  · simp only
    rw [hI.hp]
    refine foldH_congr evs _ fun x hx hxl => ?_
    show S x.i = _
    rw [hS']
    have hne : x.i ≠ e.i := by
      intro hc
      have hxe : x = e ∨ x ∈ pre ∨ x ∈ post := by
        rw [hsp] at hx
        rcases List.mem_append.1 hx with h | h
        · exact .inr (.inl h)
        · rcases List.mem_cons.1 h with h | h
          · exact .inl h
          · exact .inr (.inr h)
      rcases hxe with h | h | h
      · rw [h, hld] at hxl; cases hxl
      · exact nd1 x h hc
      · exact nd2 x h hc.symm
    rw [if_neg hne]
theorem box_sim {own0 : Nat → Prop} {w0 : World} {ev1 : List Ev} {es : Ev} {st1 : St} {ia ta : Nat} {oa : Oper} {t : TypeId} {cs : List SV} {r : SV} {hp' : HpT} {nx' : Nat} {tmA : List (Nat × SV)} (hd : DOk ops m (ev1 ++ [es])) (hrun : RunL st0 ev1 st1)
    (hes : es.st = st1 ∧ es.ld = false ∧ es.hp = st1.hp ∧ es.nx = st1.nx) (hev : ∀ e ∈ ev1, e.i ≠ ia → EvOk P G ops e) (hea : ∀ e ∈ ev1 ++ [es], e.i = ia → e.ld = false ∧ e.r = .unk)
    (ho : ops[ia]? = some oa) (hg : oa.guard = none) (hop : oa.op = .alloc t) (hdst : oa.dst = some ta) (hta : ta < st0.nt) (hz : tzero P t = some cs) (hcs : cs.length ≠ 0) (hne : es.i ≠ ia)
    (hlast : ∀ e ∈ ev1, Bf m e.i es.i = true) (hap : ∀ e ∈ ev1, e.i ≠ ia → Bf m e.i ia = true ∨ e.o.dst ≠ some ta)
    (stab : (ev1 ++ [es]).Pairwise (fun x y => y.ld = true → Bf m x.i y.i = true ∨ ∀ id, rdEv G x.o x.st = some id → y.hp.lookup id = y.st.hp.lookup id))
    (reads : (ev1 ++ [es]).Pairwise (fun x y => x.ld = true → (rdEv G y.o y.st).isSome = true → Bf m x.i y.i = true))
    (htmA : ∀ t, tmA.lookup t = ((ta, SV.ptr st1.nx 0 0) :: st1.tm).lookup t)
    (hstore : EvAt P G ops true es.o ⟨tmA, (st1.nx, .arr cs.length [cs]) :: st1.hp, st1.nx + 1, st1.nt, st1.df, st1.nb⟩ r hp' nx')
    (hQ : ∀ pl a w, R G O M pb pl ⟨putT es.o.dst r tmA, hp', nx', st1.nt, st1.df, st1.nb⟩ a w → Step own0 (ownOf pl hp') w0 w → Q .normal a w) :
    ∀ (fuel : Nat) (listed : Array Bool) (a : Act) (w : World), ((ev1 ++ [es]).filter fun e => !listed.getD e.i false).length = fuel → listed.getD es.i false = false →
      ((listed.getD ia false = false ∧ ∃ pl st, Inv G O M pb ops (ev1 ++ [es]) st0 own0 w0 listed pl st a w) ∨
       (listed.getD ia false = true ∧ ∃ B c e pl st, Inv G (oUp O B) M pb ops (ev1 ++ [es]) st0 own0 w0 listed pl st a w ∧ ¬ O B ∧ w0.heap.size ≤ B ∧ w.heap[B]? = some (.cells c e) ∧ c.size = cs.length ∧
          (∀ pl' ok' w' i (hi : i < cs.length), SR pl' ok' w' cs[i] (c.getD i undef)) ∧ a.tmps.getD ta undef = .pointer (some ⟨B, 0, none⟩))) → wpAnyIn (Fw ro) 0 P .any ops Q fuel listed a w := by
  have hrun2 : RunL st0 (ev1 ++ [es]) (nextSt es) := RunL_append hrun ⟨hes.1, fun _ => ⟨hes.2.2.1, hes.2.2.2⟩, rfl⟩
  have hmem : es ∈ ev1 ++ [es] := List.mem_append_right _ List.mem_cons_self
  have hesi : ops[es.i]? = some es.o := hd.get es hmem
  have hlt : es.i < ops.size := (Array.getElem?_eq_some_iff.1 hesi).1
  intro fuel
  induction fuel with
  | zero =>
    intro listed a w hf hl _
    have := List.filter_eq_nil_iff.1 (List.length_eq_zero_iff.1 hf) es hmem
    rw [hl] at this
    exact absurd rfl this
  | succ fuel ih =>
    intro listed a w hf hl hA
    have hsz : listed.size = ops.size := by
      rcases hA with ⟨_, pl, st, h⟩ | ⟨_, B, c, e, pl, st, h, _⟩
      · exact h.sz
      · exact h.sz
    have hdn : ∀ i o, listed.getD i false = true → ops[i]? = some o → ∀ e ∈ o.after, Region.binds .any e = true → listed.getD e.on false = true := by
      rcases hA with ⟨_, pl, st, h⟩ | ⟨_, B, c, e, pl, st, h, _⟩
      · exact h.dn
      · exact h.dn
    refine ⟨fun h => absurd h (ready_ne hd hsz (by omega)), fun i hi => ?_⟩
    have hcount := count_set hd hsz hi
    obtain ⟨hun, o, hoi, hall⟩ := mem_ready.1 hi
    have hilt : i < ops.size := (Array.getElem?_eq_some_iff.1 hoi).1
    have hun' : listed.getD i false = false := by rw [getD_lt (by rw [hsz]; exact hilt) false true]; exact hun
    have hset : ∀ j, j ≠ i → (listed.setIfInBounds i true).getD j false = listed.getD j false := fun j hj => by rw [getD_set (by rw [hsz]; exact hilt), if_neg hj]
    by_cases hie : i = es.i
    · subst hie
      rw [hesi] at hoi
      cases hoi
      have hS : ∀ e ∈ ev1, listed.getD e.i false = true := fun e he => down hd hdn es.i es.o hesi hall e.i (hlast e he)
      have hia : listed.getD ia false = true := by
        obtain ⟨e, he, hei⟩ := hd.full ia (Array.getElem?_eq_some_iff.1 ho).1
        rcases List.mem_append.1 he with he | he
        · rw [← hei]; exact hS e he
        · rw [List.mem_singleton] at he
          subst he
          exact absurd hei hne
      rcases hA with ⟨h, _⟩ | ⟨_, B, c, e, pl, st, hI, hOB, hB, hw, hc1, hc2, hta2⟩
      · rw [hia] at h; cases h
      obtain ⟨s, h1, h2, h3, h4, h5, h6⟩ := RunL.split (pre := ev1) (post := []) (by simpa using hrun)
      have hs1 : st1 = s := h1
      subst hs1
      have e1 : (st.hp, st.nx) = (st1.hp, st1.nx) := by
        rw [hI.hp, h3, foldH_append]
        simp only [foldH, hl, Bool.false_and, Bool.false_eq_true, if_false]
        exact foldH_congr ev1 _ fun e he _ => hS e he
      obtain ⟨c1, c2⟩ := Prod.mk.inj e1
      have hR1 : R G (oUp O B) M pb pl st1 a w := hI.r.look (fun t => by
        rw [hI.tm t, h2, foldT_append]
        simp only [foldT, hl, Bool.false_eq_true, if_false]
        exact (foldT_lookup ev1 _ _ (fun e he _ => (hS e he).symm) rfl)) c1.symm c2.symm (by rw [h4, hI.nt]) (by rw [h5, hI.df]) (by rw [h6, hI.nb])
      have hR2 := (hR1.adopt hOB hw hc1 hcs hc2 hta2).look (st' := ⟨tmA, (st1.nx, .arr cs.length [cs]) :: st1.hp, st1.nx + 1, st1.nt, st1.df, st1.nb⟩) htmA rfl rfl rfl rfl rfl
      have hst1 : Step own0 (ownOf pl st1.hp) w0 w := by rw [← c1]; exact hI.step
      have hst2 : Step own0 (ownOf (plUp pl st1.nx ⟨B, cs.length, c.size⟩) ((st1.nx, .arr cs.length [cs]) :: st1.hp)) w0 w := ⟨hst1.size, hst1.keep, hst1.os, hst1.out, fun x hx => by
        rcases hR1.hs.own_new _ _ _ hx with h | ⟨_, rfl⟩
        · exact hst1.own x h
        · exact .inr hB⟩
      refine hstore.sound hesi hR2 fun pl' a' w' hR' hst' => ?_
      have hall' : ∀ e ∈ ev1 ++ [es], (listed.setIfInBounds es.i true).getD e.i false = true := fun e he => by
        by_cases hee : e.i = es.i
        · rw [hee, getD_set (by rw [hsz]; exact hlt), if_pos rfl]
        · rw [hset _ hee]
          rcases List.mem_append.1 he with he | he
          · exact hS e he
          · rw [List.mem_singleton] at he
            exact absurd (by rw [he]) hee
      have hnil : ((ev1 ++ [es]).filter fun x => !(listed.setIfInBounds es.i true).getD x.i false) = [] := List.filter_eq_nil_iff.2 fun e he => by rw [hall' e he]; decide
      rw [hnil] at hcount
      have hf0 : fuel = 0 := by
        have : ([] : List Ev).length = 0 := rfl
        omega
      subst hf0
      refine ⟨?_, hQ pl' a' w' hR' (hst2.trans hst')⟩
      refine List.eq_nil_iff_forall_not_mem.2 fun i hi => ?_
      obtain ⟨hun, o, ho, _⟩ := mem_ready.1 hi
      have hlt2 : i < ops.size := (Array.getElem?_eq_some_iff.1 ho).1
      obtain ⟨e, he, rfl⟩ := hd.full i hlt2
      have := hall' e he
      rw [getD_lt (by simp [hsz]; exact hlt2) false true, hun] at this
      cases this
    · have hle : (listed.setIfInBounds i true).getD es.i false = false := by rw [hset _ (Ne.symm hie)]; exact hl
      have hfu : ((ev1 ++ [es]).filter fun x => !(listed.setIfInBounds i true).getD x.i false).length = fuel := by omega
      by_cases hia : i = ia
      · subst hia
        rcases hA with ⟨_, pl, st, hI⟩ | ⟨h, _⟩
        · refine Inv.box hd hI hi ho hg hop hdst hta hz hea fun B c e st' a' w' hI' hOB hB hw hc1 hc2 ht => ih _ a' w' hfu hle (.inr ⟨?_, B, c, e, pl, st', hI', hOB, hB, hw, hc1, hc2, ht⟩)
          rw [getD_set (by rw [hsz]; exact hilt), if_pos rfl]
        · rw [hun'] at h; cases h
      · have hevi : ∀ e ∈ ev1 ++ [es], e.i = i → EvOk P G ops e := fun e he hei => by
          rcases List.mem_append.1 he with he | he
          · exact hev e he (by rw [hei]; exact hia)
          · rw [List.mem_singleton] at he
            subst he
            exact absurd hei.symm hie
        rcases hA with ⟨h, pl, st, hI⟩ | ⟨h, B, c, e, pl, st, hI, hOB, hB, hw, hc1, hc2, ht⟩
        · refine Inv.next2 hd hrun2 stab reads hI hi hevi fun pl' st' v o w' _ hI' _ => ih _ _ w' hfu hle (.inl ⟨?_, pl', st', hI'⟩)
          rw [hset _ (Ne.symm hia)]; exact h
        · refine Inv.next2 hd hrun2 stab reads hI hi hevi fun pl' st' v o' w' ho' hI' hst => ih _ _ w' hfu hle (.inr ⟨?_, B, c, e, pl', st', hI', hOB, hB, ?_, hc1, hc2, ?_⟩)
          · rw [hset _ (Ne.symm hia)]; exact h
          · rw [hst.keep B (hI.r.hs.old B (.inl (.inr rfl))) ?_]
            · exact hw
            · rintro ⟨p, h1, q, h2, h3, h4⟩
              obtain ⟨q', g1, g2, _⟩ := hI.r.hs.obj p h1
              rw [h2] at g1
              cases g1
              exact (g2 h3).2 (.inl (.inr h4))
          · rw [put_ne ?_]
            · exact ht
            · obtain ⟨x, hx, hxi⟩ := hd.full i hilt
              have hxo : x.o = o' := by
                have := hd.get x hx
                rw [hxi, ho'] at this
                exact (Option.some.inj this).symm
              rcases List.mem_append.1 hx with hx | hx
              · rcases hap x hx (by rw [hxi]; exact hia) with hb | hb
                · have := down hd hdn ia oa ho (hdn ia oa h ho) x.i hb
                  rw [hxi, hun'] at this
                  cases this
                · rw [← hxo]; exact hb
              · rw [List.mem_singleton] at hx
                subst hx
                exact absurd hxi.symm hie
end
section
variable {P : Program} {G : Nat → Option (List D)} {ro : Option Nat} {ops : Array Oper} {ul louds : List Nat}
def isBox (o : Oper) : Bool := match o.op with | .alloc _ => o.guard.isNone && o.dst.isSome | _ => false
theorem isBox_spec {o : Oper} (h : isBox o = true) : ∃ t ta, o.op = .alloc t ∧ o.guard = none ∧ o.dst = some ta := by
  unfold isBox at h
  split at h
  · rename_i t ho
    rw [Bool.and_eq_true] at h
    obtain ⟨ta, h2⟩ := Option.isSome_iff_exists.1 h.2
    exact ⟨t, ta, ho, Option.isNone_iff_eq_none.1 h.1, h2⟩
  · cases h
def dChkA (m : List Nat) (ops : Array Oper) (ul louds is1 : List Nat) (ia ix : Nat) : Bool := match ops.toList[ia]?, ops.toList[ix]? with
  | some oa, some ox => isBox oa && ia != ix && louds.contains ia && louds.contains ix && ((mkL louds ops.toList is1).length + 2 == ops.size) &&
    pairB (dPair m ops ul) (mkL louds ops.toList is1 ++ [(ia, oa, false), (ix, ox, false)]) && (mkL louds ops.toList is1).all (fun x => x.2.2 || quietKind x.2.1) &&
    (List.range ops.size).all (fun i => (mkL louds ops.toList is1 ++ [(ia, oa, false), (ix, ox, false)]).any (·.1 == i)) &&
    ((List.range ops.size).all fun q => match ops[q]? with | some o => m.getD q 0 == orE m o.after.toList && o.after.toList.all (fun e => !Region.binds .any e || e.on < q) | none => true) &&
    (mkL louds ops.toList is1 ++ [(ia, oa, false)]).all (fun x => Bf m x.1 ix) && (mkL louds ops.toList is1).all (fun x => x.1 != ia && x.2.1.dst != oa.dst)
  | _, _ => false
theorem two_of {α : Type} : ∀ {l : List α}, l.length = 2 → ∃ x y, l = [x, y]
  | [x, y], _ => ⟨x, y, rfl⟩
  | [], h => by cases h
  | [_], h => by simp at h
  | _ :: _ :: _ :: l, h => by simp at h
theorem Tr.drawA {id : Nat} {is1 : List Nat} {ia ix : Nat} {st : St} {Q : Exit → St → Prop} (hmix : P.follows .mixedOrders = true) (hc : dChkA (Region.before ops).toList ops ul louds is1 ia ix = true)
    (h : exY P G ops ul louds is1 st [] fun s1 => exY P G ops ul louds [ia, ix] s1 [] (Q .normal)) : Tr P G ro (.region id ops true) st Q := by
  unfold dChkA at hc
  split at hc
  · rename_i oa ox hoa hox
    simp only [Bool.and_eq_true] at hc
    obtain ⟨⟨⟨⟨⟨⟨⟨⟨⟨⟨k1, k2⟩, k3⟩, k4⟩, k5⟩, k6⟩, k7⟩, k8⟩, k9⟩, k10⟩, k11⟩ := hc
    have k2 : ia ≠ ix := by simpa using k2
    obtain ⟨t, ta, hop, hg, hdst⟩ := isBox_spec k1
    intro O M pb pl a w hR
    obtain ⟨ev1, s1, a1, a2, a3, a4, a5, a6⟩ := xG _ st [] h
    have hL2 : mkL louds ops.toList [ia, ix] = [(ia, oa, true), (ix, ox, true)] := by simp only [mkL, hoa, hox, k3, k4]
    have a6' : exD P G ops ul [(ia, oa, true), (ix, ox, true)] s1 [] (Q .normal) := by rw [← hL2]; exact a6
    obtain ⟨ev2, stf, b1, b2, b3, _, _, b6⟩ := xG _ s1 [] a6'
    have hl2 : ev2.length = 2 := by
      have hl := congrArg List.length b2
      rw [List.length_map] at hl
      exact hl
    obtain ⟨xa, xs, rfl⟩ := two_of hl2
    · simp only [List.map_cons, List.map_nil, List.cons.injEq, Prod.mk.injEq, and_true] at b2
      obtain ⟨⟨p1, p2, p3⟩, p4, p5, p6⟩ := b2
      obtain ⟨c1, _, c2, _, c3⟩ := b1
      have c3 : stf = nextSt xs := c3
      have hxa := b3 xa List.mem_cons_self
      have hxs := b3 xs (List.mem_cons_of_mem _ List.mem_cons_self)
      rw [p2, p3, c1] at hxa
      rw [p5, p6, c2] at hxs
      obtain ⟨q1, q2⟩ := hxa
      rw [hg] at q2
      have q3 : zM P t s1.hp s1.nx (Det xa.r xa.hp xa.nx) := by
        have q2 : exq P G oa (ev G s1.tm) s1.hp s1.nx (Det xa.r xa.hp xa.nx) := q2
        unfold exq at q2
        rw [hop] at q2
        exact q2
      unfold zM at q3
      split at q3
      · rename_i cs hcs
        obtain ⟨hne, e1, e2, e3⟩ := q3
        rw [hdst] at q1
        obtain ⟨s', z1, z2, z3, z4, z5, z6⟩ := RunL.split (pre := ev1) (post := []) (by simpa using a1)
        have z1 : s1 = s' := z1
        subst z1
        have hta : ta < st.nt := by rw [← z4]; exact q1
        obtain ⟨ea, hea⟩ : ∃ ea : Ev, ea = ⟨ia, oa, false, s1, .unk, s1.hp, s1.nx⟩ := ⟨_, rfl⟩
        obtain ⟨es, hes⟩ : ∃ es : Ev, es = ⟨ix, ox, false, nextSt ea, .unk, s1.hp, s1.nx⟩ := ⟨_, rfl⟩
        have hL : ((ev1 ++ [ea]) ++ [es]).map (fun e => (e.i, e.o, e.ld)) = mkL louds ops.toList is1 ++ [(ia, oa, false), (ix, ox, false)] := by
          rw [List.map_append, List.map_append, a2, hea, hes]; simp
        have hgL : ∀ x ∈ mkL louds ops.toList is1 ++ [(ia, oa, false), (ix, ox, false)], ops[x.1]? = some x.2.1 := fun x hx => by
          rcases List.mem_append.1 hx with hx | hx
          · simpa using mkL_get hx
          · rcases List.mem_cons.1 hx with rfl | hx
            · simpa using hoa
            · rw [List.mem_singleton] at hx
              subst hx
              simpa using hox
        obtain ⟨d1, d3, d4⟩ := DOk_of2 (ul := ul) k6 k8 k9 hgL hL
        have mem1 : ∀ e ∈ ev1, (e.i, e.o, e.ld) ∈ mkL louds ops.toList is1 := fun e he => by rw [← a2]; exact List.mem_map_of_mem (f := fun e : Ev => (e.i, e.o, e.ld)) he
        have hrun : RunL st (ev1 ++ [ea]) (nextSt ea) := RunL_append a1 (by rw [hea]; exact ⟨rfl, fun _ => ⟨rfl, rfl⟩, rfl⟩)
        have hnx : nextSt ea = ⟨(ta, .unk) :: s1.tm, s1.hp, s1.nx, s1.nt, s1.df, s1.nb⟩ := by rw [hea]; simp only [nextSt, hdst, putT]
        have h5 : ((ev1 ++ [ea]) ++ [es]).Pairwise (fun x y => y.ld = true → isRd x.o = true → Bf (Region.before ops).toList x.i y.i = true ∨ (ul.contains x.i = true → ∀ id, rdEv G x.o x.st = some id → y.hp.lookup id = y.st.hp.lookup id)) := by
          refine List.pairwise_append.2 ⟨List.pairwise_append.2 ⟨a5.imp fun h hl _ => .inr (h hl), List.pairwise_singleton _ _, fun x _ y hy hl => ?_⟩, List.pairwise_singleton _ _, fun x _ y hy hl => ?_⟩
          · rw [List.mem_singleton] at hy
            rw [hy, hea] at hl; cases hl
          · rw [List.mem_singleton] at hy
            rw [hy, hes] at hl; cases hl
        refine wpIn_region_any hmix ?_
        have hst : Step (ownOf pl st.hp) (ownOf pl st.hp) w { w with drawn := w.drawn + 1 } := ⟨Nat.le_refl _, fun _ _ _ => rfl, rfl, rfl, fun _ h => .inl h⟩
        have hadd : Add w { w with drawn := w.drawn + 1 } := ⟨Nat.le_refl _, fun _ _ => rfl, rfl, rfl⟩
        have h0 : ∀ i, (Array.replicate ops.size false).getD i false = false := fun i => by
          by_cases hlt : i < ops.size <;> simp [hlt]
        have hsto : EvAt P G ops true es.o ⟨(ta, .ptr s1.nx 0 0) :: s1.tm, (s1.nx, .arr cs.length [cs]) :: s1.hp, s1.nx + 1, s1.nt, s1.df, s1.nb⟩ xs.r xs.hp xs.nx := by
          have e : nextSt xa = ⟨(ta, .ptr s1.nx 0 0) :: s1.tm, (s1.nx, .arr cs.length [cs]) :: s1.hp, s1.nx + 1, s1.nt, s1.df, s1.nb⟩ := by
            simp only [nextSt, p2, hdst, c1, ← e1, ← e2, ← e3, putT]
          rw [← e, hes]; exact hxs
        refine box_sim (O := O) (M := M) (pb := pb) (G := G) (tmA := (ta, .ptr s1.nx 0 0) :: s1.tm) (own0 := ownOf pl st.hp) (w0 := w) (ev1 := ev1 ++ [ea]) (es := es) (ia := ia) (t := t) (r := xs.r) (hp' := xs.hp) (nx' := xs.nx) d1 hrun
          (by rw [hes, hea]; exact ⟨rfl, rfl, rfl, rfl⟩) (fun e he hne' => ?_) (fun e he hei => ?_) (by simpa using hoa) hg hop hdst hta hcs hne (by rw [hes]; exact fun h => k2 h.symm) (fun e he => ?_) (fun e he hne' => ?_) ?_ ?_ (fun u => ?_) ?_ (fun pl' a' w' hR' hs' => ?_)
          ops.size (Array.replicate ops.size false) a _ ?_ (h0 _) (.inl ⟨h0 _, pl, st, ?_⟩)
        · rcases List.mem_append.1 he with he | he
          · refine ⟨a3 e he, fun hl => ?_⟩
            have := List.all_eq_true.1 k7 _ (mem1 e he)
            simpa [hl] using this
          · rw [List.mem_singleton] at he
            rw [he, hea] at hne'
            exact absurd rfl hne'
        · rcases List.mem_append.1 he with he | he
          · rcases List.mem_append.1 he with he | he
            · have := List.all_eq_true.1 k11 _ (mem1 e he)
              simp only [Bool.and_eq_true, bne_iff_ne, ne_eq] at this
              exact absurd hei this.1
            · rw [List.mem_singleton] at he
              rw [he, hea]; exact ⟨rfl, rfl⟩
          · rw [List.mem_singleton] at he
            rw [he, hes] at hei
            exact absurd hei.symm k2
        · rw [hes]
          refine List.all_eq_true.1 k10 (e.i, e.o, e.ld) ?_
          rcases List.mem_append.1 he with he | he
          · exact List.mem_append_left _ (mem1 e he)
          · rw [List.mem_singleton] at he
            rw [he, hea]
            exact List.mem_append_right _ List.mem_cons_self
        · rcases List.mem_append.1 he with he | he
          · have := List.all_eq_true.1 k11 _ (mem1 e he)
            simp only [Bool.and_eq_true, bne_iff_ne, ne_eq] at this
            refine .inr ?_
            rw [← hdst]; exact this.2
          · rw [List.mem_singleton] at he
            rw [he, hea] at hne'
            exact absurd rfl hne'
        · refine (d4.and h5).imp fun {x y} ⟨h1, h2⟩ hl => ?_
          by_cases hr : isRd x.o = true
          · rcases h1 hl hr with h | h
            · exact .inl h
            · rcases h2 hl hr with h' | h'
              · exact .inl h'
              · exact .inr fun id hid => h' h id hid
          · exact .inr fun id hid => absurd (rdEv_isRd (by rw [hid]; rfl)) hr
        · exact d3.imp fun h hl hr => h hl (rdEv_isRd hr)
        · rw [hnx]
          simp only [List.lookup_cons]
          split <;> rfl
        · rw [hnx]; exact hsto
        · rw [hnx, hes] at hR'
          have e : stf = ⟨putT ox.dst xs.r ((ta, .ptr s1.nx 0 0) :: s1.tm), xs.hp, xs.nx, s1.nt, s1.df, s1.nb⟩ := by
            rw [c3]
            simp only [nextSt, p5, c2, p2, hdst, c1, ← e1, putT]
          have hR' : R G O M pb pl' stf a' w' := by rw [e]; exact hR'
          refine ⟨pl', stf, b6, hR', ?_⟩
          rw [e]; exact hs'
        · have : ∀ e : Ev, (!(Array.replicate ops.size false).getD e.i false) = true := fun e => by rw [h0]; rfl
          rw [List.filter_eq_self.2 fun e _ => this e]
          have k5 : (mkL louds ops.toList is1).length + 2 = ops.size := by simpa using k5
          rw [← k5, ← a2]; simp
        · refine ⟨by simp, fun i o hi => ?_, ⟨hR.hs.add hadd, hR.tm.ext hadd.ext (fun _ _ h => h), hR.nt, hR.dfStep hst, hR.bd⟩, hst, fun t => ?_, ?_, rfl, rfl, rfl⟩
          · rw [h0] at hi; cases hi
          · rw [foldT_none _ _ fun e _ _ => h0 e.i]
          · rw [foldH_none _ _ fun e _ _ => h0 e.i]
      · exact q3.elim
  · cases hc
theorem Tr.regDA {id : Nat} {y : Code} {st : St} {Q : Exit → St → Prop} (is1 : List Nat) (ia ix : Nat) (louds ul ks : List Nat) {st' : St} (hmix : P.follows .mixedOrders = true)
    (hc : dChkA (Region.before ops).toList ops ul louds is1 ia ix = true)
    (h : exY P G ops ul louds is1 st [] fun s1 => exY P G ops ul louds [ia, ix] s1 [] fun s => s.keep ks = st') (hy : Tr P G ro y st' Q) : Tr P G ro (.seq (.region id ops true) y) st Q := by
  refine Tr.seq ((Tr.drawA (Q := fun x s => match x with | .normal => s.keep ks = st' | _ => False) hmix hc h).mono ?_)
  intro x s hx
  cases x with
  | normal => exact Tr.imp (hx ▸ Imp.keep ks) hy
  | _ => exact hx.elim
end
end Go.Sy
namespace Go.Proofs.Ytijechcadlklhaa
open Go.Sy
set_option maxRecDepth 8000
theorem src_uL (l : List (List Int)) : ((dL l).map fun e => e.map SV.d) = uL l := by simp [dL, uL]
theorem uL_all (l : List (List Int)) : (∀ e ∈ uL l, e.length = 1 ∧ e.all SV.one = true) = True := by simp [uL, SV.one]
theorem uL_app (a b : List (List Int)) : uL (a ++ b) = uL a ++ uL b := by simp [uL]
theorem tmod_nat' (a b : Nat) : ((a : Nat) : Int).tmod (b : Int) = ((a % b : Nat) : Int) := by
  rw [Int.tmod_eq_emod_of_nonneg (Int.natCast_nonneg _)]; rfl
theorem bvi {a : Nat} (h : a < 18446744073709551616) : (BitVec.ofInt IntKind.i64.bits (a : Int)).toNat = a := by
  show (BitVec.ofInt 64 (a : Int)).toNat = a
  rw [BitVec.ofInt_natCast, BitVec.toNat_ofNat]
  exact Nat.mod_eq_of_lt h
theorem or_i {a b : Nat} (ha : a < 4611686018427387904) (hb : b < 4611686018427387904) :
    IntKind.i64.wrap ((BitVec.ofInt IntKind.i64.bits (a : Int) ||| BitVec.ofInt IntKind.i64.bits (b : Int)).toNat : Int) = ((a ||| b : Nat) : Int) := by
  rw [BitVec.toNat_or, bvi (by omega), bvi (by omega)]
  have := Nat.or_lt_two_pow (n := 62) ha hb
  exact wr (by omega) (by omega)
theorem bitsFTo_lt {f : HC → Nat} {l : List HC} {b : Nat} (h : ∀ c ∈ l, f c < b) : ∀ k, k ≤ l.length → bitsFTo f l k < 2 ^ b
  | 0, _ => Nat.two_pow_pos b
  | k + 1, hk => by
    rw [bitsFTo]
    exact Nat.or_lt_two_pow (bitsFTo_lt h k (by omega)) (Nat.pow_lt_pow_right (by decide) (h _ (getD_mem' default (by omega))))
theorem ok_small {t : HT} {n m : Nat} (h : t.Ok n m) : small8 t.rows := by
  have h3 := h.n3
  have h4 := h.m4
  have hd := h.dim
  refine ⟨by rw [hd.1]; omega, fun x hx => ?_⟩
  obtain ⟨i, hi, rfl⟩ := List.getElem_of_mem hx
  have := hd.2 i (by rw [← hd.1]; exact hi)
  simp only [List.getD_eq_getElem?_getD, List.getElem?_eq_getElem hi, Option.getD_some] at this
  omega
theorem setR_len {n m : Nat} (hn : n ≤ 3) (hm : m ≤ 4) (b : Nat) : (setR n m b).length ≤ 12 := sel_len (p := fun c => b.testBit (c.row.toNat * m + c.col.toNat)) (k := 0) hn hm
theorem vI_tn {r : Nat → Nat} {hp hp' : HpT} (l : List Int) : F2 (F2 (TnS r hp hp')) (vI l) (vI l) := F2.map fun n _ => .cons (TnS.d _) .nil
def trTo (n : Nat) (y : Rows8) (c : Nat) : Rows8 := (List.range c).map fun c => (List.range n).map fun r => cellAt y r c
def colTo (y : Rows8) (c r : Nat) : List Int := (List.range r).map fun i => cellAt y i c
theorem colTo_snoc (y : Rows8) (c r : Nat) : vI (colTo y c (r + 1)) = vI (colTo y c r) ++ [[I (cellAt y r c)]] := by
  unfold colTo vI
  rw [List.range_succ, List.map_append, List.map_append]; rfl
theorem trTo_snoc (n : Nat) (y : Rows8) (c : Nat) : uL (trTo n y (c + 1)) = uL (trTo n y c) ++ [[SI (colTo y c n)]] := by
  unfold trTo uL
  rw [List.range_succ, List.map_append, List.map_append]; rfl
theorem colTo_len (y : Rows8) (c r : Nat) : (colTo y c r).length = r := by simp [colTo]
theorem trTo_len (n : Nat) (y : Rows8) (c : Nat) : (trTo n y c).length = c := by simp [trTo]
abbrev tysH33_5 := And.intro ty.sz0 <| And.intro ty.agg0 <| And.intro ty.elem0 <| And.intro ty.sz3 <| And.intro ty.agg3 <| And.intro ty.elem3 <| And.intro ty.zero3 <| And.intro ty.und3 <| And.intro ty.sz4 <| And.intro ty.agg4 <| And.intro ty.elem4 <| And.intro ty.zero4 <| And.intro ty.und4 <| And.intro ty.sz5 <| And.intro ty.agg5 <| And.intro ty.elem5 <| And.intro ty.zero5 <| And.intro ty.und5 <| And.intro ty.sz22 <| And.intro ty.agg22 <| And.intro ty.elem22 <| And.intro ty.by22 <| And.intro ty.ez22 <| And.intro ty.zero22 <| And.intro ty.und22 <| And.intro ty.sz24 <| And.intro ty.agg24 <| And.intro ty.fld24_0 <| And.intro ty.fld24_1 <| And.intro ty.elem24 <| And.intro ty.zero24 <| And.intro ty.pl24 <| And.intro ty.sz25 <| And.intro ty.agg25 <| And.intro ty.elem25 <| And.intro ty.by25 <| And.intro ty.ez25 <| And.intro ty.zero25 <| And.intro ty.und25 <| And.intro ty.sz28 <| And.intro ty.agg28 <| And.intro ty.elem28 <| And.intro ty.by28 <| And.intro ty.ez28 <| And.intro ty.zero28 <| And.intro ty.und28 <| And.intro ty.sz29 <| And.intro ty.agg29 <| And.intro ty.elem29 <| And.intro ty.zero29 <| And.intro ty.und29 <| And.intro ty.sz30 <| And.intro ty.agg30 <| And.intro ty.elem30 <| And.intro ty.sz32 <| And.intro ty.agg32 <| And.intro ty.fld32_0 <| And.intro ty.fld32_1 <| And.intro ty.elem32 <| And.intro ty.zero32 <| And.intro ty.pl32 <| And.intro ty.sz34 <| And.intro ty.agg34 <| And.intro ty.elem34 <| And.intro ty.by34 <| And.intro ty.ez34 <| And.intro ty.zero34 <| And.intro ty.und34 <| And.intro ty.sz37 <| And.intro ty.agg37 <| And.intro ty.elem37 <| And.intro ty.by37 <| And.intro ty.ez37 <| And.intro ty.zero37 <| And.intro ty.und37 <| And.intro ty.sz38 <| And.intro ty.agg38 <| And.intro ty.elem38 <| And.intro ty.by38 <| And.intro ty.ez38 <| And.intro ty.zero38 <| And.intro ty.und38 <| And.intro ty.sz43 <| And.intro ty.agg43 <| And.intro ty.fld43_0 <| And.intro ty.fld43_1 <| And.intro ty.elem43 <| And.intro ty.zero43 <| And.intro ty.pl43 <| And.intro ty.sz44 <| And.intro ty.agg44 <| And.intro ty.fld44_0 <| And.intro ty.fld44_1 <| And.intro ty.elem44 <| And.intro ty.zero44 <| And.intro ty.pl44 <| And.intro ty.sz55 <| And.intro ty.agg55 <| And.intro ty.elem55 <| And.intro ty.zero55 <| ty.und55
set_option maxHeartbeats 4000000 in
theorem HideTurned_c (t : HT) (l : List HC) (by' : Nat) (hby : by' < 256) : CallP Try.prog G0 5 [t.s, SC l, .d (.lit (.int .u8 (by' : Nat)))] (B true) := by
  refine CallP.body 253 [.tmp 6] Try.func5 (by kernel_rfl) rfl rfl rfl (by repeat' (first | exact Pure.d _ | exact Pure.dx _ | exact Pure.dp _ | exact fa_nil | refine fa_cons ?_ ?_ | refine Pure.agg ?_ | refine Pure.tup ?_ | refine Pure.clo ?_ ?_ | refine Pure.fp ?_ | exact Pure.mapd _ | assumption)) (by repeat' (first | exact Pure.d _ | exact Pure.dx _ | exact Pure.dp _ | exact fa_nil | refine fa_cons ?_ ?_ | refine Pure.agg ?_ | refine Pure.tup ?_ | refine Pure.clo ?_ ?_ | refine Pure.fp ?_ | exact Pure.mapd _ | assumption)) ?_
  refine Tr.reg [1, 2, 3] (by
      simp only [↓sxd, sxu, ↓zE, ↓exq, St.keep, ↓zN, Nat.reduceBEq, Nat.reduceAdd, Nat.reduceLT, Nat.reduceEqDiff]
      (repeat' (first | rfl | exact trivial | exact fun h => h | exact fun h => (by rw [h]; rfl) | apply And.intro | omega | exact Nat.le_of_ble_eq_true rfl))) ?_
  refine Tr.seq ?_
  refine Tr.reg [1, 2, 3, 31] (by
      simp only [↓sxd, sxu, ↓zE, ↓exq, St.keep, ↓zD, Nat.reduceBEq, Nat.reduceAdd, Nat.reduceLT, tysH33_5]
      (repeat ((with_reducible refine And.intro ?_ ?_); (focus (first | with_reducible rfl | trivial | exact fun h => h | exact fun h => (by rw [h]; rfl) | omega | assumption))))
      refine CallO.use (ready_c t l) ?_
      try simp only [↓sxd, sxu, ↓zE, ↓exq, ↓zJ, Nat.reduceBEq, Nat.reduceLT]
      (repeat' (first | rfl | exact trivial | exact fun h => h | exact fun h => (by rw [h]; rfl) | apply And.intro | omega | exact Nat.le_of_ble_eq_true rfl))) ?_
  refine Tr.cond rfl (fun h31 => ?_) (fun h31 => ?_)
  · refine Tr.reg [6] (by
        simp only [↓sxd, sxu, ↓zE, St.keep, Nat.reduceLT]
        (repeat ((with_reducible refine And.intro ?_ ?_); (focus (first | with_reducible rfl | trivial | exact fun h => h | exact fun h => (by rw [h]; rfl) | omega | assumption))))
        refine CallO.use (awake_c) ?_
        try simp only [↓sxd, sxu, ↓zE, ↓exq, Nat.reduceLT]
        (repeat' (first | rfl | exact trivial | exact fun h => h | exact fun h => (by rw [h]; rfl) | apply And.intro | omega | exact Nat.le_of_ble_eq_true rfl))) ?_
    refine Tr.ret ?_
    (refine ⟨.inr rfl, ?_⟩; first | rfl | exact ⟨rfl, rfl, trivial⟩ | exact ⟨rfl, rfl, rfl, trivial⟩ | (simp only [Res, ResL, ResOK, ↓sxd, sxu, ↓zE, ↓zC, zH, ↓exP, ↓exq, ↓zB, St.keep, ↓zI, ↓zW, ↓zJ, ↓zL, ↓zD, ↓zK, ↓zM, ↓zN, ↓zO, ↓zG, ↓zQ, ↓zV, ↓zA, sbnd, Nat.reduceBEq, Nat.reduceAdd, Nat.reduceLT, Nat.reduceMul, Nat.reduceSub, Nat.reduceLeDiff, Nat.reduceEqDiff, Int.reduceLE, Int.reduceLT, Int.reduceToNat, reduceIte, implies_true, sxe, tysH33_5]; (repeat' (first | rfl | exact trivial | exact fun h => h | exact fun h => (by rw [h]; rfl) | apply And.intro | omega | exact Nat.le_of_ble_eq_true rfl))))
  · obtain ⟨hs, hl, hpub⟩ := ready_ok (by simpa using h31)
    obtain ⟨hn3, hm4, hlo, hchk⟩ := pub_dims hpub
    have ho := HT.check_ok hchk
    have hn0 : 0 < t.rows.length := ho.n0
    have hnn : t.rows.length = t.n := rfl
    have hmm : (t.rows.getD 0 []).length = t.m := rfl
    have hR := Ranges_c t l hs hl
    rw [if_pos hpub, hpub] at hR
    have hRl : ((t.w l).ranges t.n t.m).length = t.n := ranges_len _ _ _
    have hRr : ∀ r, r < t.n → (((t.w l).ranges t.n t.m).getD r []).length = t.m := fun r hr => ranges_row _ hr
    have hRg : ∀ r c, r < t.n → c < t.m → (((t.w l).ranges t.n t.m).getD r []).getD c default = ⟨(t.w l).lo r c, (t.w l).hi r c⟩ := fun r c hr hc => ranges_get _ hr hc
    generalize (t.w l).ranges t.n t.m = R at hR hRl hRr hRg
    refine Tr.skip ?_
    refine Tr.regD [0, 1, 2, 3, 4, 5, 6, 7, 8, 9] [] [] [1, 2, 3, 7, 8] mix (by kernel_rfl) (by
        simp only [↓sxd, sxu, ↓zC, zH, ↓exq, ↓zB, St.keep, ↓zL, ↓zD, ↓zA, Nat.reduceBEq, Nat.reduceAdd, Nat.reduceLT, Nat.reduceEqDiff, Int.reduceLE, sxe, tysH33_5, hn0]
        (repeat' (first | rfl | exact trivial | exact fun h => h | exact fun h => (by rw [h]; rfl) | apply And.intro | omega | exact Nat.le_of_ble_eq_true rfl))) ?_
    rw [hnn, hmm]
    refine Tr.reg [1, 2, 3, 7, 8, 9, 10] (by
        simp only [↓sxd, sxu, ↓zE, ↓exq, St.keep, ↓zD, Nat.reduceBEq, Nat.reduceAdd, Nat.reduceLT, tysH33_5]
        (repeat ((with_reducible refine And.intro ?_ ?_); (focus (first | with_reducible rfl | trivial | exact fun h => h | exact fun h => (by rw [h]; rfl) | omega | assumption))))
        refine CallO.use (Table_c t hs) ?_
        try simp only [↓sxd, sxu, ↓zE, ↓exq, Nat.reduceBEq, Nat.reduceLT]
        (repeat ((with_reducible refine And.intro ?_ ?_); (focus (first | with_reducible rfl | trivial | exact fun h => h | exact fun h => (by rw [h]; rfl) | omega | assumption))))
        refine CallO.use (Cells_c l hl) ?_
        try simp only [↓sxd, sxu, ↓zE, Nat.reduceBEq, Nat.reduceLT]
        (repeat ((with_reducible refine And.intro ?_ ?_); (focus (first | with_reducible rfl | trivial | exact fun h => h | exact fun h => (by rw [h]; rfl) | omega | assumption))))
        refine CallO.use (hR) ?_
        try simp only [↓sxd, sxu, ↓zE, ↓exq, ↓zK, Nat.reduceBEq, Nat.reduceAdd, Nat.reduceLT]
        (repeat' (first | rfl | exact trivial | exact fun h => h | exact fun h => (by rw [h]; rfl) | apply And.intro | omega | exact Nat.le_of_ble_eq_true rfl))) ?_
    refine Tr.seq ?_
    refine Tr.reg [1, 2, 3, 7, 8, 9, 56] (by
        simp only [↓sxd, sxu, ↓zE, ↓exq, St.keep, Nat.reduceBEq, Nat.reduceLT]
        iterate 4
          (repeat ((with_reducible refine And.intro ?_ ?_); (focus (first | with_reducible rfl | trivial | exact fun h => h | exact fun h => (by rw [h]; rfl) | omega | assumption))))
          refine GdO.mk _ (fun hg => by simp only [↓sxd, sxu, ↓exq, ↓zB, ↓zL, Nat.reduceBEq, sxe, tysH33_5, hg]; (repeat' (first | rfl | exact trivial | exact fun h => h | exact fun h => (by rw [h]; rfl) | apply And.intro | omega | exact Nat.le_of_ble_eq_true rfl))) ?_
          simp only [↓sxd, sxu, ↓zE, ↓exq, ↓zI, Nat.reduceBEq, Nat.reduceLT]
        (repeat' (first | rfl | exact trivial | exact fun h => h | exact fun h => (by rw [h]; rfl) | apply And.intro | omega | exact Nat.le_of_ble_eq_true rfl))) ?_
    refine Tr.cond rfl (fun h56 => ?_) (fun h56 => ?_)
    · rw [hRl] at h56; simp at h56
    · refine Tr.skip ?_
      have u1 : IntKind.i64.wrap (by' : Int) = by' := wr (by omega) (by omega)
      have mk := tmod_nat' by' t.n
      obtain ⟨k, hk⟩ : ∃ k, k = by' % t.n := ⟨_, rfl⟩
      rw [← hk] at mk
      have hkn : k < t.n := by rw [hk]; exact Nat.mod_lt _ hn0
      have hq0 : ((t.n : Int) = 0) = False := eq_false (by omega)
      refine Tr.reg [1, 3, 7, 8, 9, 11] (by
          simp only [↓sxd, sxu, ↓zE, ↓exq, St.keep, ↓zW, Nat.reduceBEq, Nat.reduceLT, tysH33_5, u1, mk, hq0]
          (repeat' (first | rfl | exact trivial | exact fun h => h | exact fun h => (by rw [h]; rfl) | apply And.intro | omega | exact Nat.le_of_ble_eq_true rfl))) ?_
      have hbits : ∀ i, i ≤ l.length → bitsFTo (fun x => (rotC t.n k x).row.toNat * t.m + (rotC t.n k x).col.toNat) l i < 2 ^ 12 := fun i hi => bitsFTo_lt (fun c hc => by
        have hb := hlo.cell c hc
        have hmo := Nat.mod_lt (c.row.toNat + t.n - k) (show 0 < t.n from hn0)
        have : (c.row.toNat + t.n - k) % t.n * t.m ≤ 8 := Nat.le_trans (Nat.mul_le_mul (show (c.row.toNat + t.n - k) % t.n ≤ 2 by omega) hm4) (by decide)
        simp only [rotC, Int.toNat_natCast]
        omega) i hi
      refine Tr.regDA [1, 2, 6, 7, 11, 12, 0, 3, 4, 5, 8, 9, 10, 13] 14 15 [5, 10, 14, 15] [2, 7, 12] [1, 3, 7, 8, 9, 11, 12] mix (by kernel_rfl) (by
          simp only [↓sxd, sxu, ↓zC, zH, ↓exq, ↓zB, St.keep, ↓zD, ↓zM, ↓zO, ↓zG, ↓zQ, ↓zV, ↓zA, sbnd, Nat.reduceBEq, Nat.reduceAdd, Nat.reduceLT, Nat.reduceLeDiff, Nat.reduceEqDiff, Int.reduceLE, sxe, tysH33_5, List.take_length, src_uL, uL_all, uL_len, List.length_take, List.length_drop]
          (repeat' (first | rfl | exact trivial | exact fun h => h | exact fun h => (by rw [h]; rfl) | apply And.intro | omega | exact Nat.le_of_ble_eq_true rfl))) ?_
      refine Tr.reg [1, 3, 7, 8, 9, 11, 12, 13] (by
          simp only [↓sxd, sxu, ↓zE, ↓exq, St.keep, Nat.reduceBEq, Nat.reduceLT]
          (repeat' (first | rfl | exact trivial | exact fun h => h | exact fun h => (by rw [h]; rfl) | apply And.intro | omega | exact Nat.le_of_ble_eq_true rfl))) ?_
      refine Tr.seq ?_
      refine Tr.reg [1, 3, 7, 8, 9, 11, 12, 13, 14] (by
          simp only [↓sxd, sxu, ↓zE, ↓exq, St.keep, Nat.reduceBEq, Nat.reduceLT]
          (repeat' (first | rfl | exact trivial | exact fun h => h | exact fun h => (by rw [h]; rfl) | apply And.intro | omega | exact Nat.le_of_ble_eq_true rfl))) ?_
      refine Tr.imp (st' := ⟨[(1, SC l), (3, .ptr 0 0 0), (7, I t.n), (8, I t.m), (9, SRL R), (11, I k), (12, .ptr 1 0 0), (13, I (bitsFTo (fun x => (rotC t.n k x).row.toNat * t.m + (rotC t.n k x).col.toNat) l 0 : Nat)), (14, I 0)], [(1, tbx (rotT t k)), (0, tbx t)], 2, 253, [], 0⟩) (Imp.go (fun i => if i = 0 then 0 else i + 2) [(3, _), (0, _)] rfl rfl (.cons_cons _ (.cons _ (.cons_cons _ .slnil))) (fun _ h => absurd h (Nat.not_lt_zero _)) (fun id h => by have h2 : 2 ≤ id := h; show 4 ≤ if id = 0 then 0 else id + 2; rw [if_neg (by omega)]; omega) (by repeat' (first | exact TmT.cons rfl (TnS.d _) ?_ | exact trivial | exact F2.nil | refine F2.append ?_ ?_ | refine F2.map fun _ _ => ?_ | refine F2.cons ?_ ?_ | refine TmT.cons rfl ?_ ?_ | exact TnS.d _ | exact TnS.dx _ | exact TnS.dp _ | exact TnS.slc rfl | exact TnS.ptr rfl | refine TnS.frzf rfl (by simp) (by simp) (by simp) ?_ | refine TnS.frz0 rfl (by simp) (by simp) (by simp) ?_ | refine TnS.frzm rfl (by simp) ?_ | exact TnS.mapr rfl | exact TnS.yld rfl | refine ⟨rfl, ?_⟩ | refine TnO.arr ?_ | refine TnO.map ?_ | exact TnO.raw _ | exact TnO.iter _ _ | refine TnS.agg ?_ | refine TnS.tup ?_ | exact TnS.pure (Pure.clo (by assumption) (by assumption)) | refine TnS.clo ?_ ?_ | exact TnS.unk _ | exact TnS.pure (Pure.clo (by assumption) (by assumption)))) (.cons ⟨rfl, TnO.arr (.cons (.cons (TnS.frz0 (sz := 1) (es := uL (rot k t.rows)) (by rw [rot, uL_app]; rfl) (by simp) (by decide) (by rw [uL_len, rot, List.length_append, List.length_drop, List.length_take]) (uL_fz _)) (.cons (TnS.d _) .nil)) .nil)⟩ (.cons ⟨rfl, TnO.arr (by repeat' (first | exact TmT.cons rfl (TnS.d _) ?_ | exact trivial | exact F2.nil | refine F2.append ?_ ?_ | refine F2.map fun _ _ => ?_ | refine F2.cons ?_ ?_ | refine TmT.cons rfl ?_ ?_ | exact TnS.d _ | exact TnS.dx _ | exact TnS.dp _ | exact TnS.slc rfl | exact TnS.ptr rfl | refine TnS.frzf rfl (by simp) (by simp) (by simp) ?_ | refine TnS.frz0 rfl (by simp) (by simp) (by simp) ?_ | refine TnS.frzm rfl (by simp) ?_ | exact TnS.mapr rfl | exact TnS.yld rfl | refine ⟨rfl, ?_⟩ | refine TnO.arr ?_ | refine TnO.map ?_ | exact TnO.raw _ | exact TnO.iter _ _ | refine TnS.agg ?_ | refine TnS.tup ?_ | exact TnS.pure (Pure.clo (by assumption) (by assumption)) | refine TnS.clo ?_ ?_ | exact TnS.unk _ | exact TnS.pure (Pure.clo (by assumption) (by assumption))))⟩ .nil)) (fun h => h)) (Tr.block (Tr.loopI (fun mm ss => ∃ (i : Nat), (i ≤ l.length) ∧ l.length - i = mm ∧ ss = ⟨[(1, SC l), (3, .ptr 0 0 0), (7, I t.n), (8, I t.m), (9, SRL R), (11, I k), (12, .ptr 1 0 0), (13, I (bitsFTo (fun x => (rotC t.n k x).row.toNat * t.m + (rotC t.n k x).col.toNat) l i : Nat)), (14, I i)], [(1, tbx (rotT t k)), (0, tbx t)], 2, 253, [], 0⟩) _ ⟨0, ?_, rfl, rfl⟩ ?_))
      · exact Nat.zero_le _
      rintro mm ss ⟨i, hI, rfl, rfl⟩
      refine Tr.seq ?_
      refine Tr.reg [1, 3, 7, 8, 9, 11, 12, 13, 14, 78] (by
          simp only [↓sxd, sxu, ↓zE, ↓exq, ↓zB, St.keep, ↓zL, Nat.reduceBEq, Nat.reduceLT, sxe, tysH33_5]
          (repeat' (first | rfl | exact trivial | exact fun h => h | exact fun h => (by rw [h]; rfl) | apply And.intro | omega | exact Nat.le_of_ble_eq_true rfl))) ?_
      refine Tr.cond rfl (fun h78 => ?_) (fun h78 => ?_)
      · have hlt : i < l.length := by simpa using h78
        refine Tr.skip ?_
        refine Tr.seq ?_
        refine Tr.block ?_
        have hq := hlo.cell _ (getD_mem' default hlt)
        obtain ⟨a, ha⟩ := Int.eq_ofNat_of_zero_le hq.1
        obtain ⟨b, hb⟩ := Int.eq_ofNat_of_zero_le hq.2.2.1
        have han : a < t.n := by omega
        have hbm : b < t.m := by omega
        have e1 : IntKind.i64.wrap ((a : Int) + (t.n : Int)) = ((a + t.n : Nat) : Int) := by rw [wr (by omega) (by omega)]; rfl
        have e2 : IntKind.i64.wrap (((a + t.n : Nat) : Int) - (k : Int)) = ((a + t.n - k : Nat) : Int) := by rw [wr (by omega) (by omega)]; omega
        have e3 := tmod_nat' (a + t.n - k) t.n
        obtain ⟨j, hj⟩ : ∃ j, j = (a + t.n - k) % t.n := ⟨_, rfl⟩
        have hjn : j < t.n := by rw [hj]; exact Nat.mod_lt _ hn0
        rw [← hj] at e3
        have hjm : j * t.m ≤ 8 := Nat.le_trans (Nat.mul_le_mul (show j ≤ 2 by omega) hm4) (by decide)
        have e4 : IntKind.i64.wrap ((j : Int) * (t.m : Int)) = ((j * t.m : Nat) : Int) := by rw [← Int.natCast_mul]; exact wr (by omega) (by omega)
        have e5 : IntKind.i64.wrap (((j * t.m : Nat) : Int) + (b : Int)) = ((j * t.m + b : Nat) : Int) := by rw [wr (by omega) (by omega)]; rfl
        have e6 : IntKind.u64.wrap ((j * t.m + b : Nat) : Int) = ((j * t.m + b : Nat) : Int) := wu (by omega) (by omega)
        have e7 := shl_i (show j * t.m + b < 62 by omega)
        have hp12 : 2 ^ (j * t.m + b) < 2 ^ 12 := Nat.pow_lt_pow_right (by decide) (by omega)
        have hbl := hbits i (by omega)
        have e8 := or_i (a := bitsFTo (fun x => (rotC t.n k x).row.toNat * t.m + (rotC t.n k x).col.toNat) l i) (b := 2 ^ (j * t.m + b)) (by omega) (by omega)
        have e9 : bitsFTo (fun x => (rotC t.n k x).row.toNat * t.m + (rotC t.n k x).col.toNat) l (i + 1) = bitsFTo (fun x => (rotC t.n k x).row.toNat * t.m + (rotC t.n k x).col.toNat) l i ||| 2 ^ (j * t.m + b) := by
          rw [bitsFTo]
          simp only [rotC, ha, hb, Int.toNat_natCast, ← hj]
        refine Tr.regD1 [0, 1, 2, 3, 4, 5, 6, 7, 8, 9, 10, 11, 12, 13, 14, 15, 16, 17, 18, 19, 20, 21, 22, 23] [] [] [1, 3, 7, 8, 9, 11, 12, 13, 14] mix (by kernel_rfl) (by
            simp only [↓sxd, sxu, ↓zC, zH, ↓exq, St.keep, ↓zW, ↓zD, ↓zA, Nat.reduceBEq, Nat.reduceAdd, Nat.reduceLT, Nat.reduceEqDiff, sxe, tysH33_5, hlt, ha, hb, e1, e2, e3, e4, e5, e6, e7, e8]
            (repeat' (first | rfl | exact trivial | exact fun h => h | exact fun h => (by rw [h]; rfl) | apply And.intro | omega | exact Nat.le_of_ble_eq_true rfl))) ?_
        have w1 := add1 (show i < 4611686018427387904 by omega)
        refine Tr.reg1 [1, 3, 7, 8, 9, 11, 12, 13, 14] (by
            simp only [↓sxd, sxu, ↓zE, ↓exq, St.keep, Nat.reduceBEq, Nat.reduceLT, w1]
            (repeat' (first | rfl | exact trivial | exact fun h => h | exact fun h => (by rw [h]; rfl) | apply And.intro | omega | exact Nat.le_of_ble_eq_true rfl))) ?_
        refine ⟨_, _, ?_, ?_, ⟨i + 1, hlt, rfl, rfl⟩⟩
        · omega
        · rw [e9]; exact Imp.keepAll
      · have hge : i = l.length := by simp at h78; omega
        refine Tr.exit ?_
        subst hge
        obtain ⟨hpx, hT⟩ := turned_rot hpub hkn
        obtain ⟨c0, c1, c2⟩ := (rotT_ok (t := t) (n := t.n) (m := t.m) ho (k := k) (by omega)).check
        have hsx := ok_small (rotT_ok (t := t) (n := t.n) (m := t.m) ho (k := k) (by omega))
        have hset := Set_c (rotT t k) (rotB t.n t.m k l) (Nat.lt_trans (hbits l.length (Nat.le_refl _)) (by decide)) c0
        rw [c1, c2] at hset
        have hSl := setR_len hn3 hm4 (rotB t.n t.m k l)
        have hRx := Ranges_c (rotT t k) (setR t.n t.m (rotB t.n t.m k l)) hsx (by omega)
        rw [if_pos hpx, hpx, c1, c2] at hRx
        have hXl : (((rotT t k).w (setR t.n t.m (rotB t.n t.m k l))).ranges t.n t.m).length = t.n := ranges_len _ _ _
        have hXr : ∀ r, r < t.n → ((((rotT t k).w (setR t.n t.m (rotB t.n t.m k l))).ranges t.n t.m).getD r []).length = t.m := fun r hr => ranges_row _ hr
        have hXg : ∀ r c, r < t.n → c < t.m → ((((rotT t k).w (setR t.n t.m (rotB t.n t.m k l))).ranges t.n t.m).getD ((r + t.n - k) % t.n) []).getD c default = ⟨(t.w l).lo r c, (t.w l).hi r c⟩ := fun r c hr hc => by
          rw [ranges_get _ (Nat.mod_lt _ (show 0 < t.n from hn0)) hc, (hT r c hr).1, (hT r c hr).2]
        change CallP Try.prog G0 _ [_, I (bitsFTo (fun x => (rotC t.n k x).row.toNat * t.m + (rotC t.n k x).col.toNat) l l.length : Nat)] _ at hset
        generalize ((rotT t k).w (setR t.n t.m (rotB t.n t.m k l))).ranges t.n t.m = X at hRx hXl hXr hXg
        refine Tr.regD [0, 1, 2, 3, 4, 5, 6, 7, 8, 9, 10, 11] [] [] [1, 3, 7, 8, 9, 11, 15, 16] mix (by kernel_rfl) (by
            simp only [↓sxd, sxu, ↓zC, zH, ↓exq, St.keep, ↓zD, Nat.reduceBEq, Nat.reduceAdd, Nat.reduceLT, tysH33_5]
            (repeat ((with_reducible refine And.intro ?_ ?_); (focus (first | with_reducible rfl | trivial | exact fun h => h | exact fun h => (by rw [h]; rfl) | omega | assumption))))
            refine CallD.use (Table_c (rotT t k) hsx) ?_
            try simp only [↓sxd, sxu, ↓zC, zH, ↓exq, ↓zD, Nat.reduceBEq, Nat.reduceAdd, Nat.reduceLT, tysH33_5]
            (repeat ((with_reducible refine And.intro ?_ ?_); (focus (first | with_reducible rfl | trivial | exact fun h => h | exact fun h => (by rw [h]; rfl) | omega | assumption))))
            refine CallD.use (hset) ?_
            try simp only [↓sxd, sxu, ↓zC, Nat.reduceLT]
            (repeat ((with_reducible refine And.intro ?_ ?_); (focus (first | with_reducible rfl | trivial | exact fun h => h | exact fun h => (by rw [h]; rfl) | omega | assumption))))
            refine CallD.use (Cells_c _ (by omega)) ?_
            try simp only [↓sxd, sxu, ↓zC, Nat.reduceBEq, Nat.reduceLT]
            (repeat ((with_reducible refine And.intro ?_ ?_); (focus (first | with_reducible rfl | trivial | exact fun h => h | exact fun h => (by rw [h]; rfl) | omega | assumption))))
            refine CallD.use (hRx) ?_
            try simp only [↓sxd, sxu, ↓zC, zH, ↓exq, ↓zK, Nat.reduceBEq, Nat.reduceAdd, Nat.reduceLT]
            (repeat' (first | rfl | exact trivial | exact fun h => h | exact fun h => (by rw [h]; rfl) | apply And.intro | omega | exact Nat.le_of_ble_eq_true rfl))) ?_
        refine Tr.seq ?_
        refine Tr.reg [1, 3, 7, 8, 9, 11, 15, 121] (by
            simp only [↓sxd, sxu, ↓zE, ↓exq, St.keep, Nat.reduceBEq, Nat.reduceLT]
            iterate 4
              (repeat ((with_reducible refine And.intro ?_ ?_); (focus (first | with_reducible rfl | trivial | exact fun h => h | exact fun h => (by rw [h]; rfl) | omega | assumption))))
              refine GdO.mk _ (fun hg => by simp only [↓sxd, sxu, ↓exq, ↓zB, ↓zL, Nat.reduceBEq, sxe, tysH33_5, hg]; (repeat' (first | rfl | exact trivial | exact fun h => h | exact fun h => (by rw [h]; rfl) | apply And.intro | omega | exact Nat.le_of_ble_eq_true rfl))) ?_
              simp only [↓sxd, sxu, ↓zE, ↓exq, ↓zI, Nat.reduceBEq, Nat.reduceLT]
            (repeat' (first | rfl | exact trivial | exact fun h => h | exact fun h => (by rw [h]; rfl) | apply And.intro | omega | exact Nat.le_of_ble_eq_true rfl))) ?_
        refine Tr.cond rfl (fun h121 => ?_) (fun h121 => ?_)
        · rw [hXl] at h121; simp at h121
        · refine Tr.skip ?_
          refine Tr.seq ?_
          refine Tr.reg [1, 3, 7, 8, 9, 11, 15, 17] (by
              simp only [↓sxd, sxu, ↓zE, ↓exq, St.keep, Nat.reduceBEq, Nat.reduceLT]
              (repeat' (first | rfl | exact trivial | exact fun h => h | exact fun h => (by rw [h]; rfl) | apply And.intro | omega | exact Nat.le_of_ble_eq_true rfl))) ?_
          refine Tr.imp (st' := ⟨[(1, SC l), (3, .ptr 0 0 0), (7, I t.n), (8, I t.m), (9, SRL R), (11, I k), (15, SRL X), (17, I 0)], [(1, tbx (rotT t k)), (0, tbx t)], 2, 253, [], 0⟩) (Imp.keepAll) (Tr.block (Tr.loopI (fun mm ss => ∃ (r : Nat), (r ≤ t.n) ∧ t.n - r = mm ∧ ss = ⟨[(1, SC l), (3, .ptr 0 0 0), (7, I t.n), (8, I t.m), (9, SRL R), (11, I k), (15, SRL X), (17, I r)], [(1, tbx (rotT t k)), (0, tbx t)], 2, 253, [], 0⟩) _ ⟨0, ?_, rfl, rfl⟩ ?_))
          · exact Nat.zero_le _
          rintro mm ss ⟨r, hI, rfl, rfl⟩
          refine Tr.seq ?_
          refine Tr.reg [1, 3, 7, 8, 9, 11, 15, 17, 124] (by
              simp only [↓sxd, sxu, ↓zE, ↓exq, St.keep, Nat.reduceBEq, Nat.reduceLT, sxe]
              (repeat' (first | rfl | exact trivial | exact fun h => h | exact fun h => (by rw [h]; rfl) | apply And.intro | omega | exact Nat.le_of_ble_eq_true rfl))) ?_
          refine Tr.cond rfl (fun h124 => ?_) (fun h124 => ?_)
          · have hr : r < t.n := by simpa using h124
            refine Tr.skip ?_
            refine Tr.seq ?_
            refine Tr.block ?_
            refine Tr.reg [1, 3, 7, 8, 9, 11, 15, 17, 18] (by
                simp only [↓sxd, sxu, ↓zE, ↓exq, St.keep, Nat.reduceBEq, Nat.reduceLT]
                (repeat' (first | rfl | exact trivial | exact fun h => h | exact fun h => (by rw [h]; rfl) | apply And.intro | omega | exact Nat.le_of_ble_eq_true rfl))) ?_
            refine Tr.imp (st' := ⟨[(1, SC l), (3, .ptr 0 0 0), (7, I t.n), (8, I t.m), (9, SRL R), (11, I k), (15, SRL X), (17, I r), (18, I 0)], [(1, tbx (rotT t k)), (0, tbx t)], 2, 253, [], 0⟩) (Imp.keepAll) (Tr.block (Tr.loopI (fun mm ss => ∃ (c : Nat), (c ≤ t.m) ∧ t.m - c = mm ∧ ss = ⟨[(1, SC l), (3, .ptr 0 0 0), (7, I t.n), (8, I t.m), (9, SRL R), (11, I k), (15, SRL X), (17, I r), (18, I c)], [(1, tbx (rotT t k)), (0, tbx t)], 2, 253, [], 0⟩) _ ⟨0, ?_, rfl, rfl⟩ ?_))
            · exact Nat.zero_le _
            rintro mm ss ⟨c, hI, rfl, rfl⟩
            refine Tr.seq ?_
            refine Tr.reg [1, 3, 7, 8, 9, 11, 15, 17, 18, 129] (by
                simp only [↓sxd, sxu, ↓zE, ↓exq, St.keep, Nat.reduceBEq, Nat.reduceLT, sxe]
                (repeat' (first | rfl | exact trivial | exact fun h => h | exact fun h => (by rw [h]; rfl) | apply And.intro | omega | exact Nat.le_of_ble_eq_true rfl))) ?_
            refine Tr.cond rfl (fun h129 => ?_) (fun h129 => ?_)
            · have hc : c < t.m := by simpa using h129
              have hg1 := hRg r c hr hc
              have hg2 := hXg r c hr hc
              have hl1 : c < (R.getD r []).length := by rw [hRr r hr]; exact hc
              have hl2 : r < R.length := by rw [hRl]; exact hr
              refine Tr.skip ?_
              refine Tr.seq ?_
              refine Tr.block ?_
              have e1 : IntKind.i64.wrap ((r : Int) + (t.n : Int)) = ((r + t.n : Nat) : Int) := by rw [wr (by omega) (by omega)]; rfl
              have e2 : IntKind.i64.wrap (((r + t.n : Nat) : Int) - (k : Int)) = ((r + t.n - k : Nat) : Int) := by rw [wr (by omega) (by omega)]; omega
              have e3 := tmod_nat' (r + t.n - k) t.n
              obtain ⟨j, hj⟩ : ∃ j, j = (r + t.n - k) % t.n := ⟨_, rfl⟩
              have hjn : j < t.n := by rw [hj]; exact Nat.mod_lt _ (show 0 < t.n from hn0)
              rw [← hj] at e3 hg2
              have hjX : j < X.length := by rw [hXl]; exact hjn
              have hl3 : c < (X.getD j []).length := by rw [hXr j hjn]; exact hc
              refine Tr.regD [0, 1, 2, 3, 4, 5, 6, 7, 8, 9, 10, 11, 12, 13, 14, 15, 16, 17, 18, 19, 20] [] [] [1, 3, 7, 8, 9, 11, 15, 17, 18, 152] mix (by kernel_rfl) (by
                  simp only [↓sxd, sxu, ↓zC, zH, ↓exq, St.keep, ↓zD, Nat.reduceBEq, Nat.reduceAdd, Nat.reduceLT, sxe, tysH33_5, e1, e2, e3, hq0, hjX, hl3, hl1, hl2, hg1, hg2]
                  exact ⟨[(t.w l).lo r c, (t.w l).hi r c], [(t.w l).lo r c, (t.w l).hi r c], rfl, rfl, rfl, eqRange, rfl⟩) ?_
              refine Tr.cond rfl (fun h152 => ?_) (fun h152 => ?_)
              · simp at h152
              · refine Tr.skip ?_
                have w1 := add1 (show c < 4611686018427387904 by omega)
                refine Tr.reg1 [1, 3, 7, 8, 9, 11, 15, 17, 18] (by
                    simp only [↓sxd, sxu, ↓zE, ↓exq, St.keep, Nat.reduceBEq, Nat.reduceLT, w1]
                    (repeat' (first | rfl | exact trivial | exact fun h => h | exact fun h => (by rw [h]; rfl) | apply And.intro | omega | exact Nat.le_of_ble_eq_true rfl))) ?_
                exact ⟨_, _, by omega, Imp.keepAll, ⟨c + 1, hc, rfl, rfl⟩⟩
            · have hc : c = t.m := by have := of_decide_eq_false h129; omega
              refine Tr.exit ?_
              have w1 := add1 (show r < 4611686018427387904 by omega)
              refine Tr.reg1 [1, 3, 7, 8, 9, 11, 15, 17] (by
                  simp only [↓sxd, sxu, ↓zE, ↓exq, St.keep, Nat.reduceBEq, Nat.reduceLT, w1]
                  (repeat' (first | rfl | exact trivial | exact fun h => h | exact fun h => (by rw [h]; rfl) | apply And.intro | omega | exact Nat.le_of_ble_eq_true rfl))) ?_
              exact ⟨_, _, by omega, Imp.keepAll, ⟨r + 1, hr, rfl, rfl⟩⟩
          · have hr : r = t.n := by have := of_decide_eq_false h124; omega
            refine Tr.exit ?_
            refine Tr.seq ?_
            refine Tr.reg [1, 3, 7, 8, 9, 154] (by
                simp only [↓sxd, sxu, ↓zE, ↓exq, St.keep, Nat.reduceBEq, Nat.reduceLT]
                (repeat' (first | rfl | exact trivial | exact fun h => h | exact fun h => (by rw [h]; rfl) | apply And.intro | omega | exact Nat.le_of_ble_eq_true rfl))) ?_
            refine Tr.cond rfl (fun h154 => ?_) (fun h154 => ?_)
            · refine Tr.reg [6] (by
                  simp only [↓sxd, sxu, ↓zE, St.keep, Nat.reduceLT]
                  (repeat ((with_reducible refine And.intro ?_ ?_); (focus (first | with_reducible rfl | trivial | exact fun h => h | exact fun h => (by rw [h]; rfl) | omega | assumption))))
                  refine CallO.use (awake_c) ?_
                  try simp only [↓sxd, sxu, ↓zE, ↓exq, Nat.reduceLT]
                  (repeat' (first | rfl | exact trivial | exact fun h => h | exact fun h => (by rw [h]; rfl) | apply And.intro | omega | exact Nat.le_of_ble_eq_true rfl))) ?_
              refine Tr.ret ?_
              (refine ⟨.inr rfl, ?_⟩; first | rfl | exact ⟨rfl, rfl, trivial⟩ | exact ⟨rfl, rfl, rfl, trivial⟩ | (simp only [Res, ResL, ResOK, ↓sxd, sxu, ↓zE, ↓zC, zH, ↓exP, ↓exq, ↓zB, St.keep, ↓zI, ↓zW, ↓zJ, ↓zL, ↓zD, ↓zK, ↓zM, ↓zN, ↓zO, ↓zG, ↓zQ, ↓zV, ↓zA, sbnd, Nat.reduceBEq, Nat.reduceAdd, Nat.reduceLT, Nat.reduceMul, Nat.reduceSub, Nat.reduceLeDiff, Nat.reduceEqDiff, Int.reduceLE, Int.reduceLT, Int.reduceToNat, reduceIte, implies_true, sxe, tysH33_5]; (repeat' (first | rfl | exact trivial | exact fun h => h | exact fun h => (by rw [h]; rfl) | apply And.intro | omega | exact Nat.le_of_ble_eq_true rfl))))
            · have hm3 : t.m ≤ 3 := by have := of_decide_eq_false h154; omega
              have hbits2 : ∀ i, i ≤ l.length → bitsFTo (fun x => x.col.toNat * t.n + x.row.toNat) l i < 2 ^ 12 := fun i hi => bitsFTo_lt (fun c hc => by
                have hb := hlo.cell c hc
                have : c.col.toNat * t.n ≤ 6 := Nat.le_trans (Nat.mul_le_mul (show c.col.toNat ≤ 2 by omega) hn3) (by decide)
                omega) i hi
              refine Tr.skip ?_
              refine Tr.reg [1, 3, 7, 8, 9, 19] (by
                  simp only [↓sxd, sxu, ↓zE, ↓exq, St.keep, ↓zD, ↓zM, ↓zO, ↓zA, Nat.reduceBEq, Nat.reduceAdd, Nat.reduceLT, Nat.reduceEqDiff, tysH33_5]
                  (repeat' (first | rfl | exact trivial | exact fun h => h | exact fun h => (by rw [h]; rfl) | apply And.intro | omega | exact Nat.le_of_ble_eq_true rfl))) ?_
              refine Tr.seq ?_
              refine Tr.reg [1, 3, 7, 8, 9, 19, 20] (by
                  simp only [↓sxd, sxu, ↓zE, ↓exq, St.keep, Nat.reduceBEq, Nat.reduceLT]
                  (repeat' (first | rfl | exact trivial | exact fun h => h | exact fun h => (by rw [h]; rfl) | apply And.intro | omega | exact Nat.le_of_ble_eq_true rfl))) ?_
              refine Tr.imp (st' := ⟨[(1, SC l), (3, .ptr 0 0 0), (7, I t.n), (8, I t.m), (9, SRL R), (19, .ptr 1 0 0), (20, I 0)], [(2, .arr 1 (uL (trTo t.n t.rows 0))), (1, .arr 2 [[.slc 2 1 0 0 0, I t.cap]]), (0, tbx t)], 3, 253, [], 0⟩) (Imp.trans (b := ⟨[(1, SC l), (3, .ptr 0 0 0), (7, I t.n), (8, I t.m), (9, SRL R), (19, .ptr 2 0 0), (20, I 0)], [(3, .arr 1 []), (2, .arr 2 [[.slc 3 1 0 0 0, I t.cap]]), (1, tbx (rotT t k)), (0, tbx t)], 4, 253, [], 0⟩) (Imp.goV 1 rfl rfl rfl rfl (by repeat' (first | exact trivial | exact F2.nil | refine F2.cons ?_ ?_ | refine TmV.cons rfl VnS.nil ?_ | refine TmV.cons rfl VnS.same ?_ | refine ⟨rfl, ?_⟩ | exact VnO.same _ | refine VnO.arr ?_ | exact VnS.nil | exact VnS.same | exact F2.refl fun _ _ => VnS.same)) (by repeat' (first | exact trivial | exact F2.nil | refine F2.cons ?_ ?_ | refine TmV.cons rfl VnS.nil ?_ | refine TmV.cons rfl VnS.same ?_ | refine ⟨rfl, ?_⟩ | exact VnO.same _ | refine VnO.arr ?_ | exact VnS.nil | exact VnS.same | exact F2.refl fun _ _ => VnS.same))) (Imp.go (fun i => if i = 0 then 0 else i + 1) [(3, _), (2, _), (0, _)] rfl rfl (.cons_cons _ (.cons_cons _ (.cons _ (.cons_cons _ .slnil)))) (fun _ h => absurd h (Nat.not_lt_zero _)) (fun id h => by have h2 : 3 ≤ id := h; show 4 ≤ if id = 0 then 0 else id + 1; rw [if_neg (by omega)]; omega) (by repeat' (first | exact TmT.cons rfl (TnS.d _) ?_ | exact trivial | exact F2.nil | refine F2.append ?_ ?_ | refine F2.map fun _ _ => ?_ | refine F2.cons ?_ ?_ | refine TmT.cons rfl ?_ ?_ | exact TnS.d _ | exact TnS.dx _ | exact TnS.dp _ | exact TnS.slc rfl | exact TnS.ptr rfl | refine TnS.frzf rfl (by simp) (by simp) (by simp) ?_ | refine TnS.frz0 rfl (by simp) (by simp) (by simp) ?_ | refine TnS.frzm rfl (by simp) ?_ | exact TnS.mapr rfl | exact TnS.yld rfl | refine ⟨rfl, ?_⟩ | refine TnO.arr ?_ | refine TnO.map ?_ | exact TnO.raw _ | exact TnO.iter _ _ | refine TnS.agg ?_ | refine TnS.tup ?_ | exact TnS.pure (Pure.clo (by assumption) (by assumption)) | refine TnS.clo ?_ ?_ | exact TnS.unk _ | exact TnS.pure (Pure.clo (by assumption) (by assumption)))) (.cons ⟨rfl, TnO.arr .nil⟩ (.cons ⟨rfl, TnO.arr (.cons (.cons (TnS.slc rfl) (.cons (TnS.d _) .nil)) .nil)⟩ (.cons ⟨rfl, TnO.arr (by repeat' (first | exact TmT.cons rfl (TnS.d _) ?_ | exact trivial | exact F2.nil | refine F2.append ?_ ?_ | refine F2.map fun _ _ => ?_ | refine F2.cons ?_ ?_ | refine TmT.cons rfl ?_ ?_ | exact TnS.d _ | exact TnS.dx _ | exact TnS.dp _ | exact TnS.slc rfl | exact TnS.ptr rfl | refine TnS.frzf rfl (by simp) (by simp) (by simp) ?_ | refine TnS.frz0 rfl (by simp) (by simp) (by simp) ?_ | refine TnS.frzm rfl (by simp) ?_ | exact TnS.mapr rfl | exact TnS.yld rfl | refine ⟨rfl, ?_⟩ | refine TnO.arr ?_ | refine TnO.map ?_ | exact TnO.raw _ | exact TnO.iter _ _ | refine TnS.agg ?_ | refine TnS.tup ?_ | exact TnS.pure (Pure.clo (by assumption) (by assumption)) | refine TnS.clo ?_ ?_ | exact TnS.unk _ | exact TnS.pure (Pure.clo (by assumption) (by assumption))))⟩ .nil))) (fun h => h))) (Tr.block (Tr.loopI (fun mm ss => ∃ (c : Nat), (c ≤ t.m) ∧ t.m - c = mm ∧ ss = ⟨[(1, SC l), (3, .ptr 0 0 0), (7, I t.n), (8, I t.m), (9, SRL R), (19, .ptr 1 0 0), (20, I c)], [(2, .arr 1 (uL (trTo t.n t.rows c))), (1, .arr 2 [[.slc 2 1 0 c c, I t.cap]]), (0, tbx t)], 3, 253, [], 0⟩) _ ⟨0, ?_, rfl, rfl⟩ ?_))
              · exact Nat.zero_le _
              rintro mm ss ⟨c, hI, rfl, rfl⟩
              refine Tr.seq ?_
              refine Tr.reg [1, 3, 7, 8, 9, 19, 20, 161] (by
                  simp only [↓sxd, sxu, ↓zE, ↓exq, St.keep, Nat.reduceBEq, Nat.reduceLT, sxe]
                  (repeat' (first | rfl | exact trivial | exact fun h => h | exact fun h => (by rw [h]; rfl) | apply And.intro | omega | exact Nat.le_of_ble_eq_true rfl))) ?_
              refine Tr.cond rfl (fun h161 => ?_) (fun h161 => ?_)
              · have hc : c < t.m := by simpa using h161
                refine Tr.skip ?_
                refine Tr.seq ?_
                refine Tr.block ?_
                refine Tr.reg [1, 3, 7, 8, 9, 19, 20, 21] (by
                    simp only [↓sxd, sxu, ↓zE, ↓exq, St.keep, Nat.reduceBEq, Nat.reduceLT]
                    (repeat' (first | rfl | exact trivial | exact fun h => h | exact fun h => (by rw [h]; rfl) | apply And.intro | omega | exact Nat.le_of_ble_eq_true rfl))) ?_
                refine Tr.seq ?_
                refine Tr.reg [1, 3, 7, 8, 9, 19, 20, 21, 22] (by
                    simp only [↓sxd, sxu, ↓zE, ↓exq, St.keep, Nat.reduceBEq, Nat.reduceLT]
                    (repeat' (first | rfl | exact trivial | exact fun h => h | exact fun h => (by rw [h]; rfl) | apply And.intro | omega | exact Nat.le_of_ble_eq_true rfl))) ?_
                refine Tr.imp (st' := ⟨[(1, SC l), (3, .ptr 0 0 0), (7, I t.n), (8, I t.m), (9, SRL R), (19, .ptr 1 0 0), (20, I c), (21, .slc 3 1 0 0 0), (22, I 0)], [(3, .arr 1 (vI (colTo t.rows c 0))), (2, .arr 1 (uL (trTo t.n t.rows c))), (1, .arr 2 [[.slc 2 1 0 c c, I t.cap]]), (0, tbx t)], 4, 253, [], 0⟩) (Imp.goV 1 rfl rfl rfl rfl (by repeat' (first | exact trivial | exact F2.nil | refine F2.cons ?_ ?_ | refine TmV.cons rfl VnS.nil ?_ | refine TmV.cons rfl VnS.same ?_ | refine ⟨rfl, ?_⟩ | exact VnO.same _ | refine VnO.arr ?_ | exact VnS.nil | exact VnS.same | exact F2.refl fun _ _ => VnS.same)) (F2.refl fun _ _ => ⟨rfl, VnO.same _⟩)) (Tr.block (Tr.loopI (fun mm ss => ∃ (r : Nat), (r ≤ t.n) ∧ t.n - r = mm ∧ ss = ⟨[(1, SC l), (3, .ptr 0 0 0), (7, I t.n), (8, I t.m), (9, SRL R), (19, .ptr 1 0 0), (20, I c), (21, .slc 3 1 0 r r), (22, I r)], [(3, .arr 1 (vI (colTo t.rows c r))), (2, .arr 1 (uL (trTo t.n t.rows c))), (1, .arr 2 [[.slc 2 1 0 c c, I t.cap]]), (0, tbx t)], 4, 253, [], 0⟩) _ ⟨0, ?_, rfl, rfl⟩ ?_))
                · exact Nat.zero_le _
                rintro mm ss ⟨r, hI, rfl, rfl⟩
                refine Tr.seq ?_
                refine Tr.reg [1, 3, 7, 8, 9, 19, 20, 21, 22, 166] (by
                    simp only [↓sxd, sxu, ↓zE, ↓exq, St.keep, Nat.reduceBEq, Nat.reduceLT, sxe]
                    (repeat' (first | rfl | exact trivial | exact fun h => h | exact fun h => (by rw [h]; rfl) | apply And.intro | omega | exact Nat.le_of_ble_eq_true rfl))) ?_
                refine Tr.cond rfl (fun h166 => ?_) (fun h166 => ?_)
                · have hr : r < t.n := by simpa using h166
                  have hrr : r < t.rows.length := hr
                  have hcr : c < (t.rows.getD r []).length := by rw [ho.dim.2 r hr]; exact hc
                  have hk2 : (r + 1 ≤ 1073741824) = True := eq_true (by omega)
                  refine Tr.skip ?_
                  refine Tr.seq ?_
                  refine Tr.block ?_
                  refine Tr.reg1 [1, 3, 7, 8, 9, 19, 20, 21, 22] (by
                      simp only [↓sxd, sxu, ↓zE, ↓exq, ↓zB, St.keep, ↓zD, ↓zG, ↓zQ, ↓zA, Nat.reduceBEq, Nat.reduceAdd, Nat.reduceLT, Nat.reduceLeDiff, Nat.reduceEqDiff, sxe, tysH33_5, hrr, hcr, vI_len, colTo_len, hk2]
                      (repeat' (first | rfl | exact trivial | exact fun h => h | exact fun h => (by rw [h]; rfl) | apply And.intro | omega | exact Nat.le_of_ble_eq_true rfl))) ?_
                  have w1 := add1 (show r < 4611686018427387904 by omega)
                  refine Tr.reg1 [1, 3, 7, 8, 9, 19, 20, 21, 22] (by
                      simp only [↓sxd, sxu, ↓zE, ↓exq, St.keep, Nat.reduceBEq, Nat.reduceLT, w1]
                      (repeat' (first | rfl | exact trivial | exact fun h => h | exact fun h => (by rw [h]; rfl) | apply And.intro | omega | exact Nat.le_of_ble_eq_true rfl))) ?_
                  refine ⟨_, _, ?_, ?_, ⟨r + 1, hr, rfl, rfl⟩⟩
                  · omega
                  · rw [colTo_snoc]
                    exact Imp.go (fun i => if i < 3 then i else i + 1) _ rfl rfl (List.Sublist.refl _) (fun _ h => absurd h (Nat.not_lt_zero _)) (fun id h => by have h2 : 4 ≤ id := h; show 5 ≤ if id < 3 then id else id + 1; rw [if_neg (by omega)]; omega) (by repeat' (first | exact TmT.cons rfl (TnS.d _) ?_ | exact trivial | exact F2.nil | refine F2.append ?_ ?_ | refine F2.map fun _ _ => ?_ | refine F2.cons ?_ ?_ | refine TmT.cons rfl ?_ ?_ | exact TnS.d _ | exact TnS.dx _ | exact TnS.dp _ | exact TnS.slc rfl | exact TnS.ptr rfl | refine TnS.frzf rfl (by simp) (by simp) (by simp) ?_ | refine TnS.frz0 rfl (by simp) (by simp) (by simp) ?_ | refine TnS.frzm rfl (by simp) ?_ | exact TnS.mapr rfl | exact TnS.yld rfl | refine ⟨rfl, ?_⟩ | refine TnO.arr ?_ | refine TnO.map ?_ | exact TnO.raw _ | exact TnO.iter _ _ | refine TnS.agg ?_ | refine TnS.tup ?_ | exact TnS.pure (Pure.clo (by assumption) (by assumption)) | refine TnS.clo ?_ ?_ | exact TnS.unk _ | exact TnS.pure (Pure.clo (by assumption) (by assumption)))) (.cons ⟨rfl, TnO.arr (F2.append (vI_tn _) (.cons (.cons (TnS.d _) .nil) .nil))⟩ (.cons ⟨rfl, TnO.arr (uL_tn _)⟩ (.cons ⟨rfl, TnO.arr (.cons (.cons (TnS.slc rfl) (.cons (TnS.d _) .nil)) .nil)⟩ (.cons ⟨rfl, TnO.arr (by repeat' (first | exact TmT.cons rfl (TnS.d _) ?_ | exact trivial | exact F2.nil | refine F2.append ?_ ?_ | refine F2.map fun _ _ => ?_ | refine F2.cons ?_ ?_ | refine TmT.cons rfl ?_ ?_ | exact TnS.d _ | exact TnS.dx _ | exact TnS.dp _ | exact TnS.slc rfl | exact TnS.ptr rfl | refine TnS.frzf rfl (by simp) (by simp) (by simp) ?_ | refine TnS.frz0 rfl (by simp) (by simp) (by simp) ?_ | refine TnS.frzm rfl (by simp) ?_ | exact TnS.mapr rfl | exact TnS.yld rfl | refine ⟨rfl, ?_⟩ | refine TnO.arr ?_ | refine TnO.map ?_ | exact TnO.raw _ | exact TnO.iter _ _ | refine TnS.agg ?_ | refine TnS.tup ?_ | exact TnS.pure (Pure.clo (by assumption) (by assumption)) | refine TnS.clo ?_ ?_ | exact TnS.unk _ | exact TnS.pure (Pure.clo (by assumption) (by assumption))))⟩ .nil)))) (fun h => h)
                · have hr : r = t.n := by have := of_decide_eq_false h166; omega
                  subst hr
                  refine Tr.exit ?_
                  have hk3 : (c + 1 ≤ 1073741824) = True := eq_true (by omega)
                  refine Tr.imp (st' := ⟨[(1, SC l), (3, .ptr 0 0 0), (7, I t.n), (8, I t.m), (9, SRL R), (19, .ptr 1 0 0), (20, I c), (21, SI (colTo t.rows c t.n))], [(2, .arr 1 (uL (trTo t.n t.rows c))), (1, .arr 2 [[.slc 2 1 0 c c, I t.cap]]), (0, tbx t)], 3, 253, [], 0⟩) (Imp.go (fun i => if i < 3 then i else i + 1) [(2, _), (1, _), (0, _)] rfl rfl (.cons _ (.refl _)) (fun _ h => absurd h (Nat.not_lt_zero _)) (fun id h => by have h2 : 3 ≤ id := h; show 4 ≤ if id < 3 then id else id + 1; rw [if_neg (by omega)]; omega)
                    (.cons rfl (TnS.d _) (.cons rfl (TnS.ptr rfl) (.cons rfl (TnS.d _) (.cons rfl (TnS.d _) (.cons rfl (TnS.d _) (.cons rfl (TnS.ptr rfl) (.cons rfl (TnS.d _) (.cons rfl (TnS.frz0 (es := vI (colTo t.rows c t.n)) rfl (by simp) (by decide) (by rw [vI_len, colTo_len]) (vI_fz _)) trivial))))))))
                    (.cons ⟨rfl, TnO.arr (uL_tn _)⟩ (.cons ⟨rfl, TnO.arr (.cons (.cons (TnS.slc rfl) (.cons (TnS.d _) .nil)) .nil)⟩ (.cons ⟨rfl, TnO.arr (by repeat' (first | exact TmT.cons rfl (TnS.d _) ?_ | exact trivial | exact F2.nil | refine F2.append ?_ ?_ | refine F2.map fun _ _ => ?_ | refine F2.cons ?_ ?_ | refine TmT.cons rfl ?_ ?_ | exact TnS.d _ | exact TnS.dx _ | exact TnS.dp _ | exact TnS.slc rfl | exact TnS.ptr rfl | refine TnS.frzf rfl (by simp) (by simp) (by simp) ?_ | refine TnS.frz0 rfl (by simp) (by simp) (by simp) ?_ | refine TnS.frzm rfl (by simp) ?_ | exact TnS.mapr rfl | exact TnS.yld rfl | refine ⟨rfl, ?_⟩ | refine TnO.arr ?_ | refine TnO.map ?_ | exact TnO.raw _ | exact TnO.iter _ _ | refine TnS.agg ?_ | refine TnS.tup ?_ | exact TnS.pure (Pure.clo (by assumption) (by assumption)) | refine TnS.clo ?_ ?_ | exact TnS.unk _ | exact TnS.pure (Pure.clo (by assumption) (by assumption))))⟩ .nil))) (fun h => h)) ?_
                  refine Tr.reg1 [1, 3, 7, 8, 9, 19, 20] (by
                      simp only [↓sxd, sxu, ↓zE, ↓exq, ↓zB, St.keep, ↓zD, ↓zG, ↓zQ, ↓zA, Nat.reduceBEq, Nat.reduceAdd, Nat.reduceLT, Nat.reduceLeDiff, Nat.reduceEqDiff, tysH33_5, hk3, uL_len, trTo_len]
                      (repeat' (first | rfl | exact trivial | exact fun h => h | exact fun h => (by rw [h]; rfl) | apply And.intro | omega | exact Nat.le_of_ble_eq_true rfl))) ?_
                  have w1 := add1 (show c < 4611686018427387904 by omega)
                  refine Tr.reg1 [1, 3, 7, 8, 9, 19, 20] (by
                      simp only [↓sxd, sxu, ↓zE, ↓exq, St.keep, Nat.reduceBEq, Nat.reduceLT, w1]
                      (repeat' (first | rfl | exact trivial | exact fun h => h | exact fun h => (by rw [h]; rfl) | apply And.intro | omega | exact Nat.le_of_ble_eq_true rfl))) ?_
                  refine ⟨_, _, ?_, ?_, ⟨c + 1, hc, rfl, rfl⟩⟩
                  · omega
                  · rw [trTo_snoc]
                    exact Imp.go (fun i => if i < 2 then i else i + 1) _ rfl rfl (List.Sublist.refl _) (fun _ h => absurd h (Nat.not_lt_zero _)) (fun id h => by have h2 : 3 ≤ id := h; show 4 ≤ if id < 2 then id else id + 1; rw [if_neg (by omega)]; omega) (by repeat' (first | exact TmT.cons rfl (TnS.d _) ?_ | exact trivial | exact F2.nil | refine F2.append ?_ ?_ | refine F2.map fun _ _ => ?_ | refine F2.cons ?_ ?_ | refine TmT.cons rfl ?_ ?_ | exact TnS.d _ | exact TnS.dx _ | exact TnS.dp _ | exact TnS.slc rfl | exact TnS.ptr rfl | refine TnS.frzf rfl (by simp) (by simp) (by simp) ?_ | refine TnS.frz0 rfl (by simp) (by simp) (by simp) ?_ | refine TnS.frzm rfl (by simp) ?_ | exact TnS.mapr rfl | exact TnS.yld rfl | refine ⟨rfl, ?_⟩ | refine TnO.arr ?_ | refine TnO.map ?_ | exact TnO.raw _ | exact TnO.iter _ _ | refine TnS.agg ?_ | refine TnS.tup ?_ | exact TnS.pure (Pure.clo (by assumption) (by assumption)) | refine TnS.clo ?_ ?_ | exact TnS.unk _ | exact TnS.pure (Pure.clo (by assumption) (by assumption)))) (.cons ⟨rfl, TnO.arr (F2.append (uL_tn _) (.cons (.cons (TnS.d _) .nil) .nil))⟩ (.cons ⟨rfl, TnO.arr (.cons (.cons (TnS.slc rfl) (.cons (TnS.d _) .nil)) .nil)⟩ (.cons ⟨rfl, TnO.arr (by repeat' (first | exact TmT.cons rfl (TnS.d _) ?_ | exact trivial | exact F2.nil | refine F2.append ?_ ?_ | refine F2.map fun _ _ => ?_ | refine F2.cons ?_ ?_ | refine TmT.cons rfl ?_ ?_ | exact TnS.d _ | exact TnS.dx _ | exact TnS.dp _ | exact TnS.slc rfl | exact TnS.ptr rfl | refine TnS.frzf rfl (by simp) (by simp) (by simp) ?_ | refine TnS.frz0 rfl (by simp) (by simp) (by simp) ?_ | refine TnS.frzm rfl (by simp) ?_ | exact TnS.mapr rfl | exact TnS.yld rfl | refine ⟨rfl, ?_⟩ | refine TnO.arr ?_ | refine TnO.map ?_ | exact TnO.raw _ | exact TnO.iter _ _ | refine TnS.agg ?_ | refine TnS.tup ?_ | exact TnS.pure (Pure.clo (by assumption) (by assumption)) | refine TnS.clo ?_ ?_ | exact TnS.unk _ | exact TnS.pure (Pure.clo (by assumption) (by assumption))))⟩ .nil))) (fun h => h)
              · have hc : c = t.m := by have := of_decide_eq_false h161; omega
                subst hc
                refine Tr.exit ?_
                refine Tr.reg [1, 7, 8, 9, 13, 19] (by
                    simp only [↓sxd, sxu, ↓zE, ↓exq, St.keep, Nat.reduceBEq, Nat.reduceLT]
                    (repeat' (first | rfl | exact trivial | exact fun h => h | exact fun h => (by rw [h]; rfl) | apply And.intro | omega | exact Nat.le_of_ble_eq_true rfl))) ?_
                refine Tr.seq ?_
                refine Tr.reg [1, 7, 8, 9, 13, 19, 23] (by
                    simp only [↓sxd, sxu, ↓zE, ↓exq, St.keep, Nat.reduceBEq, Nat.reduceLT]
                    (repeat' (first | rfl | exact trivial | exact fun h => h | exact fun h => (by rw [h]; rfl) | apply And.intro | omega | exact Nat.le_of_ble_eq_true rfl))) ?_
                refine Tr.imp (st' := ⟨[(1, SC l), (7, I t.n), (8, I t.m), (9, SRL R), (13, I (bitsFTo (fun x => x.col.toNat * t.n + x.row.toNat) l 0 : Nat)), (19, .ptr 0 0 0), (23, I 0)], [(0, tbx (trT t))], 1, 253, [], 0⟩) (Imp.go (fun i => if i = 0 then 1 else i + 2) [(1, _)] rfl rfl (.cons _ (.cons_cons _ (.cons _ .slnil))) (fun _ h => absurd h (Nat.not_lt_zero _)) (fun id h => by have h2 : 1 ≤ id := h; show 3 ≤ if id = 0 then 1 else id + 2; rw [if_neg (by omega)]; omega) (by repeat' (first | exact TmT.cons rfl (TnS.d _) ?_ | exact trivial | exact F2.nil | refine F2.append ?_ ?_ | refine F2.map fun _ _ => ?_ | refine F2.cons ?_ ?_ | refine TmT.cons rfl ?_ ?_ | exact TnS.d _ | exact TnS.dx _ | exact TnS.dp _ | exact TnS.slc rfl | exact TnS.ptr rfl | refine TnS.frzf rfl (by simp) (by simp) (by simp) ?_ | refine TnS.frz0 rfl (by simp) (by simp) (by simp) ?_ | refine TnS.frzm rfl (by simp) ?_ | exact TnS.mapr rfl | exact TnS.yld rfl | refine ⟨rfl, ?_⟩ | refine TnO.arr ?_ | refine TnO.map ?_ | exact TnO.raw _ | exact TnO.iter _ _ | refine TnS.agg ?_ | refine TnS.tup ?_ | exact TnS.pure (Pure.clo (by assumption) (by assumption)) | refine TnS.clo ?_ ?_ | exact TnS.unk _ | exact TnS.pure (Pure.clo (by assumption) (by assumption)))) (.cons ⟨rfl, TnO.arr (.cons (.cons (TnS.frz0 (sz := 1) (es := uL (trTo t.n t.rows t.m)) rfl (by simp) (by decide) (by rw [uL_len, trTo_len]) (uL_fz _)) (.cons (TnS.d _) .nil)) .nil)⟩ .nil) (fun h => h)) (Tr.block (Tr.loopI (fun mm ss => ∃ (i : Nat), (i ≤ l.length) ∧ l.length - i = mm ∧ ss = ⟨[(1, SC l), (7, I t.n), (8, I t.m), (9, SRL R), (13, I (bitsFTo (fun x => x.col.toNat * t.n + x.row.toNat) l i : Nat)), (19, .ptr 0 0 0), (23, I i)], [(0, tbx (trT t))], 1, 253, [], 0⟩) _ ⟨0, ?_, rfl, rfl⟩ ?_))
                · exact Nat.zero_le _
                rintro mm ss ⟨i, hI, rfl, rfl⟩
                refine Tr.seq ?_
                refine Tr.reg [1, 7, 8, 9, 13, 19, 23, 189] (by
                    simp only [↓sxd, sxu, ↓zE, ↓exq, ↓zB, St.keep, ↓zL, Nat.reduceBEq, Nat.reduceLT, sxe, tysH33_5]
                    (repeat' (first | rfl | exact trivial | exact fun h => h | exact fun h => (by rw [h]; rfl) | apply And.intro | omega | exact Nat.le_of_ble_eq_true rfl))) ?_
                refine Tr.cond rfl (fun h189 => ?_) (fun h189 => ?_)
                · have hlt : i < l.length := by simpa using h189
                  refine Tr.skip ?_
                  refine Tr.seq ?_
                  refine Tr.block ?_
                  have hq := hlo.cell _ (getD_mem' default hlt)
                  obtain ⟨a, ha⟩ := Int.eq_ofNat_of_zero_le hq.1
                  obtain ⟨b, hb⟩ := Int.eq_ofNat_of_zero_le hq.2.2.1
                  have han : a < t.n := by omega
                  have hbm : b < t.m := by omega
                  have hjm : b * t.n ≤ 6 := Nat.le_trans (Nat.mul_le_mul (show b ≤ 2 by omega) hn3) (by decide)
                  have e4 : IntKind.i64.wrap ((b : Int) * (t.n : Int)) = ((b * t.n : Nat) : Int) := by rw [← Int.natCast_mul]; exact wr (by omega) (by omega)
                  have e5 : IntKind.i64.wrap (((b * t.n : Nat) : Int) + (a : Int)) = ((b * t.n + a : Nat) : Int) := by rw [wr (by omega) (by omega)]; rfl
                  have e6 : IntKind.u64.wrap ((b * t.n + a : Nat) : Int) = ((b * t.n + a : Nat) : Int) := wu (by omega) (by omega)
                  have e7 := shl_i (show b * t.n + a < 62 by omega)
                  have hp12 : 2 ^ (b * t.n + a) < 2 ^ 12 := Nat.pow_lt_pow_right (by decide) (by omega)
                  have hbl := hbits2 i (by omega)
                  have e8 := or_i (a := bitsFTo (fun x => x.col.toNat * t.n + x.row.toNat) l i) (b := 2 ^ (b * t.n + a)) (by omega) (by omega)
                  have e9 : bitsFTo (fun x => x.col.toNat * t.n + x.row.toNat) l (i + 1) = bitsFTo (fun x => x.col.toNat * t.n + x.row.toNat) l i ||| 2 ^ (b * t.n + a) := by
                    rw [bitsFTo]
                    simp only [ha, hb, Int.toNat_natCast]
                  refine Tr.regD1 [0, 1, 2, 3, 4, 5, 6, 7, 8, 9, 10, 11, 12, 13, 14, 15, 16, 17] [] [] [1, 7, 8, 9, 13, 19, 23] mix (by kernel_rfl) (by
                      simp only [↓sxd, sxu, ↓zC, zH, ↓exq, St.keep, ↓zW, ↓zD, ↓zA, Nat.reduceBEq, Nat.reduceAdd, Nat.reduceLT, Nat.reduceEqDiff, sxe, tysH33_5, hlt, ha, hb, e4, e5, e6, e7, e8]
                      (repeat' (first | rfl | exact trivial | exact fun h => h | exact fun h => (by rw [h]; rfl) | apply And.intro | omega | exact Nat.le_of_ble_eq_true rfl))) ?_
                  have w1 := add1 (show i < 4611686018427387904 by omega)
                  refine Tr.reg1 [1, 7, 8, 9, 13, 19, 23] (by
                      simp only [↓sxd, sxu, ↓zE, ↓exq, St.keep, Nat.reduceBEq, Nat.reduceLT, w1]
                      (repeat' (first | rfl | exact trivial | exact fun h => h | exact fun h => (by rw [h]; rfl) | apply And.intro | omega | exact Nat.le_of_ble_eq_true rfl))) ?_
                  refine ⟨_, _, ?_, ?_, ⟨i + 1, hlt, rfl, rfl⟩⟩
                  · omega
                  · rw [e9]; exact Imp.keepAll
                · have hge : i = l.length := by simp at h189; omega
                  refine Tr.exit ?_
                  subst hge
                  obtain ⟨hpy, hc1, hc2, hT2⟩ := turned_tr hpub hm3
                  have hoy := trT_ok (t := t) (n := t.n) (m := t.m) ho hm3 rfl rfl
                  have hsy := ok_small hoy
                  have hset2 := Set_c (trT t) (trB t.n l) (Nat.lt_trans (hbits2 l.length (Nat.le_refl _)) (by decide)) hoy.check.1
                  rw [hc1, hc2] at hset2
                  have hSl2 := setR_len (n := t.m) (m := t.n) hm3 (by omega) (trB t.n l)
                  have hRy := Ranges_c (trT t) (setR t.m t.n (trB t.n l)) hsy (by omega)
                  rw [if_pos hpy, hpy, hc1, hc2] at hRy
                  have hYl : (((trT t).w (setR t.m t.n (trB t.n l))).ranges t.m t.n).length = t.m := ranges_len _ _ _
                  have hYr : ∀ c, c < t.m → ((((trT t).w (setR t.m t.n (trB t.n l))).ranges t.m t.n).getD c []).length = t.n := fun c hc => ranges_row _ hc
                  have hYg : ∀ r c, r < t.n → c < t.m → ((((trT t).w (setR t.m t.n (trB t.n l))).ranges t.m t.n).getD c []).getD r default = ⟨(t.w l).lo r c, (t.w l).hi r c⟩ := fun r c hr hc => by
                    rw [ranges_get _ hc hr, (hT2 r c).1, (hT2 r c).2]
                  change CallP Try.prog G0 _ [_, I (bitsFTo (fun x => x.col.toNat * t.n + x.row.toNat) l l.length : Nat)] _ at hset2
                  generalize ((trT t).w (setR t.m t.n (trB t.n l))).ranges t.m t.n = Y at hRy hYl hYr hYg
                  refine Tr.regD [0, 1, 2, 3, 4, 5, 6, 7, 8, 9, 10, 11] [] [] [7, 8, 9, 24, 25] mix (by kernel_rfl) (by
                      simp only [↓sxd, sxu, ↓zC, zH, ↓exq, St.keep, ↓zD, Nat.reduceBEq, Nat.reduceAdd, Nat.reduceLT, tysH33_5]
                      (repeat ((with_reducible refine And.intro ?_ ?_); (focus (first | with_reducible rfl | trivial | exact fun h => h | exact fun h => (by rw [h]; rfl) | omega | assumption))))
                      refine CallD.use (Table_c (trT t) hsy) ?_
                      try simp only [↓sxd, sxu, ↓zC, zH, ↓exq, ↓zD, Nat.reduceBEq, Nat.reduceAdd, Nat.reduceLT, tysH33_5]
                      (repeat ((with_reducible refine And.intro ?_ ?_); (focus (first | with_reducible rfl | trivial | exact fun h => h | exact fun h => (by rw [h]; rfl) | omega | assumption))))
                      refine CallD.use (hset2) ?_
                      try simp only [↓sxd, sxu, ↓zC, Nat.reduceLT]
                      (repeat ((with_reducible refine And.intro ?_ ?_); (focus (first | with_reducible rfl | trivial | exact fun h => h | exact fun h => (by rw [h]; rfl) | omega | assumption))))
                      refine CallD.use (Cells_c _ (by omega)) ?_
                      try simp only [↓sxd, sxu, ↓zC, Nat.reduceBEq, Nat.reduceLT]
                      (repeat ((with_reducible refine And.intro ?_ ?_); (focus (first | with_reducible rfl | trivial | exact fun h => h | exact fun h => (by rw [h]; rfl) | omega | assumption))))
                      refine CallD.use (hRy) ?_
                      try simp only [↓sxd, sxu, ↓zC, zH, ↓exq, ↓zK, Nat.reduceBEq, Nat.reduceAdd, Nat.reduceLT]
                      (repeat' (first | rfl | exact trivial | exact fun h => h | exact fun h => (by rw [h]; rfl) | apply And.intro | omega | exact Nat.le_of_ble_eq_true rfl))) ?_
                  refine Tr.seq ?_
                  refine Tr.reg [7, 8, 9, 24, 226] (by
                      simp only [↓sxd, sxu, ↓zE, ↓exq, St.keep, Nat.reduceBEq, Nat.reduceLT]
                      iterate 4
                        (repeat ((with_reducible refine And.intro ?_ ?_); (focus (first | with_reducible rfl | trivial | exact fun h => h | exact fun h => (by rw [h]; rfl) | omega | assumption))))
                        refine GdO.mk _ (fun hg => by simp only [↓sxd, sxu, ↓exq, ↓zB, ↓zL, Nat.reduceBEq, sxe, tysH33_5, hg]; (repeat' (first | rfl | exact trivial | exact fun h => h | exact fun h => (by rw [h]; rfl) | apply And.intro | omega | exact Nat.le_of_ble_eq_true rfl))) ?_
                        simp only [↓sxd, sxu, ↓zE, ↓exq, ↓zI, Nat.reduceBEq, Nat.reduceLT]
                      (repeat' (first | rfl | exact trivial | exact fun h => h | exact fun h => (by rw [h]; rfl) | apply And.intro | omega | exact Nat.le_of_ble_eq_true rfl))) ?_
                  refine Tr.cond rfl (fun h226 => ?_) (fun h226 => ?_)
                  · rw [hYl] at h226; simp at h226
                  · refine Tr.skip ?_
                    refine Tr.seq ?_
                    refine Tr.reg [7, 8, 9, 24, 26] (by
                        simp only [↓sxd, sxu, ↓zE, ↓exq, St.keep, Nat.reduceBEq, Nat.reduceLT]
                        (repeat' (first | rfl | exact trivial | exact fun h => h | exact fun h => (by rw [h]; rfl) | apply And.intro | omega | exact Nat.le_of_ble_eq_true rfl))) ?_
                    refine Tr.imp (st' := ⟨[(7, I t.n), (8, I t.m), (9, SRL R), (24, SRL Y), (26, I 0)], [(0, tbx (trT t))], 1, 253, [], 0⟩) (Imp.keepAll) (Tr.block (Tr.loopI (fun mm ss => ∃ (r : Nat), (r ≤ t.n) ∧ t.n - r = mm ∧ ss = ⟨[(7, I t.n), (8, I t.m), (9, SRL R), (24, SRL Y), (26, I r)], [(0, tbx (trT t))], 1, 253, [], 0⟩) _ ⟨0, ?_, rfl, rfl⟩ ?_))
                    · exact Nat.zero_le _
                    rintro mm ss ⟨r, hI, rfl, rfl⟩
                    refine Tr.seq ?_
                    refine Tr.reg [7, 8, 9, 24, 26, 229] (by
                        simp only [↓sxd, sxu, ↓zE, ↓exq, St.keep, Nat.reduceBEq, Nat.reduceLT, sxe]
                        (repeat' (first | rfl | exact trivial | exact fun h => h | exact fun h => (by rw [h]; rfl) | apply And.intro | omega | exact Nat.le_of_ble_eq_true rfl))) ?_
                    refine Tr.cond rfl (fun h229 => ?_) (fun h229 => ?_)
                    · have hr : r < t.n := by simpa using h229
                      refine Tr.skip ?_
                      refine Tr.seq ?_
                      refine Tr.block ?_
                      refine Tr.reg [7, 8, 9, 24, 26, 27] (by
                          simp only [↓sxd, sxu, ↓zE, ↓exq, St.keep, Nat.reduceBEq, Nat.reduceLT]
                          (repeat' (first | rfl | exact trivial | exact fun h => h | exact fun h => (by rw [h]; rfl) | apply And.intro | omega | exact Nat.le_of_ble_eq_true rfl))) ?_
                      refine Tr.imp (st' := ⟨[(7, I t.n), (8, I t.m), (9, SRL R), (24, SRL Y), (26, I r), (27, I 0)], [(0, tbx (trT t))], 1, 253, [], 0⟩) (Imp.keepAll) (Tr.block (Tr.loopI (fun mm ss => ∃ (c : Nat), (c ≤ t.m) ∧ t.m - c = mm ∧ ss = ⟨[(7, I t.n), (8, I t.m), (9, SRL R), (24, SRL Y), (26, I r), (27, I c)], [(0, tbx (trT t))], 1, 253, [], 0⟩) _ ⟨0, ?_, rfl, rfl⟩ ?_))
                      · exact Nat.zero_le _
                      rintro mm ss ⟨c, hI, rfl, rfl⟩
                      refine Tr.seq ?_
                      refine Tr.reg [7, 8, 9, 24, 26, 27, 234] (by
                          simp only [↓sxd, sxu, ↓zE, ↓exq, St.keep, Nat.reduceBEq, Nat.reduceLT, sxe]
                          (repeat' (first | rfl | exact trivial | exact fun h => h | exact fun h => (by rw [h]; rfl) | apply And.intro | omega | exact Nat.le_of_ble_eq_true rfl))) ?_
                      refine Tr.cond rfl (fun h234 => ?_) (fun h234 => ?_)
                      · have hc : c < t.m := by simpa using h234
                        have hg1 := hRg r c hr hc
                        have hg2 := hYg r c hr hc
                        have hl1 : c < (R.getD r []).length := by rw [hRr r hr]; exact hc
                        have hl2 : r < R.length := by rw [hRl]; exact hr
                        have hl3 : r < (Y.getD c []).length := by rw [hYr c hc]; exact hr
                        have hl4 : c < Y.length := by rw [hYl]; exact hc
                        refine Tr.skip ?_
                        refine Tr.seq ?_
                        refine Tr.block ?_
                        refine Tr.regD [0, 1, 2, 3, 4, 5, 6, 7, 8, 9, 10, 11, 12, 13, 14] [] [] [7, 8, 9, 24, 26, 27, 251] mix (by kernel_rfl) (by
                            simp only [↓sxd, sxu, ↓zC, zH, ↓exq, St.keep, ↓zD, Nat.reduceBEq, Nat.reduceAdd, Nat.reduceLT, sxe, tysH33_5, hl1, hl2, hl3, hl4, hg1, hg2]
                            exact ⟨[(t.w l).lo r c, (t.w l).hi r c], [(t.w l).lo r c, (t.w l).hi r c], rfl, rfl, rfl, eqRange, rfl⟩) ?_
                        refine Tr.cond rfl (fun h251 => ?_) (fun h251 => ?_)
                        · simp at h251
                        · refine Tr.skip ?_
                          have w1 := add1 (show c < 4611686018427387904 by omega)
                          refine Tr.reg1 [7, 8, 9, 24, 26, 27] (by
                              simp only [↓sxd, sxu, ↓zE, ↓exq, St.keep, Nat.reduceBEq, Nat.reduceLT, w1]
                              (repeat' (first | rfl | exact trivial | exact fun h => h | exact fun h => (by rw [h]; rfl) | apply And.intro | omega | exact Nat.le_of_ble_eq_true rfl))) ?_
                          exact ⟨_, _, by omega, Imp.keepAll, ⟨c + 1, hc, rfl, rfl⟩⟩
                      · have hc : c = t.m := by have := of_decide_eq_false h234; omega
                        refine Tr.exit ?_
                        have w1 := add1 (show r < 4611686018427387904 by omega)
                        refine Tr.reg1 [7, 8, 9, 24, 26] (by
                            simp only [↓sxd, sxu, ↓zE, ↓exq, St.keep, Nat.reduceBEq, Nat.reduceLT, w1]
                            (repeat' (first | rfl | exact trivial | exact fun h => h | exact fun h => (by rw [h]; rfl) | apply And.intro | omega | exact Nat.le_of_ble_eq_true rfl))) ?_
                        exact ⟨_, _, by omega, Imp.keepAll, ⟨r + 1, hr, rfl, rfl⟩⟩
                    · have hr : r = t.n := by have := of_decide_eq_false h229; omega
                      refine Tr.exit ?_
                      refine Tr.reg [6] (by
                          simp only [↓sxd, sxu, ↓zE, St.keep, Nat.reduceLT]
                          (repeat ((with_reducible refine And.intro ?_ ?_); (focus (first | with_reducible rfl | trivial | exact fun h => h | exact fun h => (by rw [h]; rfl) | omega | assumption))))
                          refine CallO.use (awake_c) ?_
                          try simp only [↓sxd, sxu, ↓zE, ↓exq, Nat.reduceLT]
                          (repeat' (first | rfl | exact trivial | exact fun h => h | exact fun h => (by rw [h]; rfl) | apply And.intro | omega | exact Nat.le_of_ble_eq_true rfl))) ?_
                      refine Tr.ret ?_
                      (refine ⟨.inr rfl, ?_⟩; first | rfl | exact ⟨rfl, rfl, trivial⟩ | exact ⟨rfl, rfl, rfl, trivial⟩ | (simp only [Res, ResL, ResOK, ↓sxd, sxu, ↓zE, ↓zC, zH, ↓exP, ↓exq, ↓zB, St.keep, ↓zI, ↓zW, ↓zJ, ↓zL, ↓zD, ↓zK, ↓zM, ↓zN, ↓zO, ↓zG, ↓zQ, ↓zV, ↓zA, sbnd, Nat.reduceBEq, Nat.reduceAdd, Nat.reduceLT, Nat.reduceMul, Nat.reduceSub, Nat.reduceLeDiff, Nat.reduceEqDiff, Int.reduceLE, Int.reduceLT, Int.reduceToNat, reduceIte, implies_true, sxe, tysH33_5]; (repeat' (first | rfl | exact trivial | exact fun h => h | exact fun h => (by rw [h]; rfl) | apply And.intro | omega | exact Nat.le_of_ble_eq_true rfl))))
end Go.Proofs.Ytijechcadlklhaa
