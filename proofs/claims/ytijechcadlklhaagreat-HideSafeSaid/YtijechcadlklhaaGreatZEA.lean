/- Lemmas, part ZEA. Conditions: none. -/
import Derived.Test.YtijechcadlklhaaGreatZABC
set_option linter.unusedVariables false
namespace Go.Proofs.YtijechcadlklhaaGreat
theorem subB_filter (p : HC → Bool) : ∀ F : List HC, ∃ b, b < 2 ^ F.length ∧ subB F b = F.filter p
  | [] => ⟨0, by simp, rfl⟩
  | x :: F => by
    obtain ⟨b, hb, e⟩ := subB_filter p F
    refine ⟨2 * b + (p x).toNat, ?_, ?_⟩
    · rw [List.length_cons, Nat.pow_succ]
      cases p x <;> simp <;> omega
    · rw [subB_cons]
      have h2 : (2 * b + (p x).toNat) / 2 = b := by cases p x <;> simp <;> omega
      have h0 : (2 * b + (p x).toNat).testBit 0 = p x := by cases p x <;> simp [Nat.testBit_zero]
      rw [h2, h0, e]
      cases hp : p x <;> simp [hp]
theorem subB_all (F : List HC) : ∃ b, b < 2 ^ F.length ∧ subB F b = F := by
  obtain ⟨b, hb, e⟩ := subB_filter (fun _ => true) F
  exact ⟨b, hb, by rw [e]; simp⟩
theorem bestG_law {F : List HC} {g : List HC → Bool} {W : List HC → List HC} : ∀ (r many : Nat), (∀ b, b < 2 ^ F.length → g (subB F b) = true → many ≤ (subB F b).length) → (∃ b, b < 2 ^ F.length ∧ g (subB F b) = true ∧ (subB F b).length < many + r) →
    ∃ b, b < 2 ^ F.length ∧ g (subB F b) = true ∧ bestG F g W r many = subB F b ∧
      ∀ b', b' < 2 ^ F.length → g (subB F b') = true → (subB F b).length < (subB F b').length ∨ ((subB F b).length = (subB F b').length ∧ cmpLS (W (subB F b)) (W (subB F b')) ≤ 0)
  | 0, many, h1, ⟨b, hb, hg, hl⟩ => by have := h1 b hb hg; omega
  | r + 1, many, h1, ⟨b0, hb0, hg0, hl0⟩ => by
    have hi := inner_law (F := F) (g := g) (W := W) (many := many) (2 ^ F.length)
    rw [bestG]
    cases his : (innerB F g W many (2 ^ F.length)).2 with
    | true =>
      obtain ⟨b, e1, e2, e3, e4, e5⟩ := hi.2 his
      rw [if_pos rfl]
      refine ⟨b, e1, e3, e4, fun b' hb' hg' => ?_⟩
      have := h1 b' hb' hg'
      by_cases e : (subB F b').length = many
      · exact .inr ⟨by omega, e5 b' hb' e hg'⟩
      · exact .inl (by omega)
    | false =>
      rw [if_neg (by simp)]
      refine bestG_law r (many + 1) (fun b hb hg => ?_) ⟨b0, hb0, hg0, by omega⟩
      have := h1 b hb hg
      have := (hi.1 his).2 b hb
      have hne : (subB F b).length ≠ many := fun e => this ⟨e, hg⟩
      omega
end Go.Proofs.YtijechcadlklhaaGreat
namespace Go.Proofs.YtijechcadlklhaaGreat
section
variable {t : HT} {l : List HC}
def HT.good (t : HT) (S : List HC) (q : List HQ) : Bool := (t.w S).good q
structure HT.Least (t : HT) (l : List HC) (q : List HQ) (S : List HC) : Prop where
  ok : HidOk t.n t.m S
  sub : ∀ c ∈ l, c ∈ S
  good : t.good S q = true
  least : ∀ S', HidOk t.n t.m S' → (∀ c ∈ l, c ∈ S') → t.good S' q = true → S.length < S'.length ∨ (S.length = S'.length ∧ cmpLS S S' ≤ 0)
theorem free_sub_eq (h : t.pub l = 0) {S : List HC} (hS : HidOk t.n t.m S) (hsub : ∀ c ∈ l, c ∈ S) : (t.w l).with ((t.w l).free.filter fun c => S.contains c) = S := by
  obtain ⟨h3, h4, hl, h0⟩ := pub_dims h
  have hw := with_ok h (s := (t.w l).free.filter fun c => S.contains c) List.filter_sublist
  refine HidOk.ext hw.1 hS h4 fun c => ?_
  rw [hw.2.1 c, List.mem_filter, List.contains_iff_mem, mem_free h]
  constructor
  · rintro (h' | h')
    · exact h'.2
    · exact hsub c h'
  · intro hc
    by_cases hcl : c ∈ l
    · exact .inr hcl
    · exact .inl ⟨⟨mem_gridC.2 (hS.cell c hc), hcl⟩, hc⟩
theorem free_with (h : t.pub l = 0) : (t.w l).with (t.w l).free = gridC t.n t.m := by
  obtain ⟨h3, h4, hl, h0⟩ := pub_dims h
  have hw := with_ok h (s := (t.w l).free) (List.Sublist.refl _)
  refine HidOk.ext hw.1 (gridC_ok h4) h4 fun c => ?_
  rw [hw.2.1 c, mem_free h]
  constructor
  · rintro (h' | h')
    · exact h'.1
    · exact mem_gridC.2 (hl.cell c h')
  · intro hc
    by_cases hcl : c ∈ l
    · exact .inr hcl
    · exact .inl ⟨hc, hcl⟩
theorem hide_law (h : t.pub l = 0) (q : List HQ) : (t.good (gridC t.n t.m) q = false ∧ t.hide l q = ([], 11)) ∨ (t.good (gridC t.n t.m) q = true ∧ ∃ S, t.hide l q = (S, 0) ∧ t.Least l q S) := by
  obtain ⟨h3, h4, hl, h0⟩ := pub_dims h
  have e : ((t.w l).mark (t.w l).free true).good q = t.good (gridC t.n t.m) q := by
    rw [mark_with h (List.Sublist.refl _), free_with h]; rfl
  unfold HT.hide
  rw [e]
  cases hg : t.good (gridC t.n t.m) q with
  | false => exact .inl ⟨rfl, by simp⟩
  | true =>
    refine .inr ⟨rfl, _, by rw [if_pos rfl], ?_⟩
    have gg : ∀ b, ((t.w l).mark (subB (t.w l).free b) true).good q = t.good ((t.w l).with (subB (t.w l).free b)) q := fun b => by
      rw [mark_with h (subB_sublist _ _)]; rfl
    obtain ⟨b0, hb0, eb0⟩ := subB_all (t.w l).free
    obtain ⟨b, hb, hgb, heq, hmin⟩ := bestG_law (F := (t.w l).free) (g := fun s => ((t.w l).mark s true).good q) (W := (t.w l).with) ((t.w l).free.length + 1) 0 (fun _ _ _ => Nat.zero_le _)
      ⟨b0, hb0, by show ((t.w l).mark (subB (t.w l).free b0) true).good q = true; rw [eb0, e, hg], by rw [eb0]; omega⟩
    have hw := with_ok h (subB_sublist (t.w l).free b)
    show t.Least l q ((t.w l).with (bestG (t.w l).free (fun s => ((t.w l).mark s true).good q) (t.w l).with ((t.w l).free.length + 1) 0))
    rw [heq]
    refine ⟨hw.1, fun c hc => (hw.2.1 c).2 (.inr hc), by rw [← gg]; exact hgb, fun S' hS' hsub' hg' => ?_⟩
    obtain ⟨b', hb', eb'⟩ := subB_filter (fun c => S'.contains c) (t.w l).free
    have hS'e := free_sub_eq h hS' hsub'
    rw [← eb'] at hS'e
    have := hmin b' hb' (by
      show ((t.w l).mark (subB (t.w l).free b') true).good q = true
      rw [gg, hS'e]; exact hg')
    rw [hS'e] at this
    have hw' := with_ok h (subB_sublist (t.w l).free b')
    rw [hS'e] at hw'
    rw [hw.2.2, hw'.2.2]
    omega
end
def setR (n m bits : Nat) : List HC := (gridC n m).filter fun c => bits.testBit (c.row.toNat * m + c.col.toNat)
def bitsTo (m : Nat) (l : List HC) : Nat → Nat
  | 0 => 0
  | k + 1 => bitsTo m l k ||| 2 ^ ((l.getD k default).row.toNat * m + (l.getD k default).col.toNat)
def bitsR (m : Nat) (l : List HC) : Nat := bitsTo m l l.length
theorem setR_ok {n m : Nat} (hm : m ≤ 4) (b : Nat) : HidOk n m (setR n m b) := (gridC_ok hm).filter _
theorem mem_setR {n m b : Nat} {c : HC} : c ∈ setR n m b ↔ c ∈ gridC n m ∧ b.testBit (c.row.toNat * m + c.col.toNat) = true := List.mem_filter
theorem idx_inj {m a b c d : Nat} (hb : b < m) (hd : d < m) (h : a * m + b = c * m + d) : a = c ∧ b = d := by
  have h1 : (a * m + b) / m = a := by rw [Nat.mul_comm, Nat.mul_add_div (by omega), Nat.div_eq_of_lt hb]; omega
  have h2 : (c * m + d) / m = c := by rw [Nat.mul_comm, Nat.mul_add_div (by omega), Nat.div_eq_of_lt hd]; omega
  rw [h, h2] at h1
  subst h1
  omega
theorem bitsTo_test (m : Nat) (l : List HC) (j : Nat) : ∀ k, (bitsTo m l k).testBit j = true ↔ ∃ i, i < k ∧ (l.getD i default).row.toNat * m + (l.getD i default).col.toNat = j
  | 0 => by simp [bitsTo]
  | k + 1 => by
    rw [bitsTo, Nat.testBit_or, Bool.or_eq_true, bitsTo_test m l j k, Nat.testBit_two_pow, decide_eq_true_eq]
    constructor
    · rintro (⟨i, hi, h⟩ | h)
      · exact ⟨i, by omega, h⟩
      · exact ⟨k, by omega, h⟩
    · rintro ⟨i, hi, h⟩
      by_cases e : i = k
      · subst e; exact .inr h
      · exact .inl ⟨i, by omega, h⟩
theorem bitsR_test {n m : Nat} {l : List HC} (hl : HidOk n m l) {c : HC} (hc : c ∈ gridC n m) : (bitsR m l).testBit (c.row.toNat * m + c.col.toNat) = true ↔ c ∈ l := by
  have hb := mem_gridC.1 hc
  unfold bitsR
  rw [bitsTo_test]
  constructor
  · rintro ⟨i, hi, h⟩
    have hm := getD_mem' (default : HC) hi
    have hb' := hl.cell _ hm
    have := idx_inj (by omega) (by omega) h
    have e : l.getD i default = c := by
      cases hx : l.getD i default with
      | mk a b =>
        rw [hx] at this hb'
        cases c
        simp only at this hb hb'
        congr 1 <;> omega
    rwa [e] at hm
  · intro h
    obtain ⟨i, hi, e⟩ := mem_getD' h
    exact ⟨i, hi, by rw [e]⟩
theorem setR_bits {n m : Nat} {l : List HC} (hl : HidOk n m l) (hm : m ≤ 4) : setR n m (bitsR m l) = l := by
  refine HidOk.ext (setR_ok hm _) hl hm fun c => ?_
  rw [mem_setR]
  constructor
  · rintro ⟨h1, h2⟩; exact (bitsR_test hl h1).1 h2
  · intro h
    have hg := mem_gridC.2 (hl.cell c h)
    exact ⟨hg, (bitsR_test hl hg).2 h⟩
theorem idx_lt {n m : Nat} {c : HC} (hc : c ∈ gridC n m) : c.row.toNat * m + c.col.toNat < n * m := by
  have hb := mem_gridC.1 hc
  have h1 : c.row.toNat + 1 ≤ n := by omega
  have := Nat.mul_le_mul_right m h1
  rw [Nat.add_mul] at this
  omega
theorem setR_all {n m : Nat} (hm : m ≤ 4) : setR n m (2 ^ (n * m) - 1) = gridC n m := by
  refine HidOk.ext (setR_ok hm _) (gridC_ok hm) hm fun c => ?_
  rw [mem_setR, Nat.testBit_two_pow_sub_one]
  constructor
  · exact fun h => h.1
  · exact fun h => ⟨h, by simpa using idx_lt h⟩
theorem bitsR_lt {n m : Nat} {l : List HC} (hl : HidOk n m l) : bitsR m l < 2 ^ (n * m) := by
  refine Nat.lt_pow_two_of_testBit _ fun j hj => ?_
  cases h : (bitsR m l).testBit j
  · rfl
  · obtain ⟨i, hi, e⟩ := (bitsTo_test m l j l.length).1 h
    have := idx_lt (n := n) (m := m) (mem_gridC.2 (hl.cell _ (getD_mem' default hi)))
    omega
theorem and_given {n m : Nat} {l : List HC} (hl : HidOk n m l) (k : Nat) : k &&& bitsR m l = bitsR m l ↔ ∀ c ∈ l, c ∈ setR n m k := by
  constructor
  · intro h c hc
    have hg := mem_gridC.2 (hl.cell c hc)
    refine mem_setR.2 ⟨hg, ?_⟩
    have h1 := (bitsR_test hl hg).2 hc
    rw [← h, Nat.testBit_and, Bool.and_eq_true] at h1
    exact h1.1
  · intro h
    refine Nat.eq_of_testBit_eq fun j => ?_
    rw [Nat.testBit_and]
    cases hb : (bitsR m l).testBit j
    · simp
    · obtain ⟨i, hi, e⟩ := (bitsTo_test m l j l.length).1 hb
      have := (mem_setR.1 (h _ (getD_mem' default hi))).2
      rw [e] at this
      rw [this]
      rfl
end Go.Proofs.YtijechcadlklhaaGreat
namespace Go.Proofs.YtijechcadlklhaaGreat
open Go.Sy
set_option maxRecDepth 8000
abbrev tysH31_22 := And.intro ty.sz0 <| And.intro ty.agg0 <| And.intro ty.elem0 <| And.intro ty.sz4 <| And.intro ty.agg4 <| And.intro ty.elem4 <| And.intro ty.zero4 <| And.intro ty.und4 <| And.intro ty.sz24 <| And.intro ty.agg24 <| And.intro ty.fld24_0 <| And.intro ty.fld24_1 <| And.intro ty.elem24 <| And.intro ty.zero24 <| And.intro ty.pl24 <| And.intro ty.sz25 <| And.intro ty.agg25 <| And.intro ty.elem25 <| And.intro ty.by25 <| And.intro ty.ez25 <| And.intro ty.zero25 <| And.intro ty.und25 <| And.intro ty.sz29 <| And.intro ty.agg29 <| And.intro ty.elem29 <| And.intro ty.zero29 <| ty.und29
theorem bit_eq {b n : Nat} (hb : b < 18446744073709551616) : (((b : Int).fdiv (2 ^ min n IntKind.i64.bits)).tmod 2 == 1) = b.testBit n := by
  rw [bit_i hb, bitI_test]
  cases b.testBit n <;> rfl
abbrev tysH31_23 := And.intro ty.sz0 <| And.intro ty.agg0 <| And.intro ty.elem0 <| And.intro ty.sz3 <| And.intro ty.agg3 <| And.intro ty.elem3 <| And.intro ty.zero3 <| And.intro ty.und3 <| And.intro ty.sz4 <| And.intro ty.agg4 <| And.intro ty.elem4 <| And.intro ty.zero4 <| And.intro ty.und4 <| And.intro ty.sz22 <| And.intro ty.agg22 <| And.intro ty.elem22 <| And.intro ty.by22 <| And.intro ty.ez22 <| And.intro ty.zero22 <| And.intro ty.und22 <| And.intro ty.sz24 <| And.intro ty.agg24 <| And.intro ty.fld24_0 <| And.intro ty.fld24_1 <| And.intro ty.elem24 <| And.intro ty.zero24 <| And.intro ty.pl24 <| And.intro ty.sz25 <| And.intro ty.agg25 <| And.intro ty.elem25 <| And.intro ty.by25 <| And.intro ty.ez25 <| And.intro ty.zero25 <| And.intro ty.und25 <| And.intro ty.sz41 <| And.intro ty.agg41 <| And.intro ty.fld41_0 <| And.intro ty.fld41_1 <| And.intro ty.elem41 <| And.intro ty.zero41 <| And.intro ty.pl41 <| And.intro ty.sz44 <| And.intro ty.agg44 <| And.intro ty.elem44 <| And.intro ty.by44 <| And.intro ty.ez44 <| And.intro ty.zero44 <| And.intro ty.und44 <| And.intro ty.sz54 <| And.intro ty.agg54 <| And.intro ty.elem54 <| And.intro ty.zero54 <| ty.und54
theorem Set_c (t : HT) (b : Nat) (hb : b < 4611686018427387904) (h0 : t.check = 0) : CallP Tryz.prog G0 23 [t.s, I (b : Nat)] (SC (setR t.n t.m b)) := by
  have ho := HT.check_ok h0
  change t.Ok t.n t.m at ho
  have hn3 := ho.n3
  have hm4 := ho.m4
  have hnn : t.rows.length = t.n := rfl
  have hmm : (t.rows.getD 0 []).length = t.m := rfl
  have hn0 := ho.n0
  obtain ⟨p, hp⟩ : ∃ p : HC → Bool, p = fun c => b.testBit (c.row.toNat * t.m + c.col.toNat) := ⟨_, rfl⟩
  obtain ⟨L, hL⟩ : ∃ L, L = selC p t.n t.m (0 * t.m) := ⟨_, rfl⟩
  have hLl : L.length ≤ 12 := by rw [hL]; exact sel_len hn3 hm4
  rw [show setR t.n t.m b = L by rw [hL, sel_zero, hp]; rfl]
  have hr0 : 0 < t.rows.length := by omega
  have hbd := fun n : Nat => bit_eq (b := b) (n := n) (by omega)
  generalize t.n = n at *
  generalize t.m = m at *
  refine CallP.body 40 [.tmp 4] Tryz.func23 (by kernel_rfl) rfl rfl rfl (by repeat' (first | exact Pure.d _ | exact Pure.dx _ | exact Pure.dp _ | exact fa_nil | refine fa_cons ?_ ?_ | refine Pure.agg ?_ | refine Pure.tup ?_ | refine Pure.clo ?_ ?_ | refine Pure.fp ?_ | exact Pure.mapd _ | assumption)) (by repeat' (first | exact Pure.d _ | exact Pure.dx _ | exact Pure.dp _ | exact fa_nil | refine fa_cons ?_ ?_ | refine Pure.agg ?_ | refine Pure.tup ?_ | refine Pure.clo ?_ ?_ | refine Pure.fp ?_ | exact Pure.mapd _ | assumption)) ?_
  refine Tr.reg [1, 2] (by
      simp only [↓sxd, sxu, ↓zE, ↓exq, St.keep, ↓zM, Nat.reduceBEq, Nat.reduceAdd, Nat.reduceLT, Nat.reduceEqDiff]
      (repeat' (first | rfl | exact trivial | exact fun h => h | exact fun h => (by rw [h]; rfl) | apply And.intro | omega | exact Nat.le_of_ble_eq_true rfl))) ?_
  refine Tr.reg [1, 2, 5] (by
      simp only [↓sxd, sxu, ↓zE, ↓exq, St.keep, Nat.reduceBEq, Nat.reduceLT]
      (repeat' (first | rfl | exact trivial | exact fun h => h | exact fun h => (by rw [h]; rfl) | apply And.intro | omega | exact Nat.le_of_ble_eq_true rfl))) ?_
  refine Tr.reg [1, 2, 5, 6] (by
      simp only [↓sxd, sxu, ↓zE, ↓exq, St.keep, Nat.reduceBEq, Nat.reduceLT]
      (repeat' (first | rfl | exact trivial | exact fun h => h | exact fun h => (by rw [h]; rfl) | apply And.intro | omega | exact Nat.le_of_ble_eq_true rfl))) ?_
  refine Tr.seq ?_
  refine Tr.reg [1, 2, 5, 6, 7] (by
      simp only [↓sxd, sxu, ↓zE, ↓exq, St.keep, Nat.reduceBEq, Nat.reduceLT]
      (repeat' (first | rfl | exact trivial | exact fun h => h | exact fun h => (by rw [h]; rfl) | apply And.intro | omega | exact Nat.le_of_ble_eq_true rfl))) ?_
  refine Tr.imp (st' := ⟨[(1, I (b : Nat)), (2, .ptr 0 0 0), (5, .slc 1 2 0 [].length [].length), (6, I ((0 * m : Nat) : Int)), (7, I 0)], [(1, .arr 2 (vC [])), (0, tbx t)], 2, 40, [], 0⟩) (by rw [Nat.zero_mul]; exact Imp.goV 2 rfl rfl rfl rfl (by repeat' (first | exact trivial | exact F2.nil | refine F2.cons ?_ ?_ | refine TmV.cons rfl VnS.nil ?_ | refine TmV.cons rfl VnS.same ?_ | refine ⟨rfl, ?_⟩ | exact VnO.same _ | refine VnO.arr ?_ | exact VnS.nil | exact VnS.same | exact F2.refl fun _ _ => VnS.same)) (F2.refl fun _ _ => ⟨rfl, VnO.same _⟩)) (Tr.block (Tr.loopI (fun mm ss => ∃ (r : Nat) (l : List HC), (r ≤ n ∧ l ++ selC p n m (r * m) = L) ∧ n - r = mm ∧ ss = ⟨[(1, I (b : Nat)), (2, .ptr 0 0 0), (5, .slc 1 2 0 l.length l.length), (6, I ((r * m : Nat) : Int)), (7, I r)], [(1, .arr 2 (vC l)), (0, tbx t)], 2, 40, [], 0⟩) _ ⟨0, [], ?_, rfl, rfl⟩ ?_))
  · exact ⟨Nat.zero_le _, hL.symm⟩
  rintro mm ss ⟨r, l, hI, rfl, rfl⟩
  obtain ⟨hrn, hsel⟩ := hI
  refine Tr.seq ?_
  refine Tr.reg [1, 2, 5, 6, 7, 13] (by
      simp only [↓sxd, sxu, ↓zE, ↓exq, ↓zA, St.keep, ↓zK, ↓zD, ↓zC, Nat.reduceBEq, Nat.reduceAdd, Nat.reduceLT, Nat.reduceEqDiff, sxe, tysH31_23]
      (repeat' (first | rfl | exact trivial | exact fun h => h | exact fun h => (by rw [h]; rfl) | apply And.intro | omega | exact Nat.le_of_ble_eq_true rfl))) ?_
  refine Tr.cond rfl (fun h13 => ?_) (fun h13 => ?_)
  · have hr : r < n := by rw [hnn] at h13; simpa using h13
    refine Tr.skip ?_
    refine Tr.seq ?_
    refine Tr.block ?_
    refine Tr.reg [1, 2, 5, 6, 7, 8] (by
        simp only [↓sxd, sxu, ↓zE, ↓exq, St.keep, Nat.reduceBEq, Nat.reduceLT]
        (repeat' (first | rfl | exact trivial | exact fun h => h | exact fun h => (by rw [h]; rfl) | apply And.intro | omega | exact Nat.le_of_ble_eq_true rfl))) ?_
    refine Tr.imp (st' := ⟨[(1, I (b : Nat)), (2, .ptr 0 0 0), (5, .slc 1 2 0 l.length l.length), (6, I ((r * m + 0 : Nat) : Int)), (7, I r), (8, I 0)], [(1, .arr 2 (vC l)), (0, tbx t)], 2, 40, [], 0⟩) (Imp.keepAll) (Tr.block (Tr.loopI (fun mm ss => ∃ (c : Nat) (l2 : List HC), (c ≤ m ∧ l2 ++ selC p n m (r * m + c) = L) ∧ m - c = mm ∧ ss = ⟨[(1, I (b : Nat)), (2, .ptr 0 0 0), (5, .slc 1 2 0 l2.length l2.length), (6, I ((r * m + c : Nat) : Int)), (7, I r), (8, I c)], [(1, .arr 2 (vC l2)), (0, tbx t)], 2, 40, [], 0⟩) _ ⟨0, l, ?_, rfl, rfl⟩ ?_))
    · exact ⟨Nat.zero_le _, hsel⟩
    rintro mm ss ⟨c, l2, hI, rfl, rfl⟩
    obtain ⟨hcm, hsel2⟩ := hI
    refine Tr.seq ?_
    refine Tr.reg [1, 2, 5, 6, 7, 8, 22] (by
        simp only [↓sxd, sxu, ↓zE, ↓exq, ↓zA, St.keep, ↓zK, ↓zD, ↓zC, Nat.reduceBEq, Nat.reduceAdd, Nat.reduceLT, Nat.reduceEqDiff, Int.reduceLE, sxe, tysH31_23, hr0]
        (repeat' (first | rfl | exact trivial | exact fun h => h | exact fun h => (by rw [h]; rfl) | apply And.intro | omega | exact Nat.le_of_ble_eq_true rfl))) ?_
    refine Tr.cond rfl (fun h22 => ?_) (fun h22 => ?_)
    · have hc : c < m := by rw [hmm] at h22; simpa using h22
      have hll : l2.length ≤ 12 := by
        rw [← hsel2, List.length_append] at hLl; omega
      have hk2 : (l2.length + 1 ≤ 1073741824) = True := eq_true (by omega)
      have hrm : r * m ≤ 12 := Nat.le_trans (Nat.mul_le_mul (show r ≤ 3 by omega) hm4) (by decide)
      have hpe : p ⟨(r : Nat), (c : Nat)⟩ = b.testBit (r * m + c) := by rw [hp]; rfl
      have hcn : c + 1 ≤ m := hc
      refine Tr.skip ?_
      refine Tr.seq ?_
      refine Tr.block ?_
      refine Tr.seq ?_
      have u1 : IntKind.u64.wrap ((r * m + c : Nat) : Int) = ((r * m + c : Nat) : Int) := wu (by omega) (by omega)
      have hbe := hbd (r * m + c)
      refine Tr.reg [1, 2, 5, 6, 7, 8, 30] (by
          simp only [↓sxd, sxu, ↓zE, ↓exq, St.keep, ↓zW, Nat.reduceBEq, Nat.reduceLT, sxe, tysH31_23, u1, hbe]
          (repeat' (first | rfl | exact trivial | exact fun h => h | exact fun h => (by rw [h]; rfl) | apply And.intro | omega | exact Nat.le_of_ble_eq_true rfl))) ?_
      refine Tr.cond rfl (fun h30 => ?_) (fun h30 => ?_)
      · have hy : p ⟨(r : Nat), (c : Nat)⟩ = true := by rw [hpe]; exact h30
        rw [sel_yes (by omega) hc hy] at hsel2
        refine Tr.reg1 [1, 2, 5, 6, 7, 8] (by
            simp only [↓sxd, sxu, ↓zE, ↓exq, ↓zA, St.keep, ↓zQ, ↓zG, ↓zO, Nat.reduceBEq, Nat.reduceAdd, Nat.reduceLT, Nat.reduceLeDiff, Nat.reduceEqDiff, tysH31_23, vC_len, hk2]
            (repeat' (first | rfl | exact trivial | exact fun h => h | exact fun h => (by rw [h]; rfl) | apply And.intro | omega | exact Nat.le_of_ble_eq_true rfl))) ?_
        have w1 := add1 (show r * m + c < 4611686018427387904 by omega)
        refine Tr.reg1 [1, 2, 5, 6, 7, 8] (by
            simp only [↓sxd, sxu, ↓zE, ↓exq, St.keep, Nat.reduceBEq, Nat.reduceLT, w1]
            (repeat' (first | rfl | exact trivial | exact fun h => h | exact fun h => (by rw [h]; rfl) | apply And.intro | omega | exact Nat.le_of_ble_eq_true rfl))) ?_
        have w1 := add1 (show c < 4611686018427387904 by omega)
        refine Tr.reg1 [1, 2, 5, 6, 7, 8] (by
            simp only [↓sxd, sxu, ↓zE, ↓exq, St.keep, Nat.reduceBEq, Nat.reduceLT, w1]
            (repeat' (first | rfl | exact trivial | exact fun h => h | exact fun h => (by rw [h]; rfl) | apply And.intro | omega | exact Nat.le_of_ble_eq_true rfl))) ?_
        first
        | exact ⟨_, _, by omega, Imp.keepAll, ⟨c + 1, l2, ⟨hcn, hsel2⟩, rfl, rfl⟩⟩
        | (refine ⟨_, _, ?_, ?_, ⟨c + 1, l2 ++ [⟨(r : Nat), (c : Nat)⟩], ⟨hcn, by rw [List.append_assoc]; exact hsel2⟩, rfl, rfl⟩⟩
           · omega
           · rw [List.length_append, List.length_singleton, vC_snoc]
             exact Imp.go (fun i => if i = 0 then 0 else i + 1) _ rfl rfl (List.Sublist.refl _) (fun _ h => absurd h (Nat.not_lt_zero _)) (fun id h => by have h2 : 2 ≤ id := h; show 3 ≤ if id = 0 then 0 else id + 1; rw [if_neg (by omega)]; omega) (by repeat' (first | exact TmT.cons rfl (TnS.d _) ?_ | exact trivial | exact F2.nil | refine F2.append ?_ ?_ | refine F2.map fun _ _ => ?_ | refine F2.cons ?_ ?_ | refine TmT.cons rfl ?_ ?_ | exact TnS.d _ | exact TnS.dx _ | exact TnS.dp _ | exact TnS.slc rfl | exact TnS.ptr rfl | refine TnS.frzf rfl (by simp) (by simp) (by simp) ?_ | refine TnS.frz0 rfl (by simp) (by simp) (by simp) ?_ | refine TnS.frzm rfl (by simp) ?_ | exact TnS.mapr rfl | exact TnS.yld rfl | refine ⟨rfl, ?_⟩ | refine TnO.arr ?_ | refine TnO.map ?_ | exact TnO.raw _ | exact TnO.iter _ _ | refine TnS.agg ?_ | refine TnS.tup ?_ | exact TnS.pure (Pure.clo (by assumption) (by assumption)) | refine TnS.clo ?_ ?_ | exact TnS.unk _ | exact TnS.pure (Pure.clo (by assumption) (by assumption)))) (.cons ⟨rfl, TnO.arr (F2.append (vC_tn _) (.cons (.cons (TnS.d _) (.cons (TnS.d _) .nil)) .nil))⟩ (.cons ⟨rfl, TnO.arr (by repeat' (first | exact TmT.cons rfl (TnS.d _) ?_ | exact trivial | exact F2.nil | refine F2.append ?_ ?_ | refine F2.map fun _ _ => ?_ | refine F2.cons ?_ ?_ | refine TmT.cons rfl ?_ ?_ | exact TnS.d _ | exact TnS.dx _ | exact TnS.dp _ | exact TnS.slc rfl | exact TnS.ptr rfl | refine TnS.frzf rfl (by simp) (by simp) (by simp) ?_ | refine TnS.frz0 rfl (by simp) (by simp) (by simp) ?_ | refine TnS.frzm rfl (by simp) ?_ | exact TnS.mapr rfl | exact TnS.yld rfl | refine ⟨rfl, ?_⟩ | refine TnO.arr ?_ | refine TnO.map ?_ | exact TnO.raw _ | exact TnO.iter _ _ | refine TnS.agg ?_ | refine TnS.tup ?_ | exact TnS.pure (Pure.clo (by assumption) (by assumption)) | refine TnS.clo ?_ ?_ | exact TnS.unk _ | exact TnS.pure (Pure.clo (by assumption) (by assumption))))⟩ .nil)) (fun h => h))
      · have hy : p ⟨(r : Nat), (c : Nat)⟩ = false := by rw [hpe]; exact h30
        rw [sel_no (by omega) hc hy] at hsel2
        refine Tr.skip ?_
        have w1 := add1 (show r * m + c < 4611686018427387904 by omega)
        refine Tr.reg1 [1, 2, 5, 6, 7, 8] (by
            simp only [↓sxd, sxu, ↓zE, ↓exq, St.keep, Nat.reduceBEq, Nat.reduceLT, w1]
            (repeat' (first | rfl | exact trivial | exact fun h => h | exact fun h => (by rw [h]; rfl) | apply And.intro | omega | exact Nat.le_of_ble_eq_true rfl))) ?_
        have w1 := add1 (show c < 4611686018427387904 by omega)
        refine Tr.reg1 [1, 2, 5, 6, 7, 8] (by
            simp only [↓sxd, sxu, ↓zE, ↓exq, St.keep, Nat.reduceBEq, Nat.reduceLT, w1]
            (repeat' (first | rfl | exact trivial | exact fun h => h | exact fun h => (by rw [h]; rfl) | apply And.intro | omega | exact Nat.le_of_ble_eq_true rfl))) ?_
        first
        | exact ⟨_, _, by omega, Imp.keepAll, ⟨c + 1, l2, ⟨hcn, hsel2⟩, rfl, rfl⟩⟩
        | (refine ⟨_, _, ?_, ?_, ⟨c + 1, l2 ++ [⟨(r : Nat), (c : Nat)⟩], ⟨hcn, by rw [List.append_assoc]; exact hsel2⟩, rfl, rfl⟩⟩
           · omega
           · rw [List.length_append, List.length_singleton, vC_snoc]
             exact Imp.go (fun i => if i = 0 then 0 else i + 1) _ rfl rfl (List.Sublist.refl _) (fun _ h => absurd h (Nat.not_lt_zero _)) (fun id h => by have h2 : 2 ≤ id := h; show 3 ≤ if id = 0 then 0 else id + 1; rw [if_neg (by omega)]; omega) (by repeat' (first | exact TmT.cons rfl (TnS.d _) ?_ | exact trivial | exact F2.nil | refine F2.append ?_ ?_ | refine F2.map fun _ _ => ?_ | refine F2.cons ?_ ?_ | refine TmT.cons rfl ?_ ?_ | exact TnS.d _ | exact TnS.dx _ | exact TnS.dp _ | exact TnS.slc rfl | exact TnS.ptr rfl | refine TnS.frzf rfl (by simp) (by simp) (by simp) ?_ | refine TnS.frz0 rfl (by simp) (by simp) (by simp) ?_ | refine TnS.frzm rfl (by simp) ?_ | exact TnS.mapr rfl | exact TnS.yld rfl | refine ⟨rfl, ?_⟩ | refine TnO.arr ?_ | refine TnO.map ?_ | exact TnO.raw _ | exact TnO.iter _ _ | refine TnS.agg ?_ | refine TnS.tup ?_ | exact TnS.pure (Pure.clo (by assumption) (by assumption)) | refine TnS.clo ?_ ?_ | exact TnS.unk _ | exact TnS.pure (Pure.clo (by assumption) (by assumption)))) (.cons ⟨rfl, TnO.arr (F2.append (vC_tn _) (.cons (.cons (TnS.d _) (.cons (TnS.d _) .nil)) .nil))⟩ (.cons ⟨rfl, TnO.arr (by repeat' (first | exact TmT.cons rfl (TnS.d _) ?_ | exact trivial | exact F2.nil | refine F2.append ?_ ?_ | refine F2.map fun _ _ => ?_ | refine F2.cons ?_ ?_ | refine TmT.cons rfl ?_ ?_ | exact TnS.d _ | exact TnS.dx _ | exact TnS.dp _ | exact TnS.slc rfl | exact TnS.ptr rfl | refine TnS.frzf rfl (by simp) (by simp) (by simp) ?_ | refine TnS.frz0 rfl (by simp) (by simp) (by simp) ?_ | refine TnS.frzm rfl (by simp) ?_ | exact TnS.mapr rfl | exact TnS.yld rfl | refine ⟨rfl, ?_⟩ | refine TnO.arr ?_ | refine TnO.map ?_ | exact TnO.raw _ | exact TnO.iter _ _ | refine TnS.agg ?_ | refine TnS.tup ?_ | exact TnS.pure (Pure.clo (by assumption) (by assumption)) | refine TnS.clo ?_ ?_ | exact TnS.unk _ | exact TnS.pure (Pure.clo (by assumption) (by assumption))))⟩ .nil)) (fun h => h))
    · have hc : c = m := by rw [hmm] at h22; simp at h22; omega
      subst hc
      refine Tr.exit ?_
      have w1 := add1 (show r < 4611686018427387904 by omega)
      refine Tr.reg1 [1, 2, 5, 6, 7] (by
          simp only [↓sxd, sxu, ↓zE, ↓exq, St.keep, Nat.reduceBEq, Nat.reduceLT, w1]
          (repeat' (first | rfl | exact trivial | exact fun h => h | exact fun h => (by rw [h]; rfl) | apply And.intro | omega | exact Nat.le_of_ble_eq_true rfl))) ?_
      exact ⟨_, _, by omega, by rw [← Nat.succ_mul]; exact Imp.keepAll, ⟨r + 1, _, ⟨by omega, by rw [Nat.succ_mul]; exact hsel2⟩, rfl, rfl⟩⟩
  · have hr : r = n := by rw [hnn] at h13; simp at h13; omega
    subst hr
    rw [sel_end, List.append_nil] at hsel
    subst hsel
    refine Tr.exit ?_
    refine Tr.imp (Imp.fin (tm' := [(5, SC l)]) (.cons rfl (TnS.frz0 (es := vC l) rfl (by simp) (by simp) (by simp [vC]) (vC_fz _)) trivial)) ?_
    refine Tr.reg [4] (by
        simp only [↓sxd, sxu, ↓zE, ↓exq, St.keep, Nat.reduceLT]
        (repeat' (first | rfl | exact trivial | exact fun h => h | exact fun h => (by rw [h]; rfl) | apply And.intro | omega | exact Nat.le_of_ble_eq_true rfl))) ?_
    refine Tr.ret ?_
    (refine ⟨.inr rfl, ?_⟩; first | rfl | exact ⟨rfl, rfl, trivial⟩ | exact ⟨rfl, rfl, rfl, trivial⟩ | (simp only [Res, ResL, ResOK, ↓sxd, sxu, ↓zE, ↓zB, zI, ↓exP, ↓exq, ↓zA, St.keep, ↓zW, ↓zJ, ↓zK, ↓zD, ↓zM, ↓zQ, ↓zG, ↓zO, ↓zC, Nat.reduceBEq, Nat.reduceAdd, Nat.reduceLT, Nat.reduceMul, Nat.reduceSub, Nat.reduceLeDiff, Nat.reduceEqDiff, Int.reduceLE, Int.reduceLT, Int.reduceToNat, reduceIte, implies_true, sxe, tysH31_23]; (repeat' (first | rfl | exact trivial | exact fun h => h | exact fun h => (by rw [h]; rfl) | apply And.intro | omega | exact Nat.le_of_ble_eq_true rfl))))
end Go.Proofs.YtijechcadlklhaaGreat
namespace Go.Proofs.YtijechcadlklhaaGreat
open Go.Sy
set_option maxRecDepth 8000
theorem bvi {a : Nat} (h : a < 18446744073709551616) : (BitVec.ofInt IntKind.i64.bits (a : Int)).toNat = a := by
  show (BitVec.ofInt 64 (a : Int)).toNat = a
  rw [BitVec.ofInt_natCast, BitVec.toNat_ofNat]
  exact Nat.mod_eq_of_lt h
theorem or_i {a b : Nat} (ha : a < 4611686018427387904) (hb : b < 4611686018427387904) :
    IntKind.i64.wrap ((BitVec.ofInt IntKind.i64.bits (a : Int) ||| BitVec.ofInt IntKind.i64.bits (b : Int)).toNat : Int) = ((a ||| b : Nat) : Int) := by
  rw [BitVec.toNat_or, bvi (by omega), bvi (by omega)]
  have := Nat.or_lt_two_pow (n := 62) ha hb
  exact wr (by omega) (by omega)
theorem and_i {a b : Nat} (ha : a < 4611686018427387904) (hb : b < 4611686018427387904) :
    IntKind.i64.wrap ((BitVec.ofInt IntKind.i64.bits (a : Int) &&& BitVec.ofInt IntKind.i64.bits (b : Int)).toNat : Int) = ((a &&& b : Nat) : Int) := by
  rw [BitVec.toNat_and, bvi (by omega), bvi (by omega)]
  have : a &&& b ≤ a := Nat.and_le_left
  exact wr (by omega) (by omega)
theorem bitsTo_lt {n m : Nat} {l : List HC} (hl : HidOk n m l) (hn : n ≤ 3) (hm : m ≤ 4) : ∀ k, k ≤ l.length → bitsTo m l k < 2 ^ (n * m)
  | 0, _ => Nat.two_pow_pos _
  | k + 1, hk => by
    rw [bitsTo]
    exact Nat.or_lt_two_pow (bitsTo_lt hl hn hm k (by omega)) (Nat.pow_lt_pow_right (by decide) (idx_lt (mem_gridC.2 (hl.cell _ (getD_mem' default (by omega))))))
theorem nm12 {n m : Nat} (hn : n ≤ 3) (hm : m ≤ 4) : n * m ≤ 12 := Nat.le_trans (Nat.mul_le_mul hn hm) (by decide)
theorem pow12 {n m : Nat} (hn : n ≤ 3) (hm : m ≤ 4) : 2 ^ (n * m) ≤ 4096 := Nat.le_trans (Nat.pow_le_pow_right (by decide) (nm12 hn hm)) (by decide)
theorem setR_len {n m : Nat} (hn : n ≤ 3) (hm : m ≤ 4) (b : Nat) : (setR n m b).length ≤ 12 := sel_len (p := fun c => b.testBit (c.row.toNat * m + c.col.toNat)) (k := 0) hn hm
theorem hid_len {n m : Nat} {l : List HC} (hl : HidOk n m l) (hn : n ≤ 3) (hm : m ≤ 4) : l.length ≤ 12 := by
  have := setR_len hn hm (bitsR m l)
  rwa [setR_bits hl hm] at this
abbrev tysZ2_24 := And.intro ty.sz0 <| And.intro ty.agg0 <| And.intro ty.elem0 <| And.intro ty.sz3 <| And.intro ty.agg3 <| And.intro ty.elem3 <| And.intro ty.zero3 <| And.intro ty.und3 <| And.intro ty.sz4 <| And.intro ty.agg4 <| And.intro ty.elem4 <| And.intro ty.zero4 <| And.intro ty.und4 <| And.intro ty.sz22 <| And.intro ty.agg22 <| And.intro ty.elem22 <| And.intro ty.by22 <| And.intro ty.ez22 <| And.intro ty.zero22 <| And.intro ty.und22 <| And.intro ty.sz24 <| And.intro ty.agg24 <| And.intro ty.fld24_0 <| And.intro ty.fld24_1 <| And.intro ty.elem24 <| And.intro ty.zero24 <| And.intro ty.pl24 <| And.intro ty.sz25 <| And.intro ty.agg25 <| And.intro ty.elem25 <| And.intro ty.by25 <| And.intro ty.ez25 <| And.intro ty.zero25 <| And.intro ty.und25 <| And.intro ty.sz41 <| And.intro ty.agg41 <| And.intro ty.fld41_0 <| And.intro ty.fld41_1 <| And.intro ty.elem41 <| And.intro ty.zero41 <| And.intro ty.pl41 <| And.intro ty.sz44 <| And.intro ty.agg44 <| And.intro ty.elem44 <| And.intro ty.by44 <| And.intro ty.ez44 <| And.intro ty.zero44 <| And.intro ty.und44 <| And.intro ty.sz54 <| And.intro ty.agg54 <| And.intro ty.elem54 <| And.intro ty.zero54 <| ty.und54
set_option maxHeartbeats 4000000 in
theorem Bits_c (t : HT) (l : List HC) (h0 : t.check = 0) (hlo : HidOk t.n t.m l) : CallP Tryz.prog G0 24 [t.s, SC l] (I (bitsR t.m l : Nat)) := by
  have ho : t.Ok t.n t.m := HT.check_ok h0
  have hn3 := ho.n3
  have hm4 := ho.m4
  have hn0 : 0 < t.rows.length := ho.n0
  have hz : ((0 : Int) < (t.rows.length : Int)) = True := eq_true (by omega)
  have hmm : (t.rows.getD 0 []).length = t.m := rfl
  have hl12 := hid_len hlo hn3 hm4
  have hp12 := pow12 hn3 hm4
  obtain ⟨m, hm⟩ : ∃ m, m = t.m := ⟨_, rfl⟩
  rw [← hm] at hmm hlo hm4 hp12 ⊢
  refine CallP.body 35 [.tmp 4] Tryz.func24 (by kernel_rfl) rfl rfl rfl (by repeat' (first | exact Pure.d _ | exact Pure.dx _ | exact Pure.dp _ | exact fa_nil | refine fa_cons ?_ ?_ | refine Pure.agg ?_ | refine Pure.tup ?_ | refine Pure.clo ?_ ?_ | refine Pure.fp ?_ | exact Pure.mapd _ | assumption)) (by repeat' (first | exact Pure.d _ | exact Pure.dx _ | exact Pure.dp _ | exact fa_nil | refine fa_cons ?_ ?_ | refine Pure.agg ?_ | refine Pure.tup ?_ | refine Pure.clo ?_ ?_ | refine Pure.fp ?_ | exact Pure.mapd _ | assumption)) ?_
  refine Tr.reg [1, 2] (by
      simp only [↓sxd, sxu, ↓zE, ↓exq, St.keep, ↓zM, Nat.reduceBEq, Nat.reduceAdd, Nat.reduceLT, Nat.reduceEqDiff]
      (repeat' (first | rfl | exact trivial | exact fun h => h | exact fun h => (by rw [h]; rfl) | apply And.intro | omega | exact Nat.le_of_ble_eq_true rfl))) ?_
  refine Tr.reg [1, 2, 5] (by
      simp only [↓sxd, sxu, ↓zE, ↓exq, St.keep, Nat.reduceBEq, Nat.reduceLT]
      (repeat' (first | rfl | exact trivial | exact fun h => h | exact fun h => (by rw [h]; rfl) | apply And.intro | omega | exact Nat.le_of_ble_eq_true rfl))) ?_
  refine Tr.seq ?_
  refine Tr.reg [1, 2, 5, 6] (by
      simp only [↓sxd, sxu, ↓zE, ↓exq, St.keep, Nat.reduceBEq, Nat.reduceLT]
      (repeat' (first | rfl | exact trivial | exact fun h => h | exact fun h => (by rw [h]; rfl) | apply And.intro | omega | exact Nat.le_of_ble_eq_true rfl))) ?_
  refine Tr.imp (st' := ⟨[(1, SC l), (2, .ptr 0 0 0), (5, I (bitsTo m l 0 : Nat)), (6, I 0)], [(0, tbx t)], 1, 35, [], 0⟩) (Imp.keepAll) (Tr.block (Tr.loopI (fun mm ss => ∃ (i : Nat), (i ≤ l.length) ∧ l.length - i = mm ∧ ss = ⟨[(1, SC l), (2, .ptr 0 0 0), (5, I (bitsTo m l i : Nat)), (6, I i)], [(0, tbx t)], 1, 35, [], 0⟩) _ ⟨0, ?_, rfl, rfl⟩ ?_))
  · exact Nat.zero_le _
  rintro mm ss ⟨i, hI, rfl, rfl⟩
  refine Tr.seq ?_
  refine Tr.reg [1, 2, 5, 6, 10] (by
      simp only [↓sxd, sxu, ↓zE, ↓exq, ↓zA, St.keep, ↓zK, Nat.reduceBEq, Nat.reduceLT, sxe, tysZ2_24]
      (repeat' (first | rfl | exact trivial | exact fun h => h | exact fun h => (by rw [h]; rfl) | apply And.intro | omega | exact Nat.le_of_ble_eq_true rfl))) ?_
  refine Tr.cond rfl (fun h10 => ?_) (fun h10 => ?_)
  · have hlt : i < l.length := by simpa using h10
    refine Tr.skip ?_
    refine Tr.seq ?_
    refine Tr.block ?_
    have hq := hlo.cell _ (getD_mem' default hlt)
    obtain ⟨a, ha⟩ := Int.eq_ofNat_of_zero_le hq.1
    obtain ⟨b, hb⟩ := Int.eq_ofNat_of_zero_le hq.2.2.1
    have hjm : a * m ≤ 8 := Nat.le_trans (Nat.mul_le_mul (show a ≤ 2 by omega) hm4) (by decide)
    have e4 : IntKind.i64.wrap ((a : Int) * (m : Int)) = ((a * m : Nat) : Int) := by rw [← Int.natCast_mul]; exact wr (by omega) (by omega)
    have e5 : IntKind.i64.wrap (((a * m : Nat) : Int) + (b : Int)) = ((a * m + b : Nat) : Int) := by rw [wr (by omega) (by omega)]; rfl
    have e6 : IntKind.u64.wrap ((a * m + b : Nat) : Int) = ((a * m + b : Nat) : Int) := wu (by omega) (by omega)
    have e7 := shl_i (show a * m + b < 62 by omega)
    have hpe : 2 ^ (a * m + b) < 2 ^ 12 := Nat.pow_lt_pow_right (by decide) (by omega)
    have hbl := bitsTo_lt hlo hn3 hm4 i (by omega)
    have e8 := or_i (a := bitsTo m l i) (b := 2 ^ (a * m + b)) (by omega) (by omega)
    have e9 : bitsTo m l (i + 1) = bitsTo m l i ||| 2 ^ (a * m + b) := by
      rw [bitsTo]
      simp (maxSteps := 2000000) only [ha, hb, Int.toNat_natCast]
    refine Tr.regD1 [0, 1, 2, 3, 4, 5, 6, 7, 8, 9, 10, 11, 12, 13, 14, 15, 16, 17, 18, 19, 20, 21] [] [] [1, 2, 5, 6] mix (by kernel_rfl) (by
        simp (maxSteps := 2000000) only [↓sxd, sxu, ↓zB, zI, ↓exq, ↓zA, St.keep, ↓zW, ↓zK, ↓zD, ↓zC, Nat.reduceBEq, Nat.reduceAdd, Nat.reduceLT, Nat.reduceEqDiff, Int.reduceLE, sxe, tysZ2_24, hlt, hn0, hz, ha, hb, hmm, e4, e5, e6, e7, e8]
        (repeat' (first | rfl | exact trivial | exact fun h => h | exact fun h => (by rw [h]; rfl) | apply And.intro | omega | exact Nat.le_of_ble_eq_true rfl))) ?_
    have w1 := add1 (show i < 4611686018427387904 by omega)
    refine Tr.reg1 [1, 2, 5, 6] (by
        simp only [↓sxd, sxu, ↓zE, ↓exq, St.keep, Nat.reduceBEq, Nat.reduceLT, w1]
        (repeat' (first | rfl | exact trivial | exact fun h => h | exact fun h => (by rw [h]; rfl) | apply And.intro | omega | exact Nat.le_of_ble_eq_true rfl))) ?_
    refine ⟨_, _, ?_, ?_, ⟨i + 1, hlt, rfl, rfl⟩⟩
    · omega
    · rw [e9]; exact Imp.keepAll
  · have hge : i = l.length := by have := of_decide_eq_false h10; omega
    subst hge
    refine Tr.exit ?_
    refine Tr.reg [4] (by
        simp only [↓sxd, sxu, ↓zE, ↓exq, St.keep, Nat.reduceBEq, Nat.reduceLT]
        (repeat' (first | rfl | exact trivial | exact fun h => h | exact fun h => (by rw [h]; rfl) | apply And.intro | omega | exact Nat.le_of_ble_eq_true rfl))) ?_
    refine Tr.ret ?_
    (refine ⟨.inr rfl, ?_⟩; first | rfl | exact ⟨rfl, rfl, trivial⟩ | exact ⟨rfl, rfl, rfl, trivial⟩ | (simp only [Res, ResL, ResOK, ↓sxd, sxu, ↓zE, ↓zB, zI, ↓exP, ↓exq, ↓zA, St.keep, ↓zW, ↓zJ, ↓zK, ↓zD, ↓zM, ↓zC, Nat.reduceBEq, Nat.reduceAdd, Nat.reduceLT, Nat.reduceMul, Nat.reduceSub, Nat.reduceLeDiff, Nat.reduceEqDiff, Int.reduceLE, Int.reduceLT, Int.reduceToNat, reduceIte, implies_true, sxe, tysZ2_24]; (repeat' (first | rfl | exact trivial | exact fun h => h | exact fun h => (by rw [h]; rfl) | apply And.intro | omega | exact Nat.le_of_ble_eq_true rfl))))
end Go.Proofs.YtijechcadlklhaaGreat
namespace Go.Proofs.YtijechcadlklhaaGreat
open Go.Sy
set_option maxRecDepth 8000
abbrev tysZ3_21 := And.intro ty.sz0 <| And.intro ty.agg0 <| And.intro ty.elem0 <| And.intro ty.sz3 <| And.intro ty.agg3 <| And.intro ty.elem3 <| And.intro ty.zero3 <| And.intro ty.und3 <| And.intro ty.sz4 <| And.intro ty.agg4 <| And.intro ty.elem4 <| And.intro ty.zero4 <| And.intro ty.und4 <| And.intro ty.sz25 <| And.intro ty.agg25 <| And.intro ty.elem25 <| And.intro ty.by25 <| And.intro ty.ez25 <| And.intro ty.zero25 <| And.intro ty.und25 <| And.intro ty.sz34 <| And.intro ty.agg34 <| And.intro ty.elem34 <| And.intro ty.by34 <| And.intro ty.ez34 <| And.intro ty.zero34 <| And.intro ty.und34 <| And.intro ty.sz41 <| And.intro ty.agg41 <| And.intro ty.fld41_0 <| And.intro ty.fld41_1 <| And.intro ty.elem41 <| And.intro ty.zero41 <| And.intro ty.pl41 <| And.intro ty.sz79 <| And.intro ty.agg79 <| And.intro ty.fld79_0 <| And.intro ty.fld79_1 <| And.intro ty.elem79 <| And.intro ty.zero79 <| ty.pl79
theorem Back_c (l : List HC) (hl : l.length ≤ 1000) : CallP Tryz.prog G0 21 [SC l] (SC l) := by
  refine CallP.body 26 [.tmp 2] Tryz.func21 (by kernel_rfl) rfl rfl rfl (by repeat' (first | exact Pure.d _ | exact Pure.dx _ | exact Pure.dp _ | exact fa_nil | refine fa_cons ?_ ?_ | refine Pure.agg ?_ | refine Pure.tup ?_ | refine Pure.clo ?_ ?_ | refine Pure.fp ?_ | exact Pure.mapd _ | assumption)) (by repeat' (first | exact Pure.d _ | exact Pure.dx _ | exact Pure.dp _ | exact fa_nil | refine fa_cons ?_ ?_ | refine Pure.agg ?_ | refine Pure.tup ?_ | refine Pure.clo ?_ ?_ | refine Pure.fp ?_ | exact Pure.mapd _ | assumption)) ?_
  refine Tr.reg [0] (by
      simp only [↓sxd, sxu, ↓zE, ↓exq, St.keep, Nat.reduceBEq, Nat.reduceLT]
      (repeat' (first | rfl | exact trivial | exact fun h => h | exact fun h => (by rw [h]; rfl) | apply And.intro | omega | exact Nat.le_of_ble_eq_true rfl))) ?_
  refine Tr.reg [0, 3] (by
      simp only [↓sxd, sxu, ↓zE, ↓exq, St.keep, Nat.reduceBEq, Nat.reduceLT]
      (repeat' (first | rfl | exact trivial | exact fun h => h | exact fun h => (by rw [h]; rfl) | apply And.intro | omega | exact Nat.le_of_ble_eq_true rfl))) ?_
  refine Tr.seq ?_
  refine Tr.reg [0, 3, 4] (by
      simp only [↓sxd, sxu, ↓zE, ↓exq, St.keep, Nat.reduceBEq, Nat.reduceLT]
      (repeat' (first | rfl | exact trivial | exact fun h => h | exact fun h => (by rw [h]; rfl) | apply And.intro | omega | exact Nat.le_of_ble_eq_true rfl))) ?_
  refine Tr.imp (st' := ⟨[(0, SC l), (3, .slc 0 2 0 0 0), (4, I 0)], [(0, .arr 2 (vC (l.take 0)))], 1, 26, [], 0⟩) (Imp.goV 2 rfl rfl rfl rfl (by repeat' (first | exact trivial | exact F2.nil | refine F2.cons ?_ ?_ | refine TmV.cons rfl VnS.nil ?_ | refine TmV.cons rfl VnS.same ?_ | refine ⟨rfl, ?_⟩ | exact VnO.same _ | refine VnO.arr ?_ | exact VnS.nil | exact VnS.same | exact F2.refl fun _ _ => VnS.same)) (by repeat' (first | exact trivial | exact F2.nil | refine F2.cons ?_ ?_ | refine TmV.cons rfl VnS.nil ?_ | refine TmV.cons rfl VnS.same ?_ | refine ⟨rfl, ?_⟩ | exact VnO.same _ | refine VnO.arr ?_ | exact VnS.nil | exact VnS.same | exact F2.refl fun _ _ => VnS.same))) (Tr.block (Tr.loopI (fun mm ss => ∃ (k : Nat), (k ≤ l.length) ∧ l.length - k = mm ∧ ss = ⟨[(0, SC l), (3, .slc 0 2 0 k k), (4, I k)], [(0, .arr 2 (vC (l.take k)))], 1, 26, [], 0⟩) _ ⟨0, ?_, rfl, rfl⟩ ?_))
  · exact Nat.zero_le _
  rintro mm ss ⟨k, hI, rfl, rfl⟩
  refine Tr.seq ?_
  refine Tr.reg [0, 3, 4, 8] (by
      simp only [↓sxd, sxu, ↓zE, ↓exq, ↓zA, St.keep, ↓zK, Nat.reduceBEq, Nat.reduceLT, sxe, tysZ3_21]
      (repeat' (first | rfl | exact trivial | exact fun h => h | exact fun h => (by rw [h]; rfl) | apply And.intro | omega | exact Nat.le_of_ble_eq_true rfl))) ?_
  refine Tr.cond rfl (fun h8 => ?_) (fun h8 => ?_)
  · have hlt : k < l.length := by simpa using h8
    have htl : (l.take k).length = k := by rw [List.length_take]; omega
    refine Tr.skip ?_
    refine Tr.seq ?_
    refine Tr.block ?_
    have hk2 : (k + 1 ≤ 1073741824) = True := eq_true (by omega)
    refine Tr.regD1 [0, 1, 2, 3, 4, 5, 6, 7, 8, 9, 10, 11, 12, 13, 14] [13] [] [0, 3, 4] mix (by kernel_rfl) (by
        simp only [↓sxd, sxu, ↓zB, zI, ↓exq, ↓zA, St.keep, ↓zD, ↓zQ, ↓zG, ↓zO, ↓zC, Nat.reduceBEq, Nat.reduceAdd, Nat.reduceLT, Nat.reduceLeDiff, Nat.reduceEqDiff, sxe, tysZ3_21, hlt, vC_len, htl, hk2]
        (repeat' (first | rfl | exact trivial | exact fun h => h | exact fun h => (by rw [h]; rfl) | apply And.intro | omega | exact Nat.le_of_ble_eq_true rfl))) ?_
    have w1 := add1 (show k < 4611686018427387904 by omega)
    refine Tr.reg1 [0, 3, 4] (by
        simp only [↓sxd, sxu, ↓zE, ↓exq, St.keep, Nat.reduceBEq, Nat.reduceLT, w1]
        (repeat' (first | rfl | exact trivial | exact fun h => h | exact fun h => (by rw [h]; rfl) | apply And.intro | omega | exact Nat.le_of_ble_eq_true rfl))) ?_
    refine ⟨_, _, ?_, ?_, ⟨k + 1, hlt, rfl, rfl⟩⟩
    · omega
    · rw [dC_snoc hlt]
      exact Imp.go (fun i => i + 1) _ rfl rfl (List.Sublist.refl _) (fun _ h => absurd h (Nat.not_lt_zero _)) (fun id h => Nat.succ_le_succ h) (by repeat' (first | exact TmT.cons rfl (TnS.d _) ?_ | exact trivial | exact F2.nil | refine F2.append ?_ ?_ | refine F2.map fun _ _ => ?_ | refine F2.cons ?_ ?_ | refine TmT.cons rfl ?_ ?_ | exact TnS.d _ | exact TnS.dx _ | exact TnS.dp _ | exact TnS.slc rfl | exact TnS.ptr rfl | refine TnS.frzf rfl (by simp) (by simp) (by simp) ?_ | refine TnS.frz0 rfl (by simp) (by simp) (by simp) ?_ | refine TnS.frzm rfl (by simp) ?_ | exact TnS.mapr rfl | exact TnS.yld rfl | refine ⟨rfl, ?_⟩ | refine TnO.arr ?_ | refine TnO.map ?_ | exact TnO.raw _ | exact TnO.iter _ _ | refine TnS.agg ?_ | refine TnS.tup ?_ | exact TnS.pure (Pure.clo (by assumption) (by assumption)) | refine TnS.clo ?_ ?_ | exact TnS.unk _ | exact TnS.pure (Pure.clo (by assumption) (by assumption)))) (.cons ⟨rfl, TnO.arr (F2.append (vC_tn _) (.cons (.cons (TnS.d _) (.cons (TnS.d _) .nil)) .nil))⟩ .nil) (fun h => h)
  · have hge : k = l.length := by have := of_decide_eq_false h8; omega
    subst hge
    rw [List.take_length]
    refine Tr.exit ?_
    refine Tr.imp (Imp.fin (tm' := [(3, SC l)]) (.cons rfl (TnS.frz0 (es := vC l) rfl (by simp) (by simp) (vC_len _) (vC_fz _)) trivial)) ?_
    refine Tr.reg [2] (by
        simp only [↓sxd, sxu, ↓zE, ↓exq, St.keep, Nat.reduceLT]
        (repeat' (first | rfl | exact trivial | exact fun h => h | exact fun h => (by rw [h]; rfl) | apply And.intro | omega | exact Nat.le_of_ble_eq_true rfl))) ?_
    refine Tr.ret ?_
    (refine ⟨.inr rfl, ?_⟩; first | rfl | exact ⟨rfl, rfl, trivial⟩ | exact ⟨rfl, rfl, rfl, trivial⟩ | (simp only [Res, ResL, ResOK, ↓sxd, sxu, ↓zE, ↓zB, zI, ↓exP, ↓exq, ↓zA, St.keep, ↓zJ, ↓zK, ↓zD, ↓zQ, ↓zG, ↓zO, ↓zC, Nat.reduceBEq, Nat.reduceAdd, Nat.reduceLT, Nat.reduceMul, Nat.reduceSub, Nat.reduceLeDiff, Nat.reduceEqDiff, Int.reduceLE, Int.reduceLT, Int.reduceToNat, reduceIte, implies_true, sxe, tysZ3_21]; (repeat' (first | rfl | exact trivial | exact fun h => h | exact fun h => (by rw [h]; rfl) | apply And.intro | omega | exact Nat.le_of_ble_eq_true rfl))))
end Go.Proofs.YtijechcadlklhaaGreat
namespace Go.Proofs.YtijechcadlklhaaGreat
open Go.Sy
set_option maxRecDepth 8000
theorem expose_cases {t : HT} {l : List HC} {q : List HQ} (h : t.askE l q = 0) : (t.good l q = true ∧ t.expose l q = (0, 7)) ∨ (t.good l q = false ∧ (t.expose l q).2 = 0) := by
  have hE : t.expose l q = if idxOf (fun x => !(t.w l).sat x) q < 0 then (0, 7) else (idxOf (fun x => !(t.w l).sat x) q, 0) := by unfold HT.expose; rw [if_neg (by simp [h])]
  have hd := idx_any (fun x => !(t.w l).sat x) q
  have hg : t.good l q = !(q.any fun x => !(t.w l).sat x) := by
    unfold HT.good HW.good
    rw [List.any_eq_not_all_not]
    simp
  rw [hE, hg, ← hd]
  by_cases hc : idxOf (fun x => !(t.w l).sat x) q < 0
  · rw [if_pos hc]
    exact .inl ⟨by simp; omega, rfl⟩
  · rw [if_neg hc]
    exact .inr ⟨by simp; omega, rfl⟩
end Go.Proofs.YtijechcadlklhaaGreat
namespace Go.Proofs.YtijechcadlklhaaGreat
open Go.Sy
set_option maxRecDepth 8000
theorem hideA_ok {t : HT} {l : List HC} {q : List HQ} (h : t.askE l q = 0) : t.hideA l q = t.hide l q := by unfold HT.hideA; rw [if_neg (by simp [h])]
theorem askE_of {t : HT} {l : List HC} {q : List HQ} (h1 : t.pub l = 0) (h2 : q.length ≤ 8) (h3 : q.all t.okQ = true) : t.askE l q = 0 := by
  unfold HT.askE
  rw [if_neg (by simp [h1]), if_neg (by omega), if_neg (by simp [h3])]
theorem thin2_go {t : HT} {l : List HC} {q : List HQ} (h : (!!(shortB t.rows && decide ((l.length : Int) ≤ 20) && decide ((q.length : Int) ≤ 11))) = true) : small8 t.rows ∧ l.length ≤ 1000 ∧ q.length ≤ 1000 := thin_go (by simpa only [Bool.not_not] using h)
theorem thin2_of {t : HT} {l : List HC} {q : List HQ} (h : (!(shortB t.rows && decide ((l.length : Int) ≤ 20) && decide ((q.length : Int) ≤ 11)) || t.askE l q != 0) = false) : (small8 t.rows ∧ l.length ≤ 1000 ∧ q.length ≤ 1000) ∧ t.askE l q = 0 := by
  simp only [Bool.or_eq_false_iff, Bool.not_eq_false', bne_eq_false_iff_eq] at h
  exact ⟨thin_go h.1, h.2⟩
end Go.Proofs.YtijechcadlklhaaGreat
namespace Go.Proofs.YtijechcadlklhaaGreat
open Go.Sy
set_option maxRecDepth 8000
def lessC (S : List HC) (i : Nat) : List HC := S.take i ++ S.drop (i + 1)
theorem less_sub {S : List HC} {i : Nat} (hi : i < S.length) : (lessC S i).Sublist S := by
  have h : S = S.take i ++ S.drop i := (List.take_append_drop i S).symm
  unfold lessC
  conv => rhs; rw [h]
  refine List.Sublist.append (.refl _) ?_
  rw [List.drop_eq_getElem_cons hi]
  exact .cons _ (.refl _)
theorem safe_less {t : HT} {l : List HC} {q : List HQ} {S : List HC} (hask : t.askE l q = 0) (L : t.Least l q S) {i : Nat} (hi : i < S.length) (hn : S.getD i default ∉ l) : (lessC S i).length ≤ 1000 ∧ (t.expose (lessC S i) q).2 = 0 := by
  obtain ⟨hpub, hq8, hall⟩ := askE_ok hask
  obtain ⟨h3, h4, hl, h0⟩ := pub_dims hpub
  have hsub := less_sub hi
  have hok : HidOk t.n t.m (lessC S i) := ⟨fun c hc => L.ok.cell c (hsub.subset hc), L.ok.lt.sublist hsub⟩
  have hlen := hid_len hok h3 h4
  have hgi : S.getD i default = S[i] := by simp [List.getD_eq_getElem?_getD, hi]
  have hl2 : ∀ c ∈ l, c ∈ lessC S i := fun c hc => by
    have hS := L.sub c hc
    rw [← List.take_append_drop i S, List.drop_eq_getElem_cons hi] at hS
    unfold lessC
    rcases List.mem_append.1 hS with h | h
    · exact List.mem_append.2 (.inl h)
    · rcases List.mem_cons.1 h with h | h
      · rw [h, ← hgi] at hc; exact absurd hc hn
      · exact List.mem_append.2 (.inr h)
  have hll : (lessC S i).length < S.length := by
    unfold lessC
    rw [List.length_append, List.length_take, List.length_drop]
    omega
  have askX : t.askE (lessC S i) q = 0 := askE_of (HT.pub_of h0 hok) hq8 hall
  refine ⟨by omega, ?_⟩
  rcases expose_cases askX with ⟨g, e⟩ | ⟨g, e⟩
  · have := L.least _ hok hl2 g
    omega
  · exact e
theorem safe_law {t : HT} {l : List HC} {q : List HQ} (hask : t.askE l q = 0) :
    ∃ S e f, t.hide l q = (S, e) ∧ (t.expose (gridC t.n t.m) q).2 = f ∧ S.length ≤ 12 ∧ ((e = 11 ∧ f = 0) ∨ (e = 0 ∧ f = 7 ∧ t.Least l q S ∧ (t.expose S q).2 = 7)) := by
  obtain ⟨hpub, hq8, hall⟩ := askE_ok hask
  obtain ⟨h3, h4, hl, h0⟩ := pub_dims hpub
  have askX : t.askE (gridC t.n t.m) q = 0 := askE_of (HT.pub_of h0 (gridC_ok h4)) hq8 hall
  rcases hide_law hpub q with ⟨g1, e1⟩ | ⟨g1, S, e1, L1⟩
  · refine ⟨_, _, _, e1, rfl, by simp, .inl ⟨rfl, ?_⟩⟩
    rcases expose_cases askX with ⟨g, e⟩ | ⟨g, e⟩
    · rw [g1] at g; cases g
    · exact e
  · refine ⟨_, _, _, e1, rfl, hid_len L1.ok h3 h4, .inr ⟨rfl, ?_, L1, ?_⟩⟩
    · rcases expose_cases askX with ⟨g, e⟩ | ⟨g, e⟩
      · rw [e]
      · rw [g1] at g; cases g
    · have askS : t.askE S q = 0 := askE_of (HT.pub_of h0 L1.ok) hq8 hall
      rcases expose_cases askS with ⟨g, e⟩ | ⟨g, e⟩
      · rw [e]
      · rw [L1.good] at g; cases g
theorem and_sub {n m : Nat} {l S : List HC} (hl : HidOk n m l) (hS : HidOk n m S) (hm : m ≤ 4) (h : ∀ c ∈ l, c ∈ S) : bitsR m l &&& bitsR m S = bitsR m l := by
  rw [Nat.and_comm]
  exact (and_given hl (bitsR m S)).2 fun c hc => by rw [setR_bits hS hm]; exact h c hc
theorem src_vC (v : List HC) : ((dC v).map fun e => e.map SV.d) = vC v := by simp [dC, vC]
theorem vC_all (v : List HC) : (∀ e ∈ vC v, e.length = 2 ∧ e.all SV.one = true) = True := by simp [vC, SV.one]
theorem vC_app (a b : List HC) : vC (a ++ b) = vC a ++ vC b := by simp [vC]
abbrev tysZ7_6 := And.intro ty.sz0 <| And.intro ty.agg0 <| And.intro ty.elem0 <| And.intro ty.sz3 <| And.intro ty.agg3 <| And.intro ty.elem3 <| And.intro ty.zero3 <| And.intro ty.und3 <| And.intro ty.sz4 <| And.intro ty.agg4 <| And.intro ty.elem4 <| And.intro ty.zero4 <| And.intro ty.und4 <| And.intro ty.sz22 <| And.intro ty.agg22 <| And.intro ty.elem22 <| And.intro ty.by22 <| And.intro ty.ez22 <| And.intro ty.zero22 <| And.intro ty.und22 <| And.intro ty.sz24 <| And.intro ty.agg24 <| And.intro ty.fld24_0 <| And.intro ty.fld24_1 <| And.intro ty.elem24 <| And.intro ty.zero24 <| And.intro ty.pl24 <| And.intro ty.sz25 <| And.intro ty.agg25 <| And.intro ty.elem25 <| And.intro ty.by25 <| And.intro ty.ez25 <| And.intro ty.zero25 <| And.intro ty.und25 <| And.intro ty.sz26 <| And.intro ty.agg26 <| And.intro ty.elem26 <| And.intro ty.by26 <| And.intro ty.ez26 <| And.intro ty.zero26 <| And.intro ty.und26 <| And.intro ty.sz29 <| And.intro ty.agg29 <| And.intro ty.elem29 <| And.intro ty.zero29 <| And.intro ty.und29 <| And.intro ty.sz30 <| And.intro ty.agg30 <| And.intro ty.elem30 <| And.intro ty.sz32 <| And.intro ty.agg32 <| And.intro ty.fld32_0 <| And.intro ty.fld32_1 <| And.intro ty.elem32 <| And.intro ty.zero32 <| And.intro ty.pl32 <| And.intro ty.sz34 <| And.intro ty.agg34 <| And.intro ty.elem34 <| And.intro ty.by34 <| And.intro ty.ez34 <| And.intro ty.zero34 <| And.intro ty.und34 <| And.intro ty.sz36 <| And.intro ty.agg36 <| And.intro ty.elem36 <| And.intro ty.by36 <| And.intro ty.ez36 <| And.intro ty.zero36 <| And.intro ty.und36 <| And.intro ty.sz41 <| And.intro ty.agg41 <| And.intro ty.fld41_0 <| And.intro ty.fld41_1 <| And.intro ty.elem41 <| And.intro ty.zero41 <| And.intro ty.pl41 <| And.intro ty.sz44 <| And.intro ty.agg44 <| And.intro ty.elem44 <| And.intro ty.by44 <| And.intro ty.ez44 <| And.intro ty.zero44 <| And.intro ty.und44 <| And.intro ty.sz45 <| And.intro ty.agg45 <| And.intro ty.elem45 <| And.intro ty.sz54 <| And.intro ty.agg54 <| And.intro ty.elem54 <| And.intro ty.zero54 <| ty.und54
set_option maxHeartbeats 4000000 in
theorem HideSafe_c (t : HT) (l : List HC) (q : List HQ) : CallP Tryz.prog G0 6 [t.s, SC l, SQ q] (B true) := by
  refine CallP.body 148 [.tmp 6] Tryz.func6 (by kernel_rfl) rfl rfl rfl (by repeat' (first | exact Pure.d _ | exact Pure.dx _ | exact Pure.dp _ | exact fa_nil | refine fa_cons ?_ ?_ | refine Pure.agg ?_ | refine Pure.tup ?_ | refine Pure.clo ?_ ?_ | refine Pure.fp ?_ | exact Pure.mapd _ | assumption)) (by repeat' (first | exact Pure.d _ | exact Pure.dx _ | exact Pure.dp _ | exact fa_nil | refine fa_cons ?_ ?_ | refine Pure.agg ?_ | refine Pure.tup ?_ | refine Pure.clo ?_ ?_ | refine Pure.fp ?_ | exact Pure.mapd _ | assumption)) ?_
  refine Tr.reg [1, 2, 3] (by
      simp only [↓sxd, sxu, ↓zE, ↓exq, St.keep, ↓zM, Nat.reduceBEq, Nat.reduceAdd, Nat.reduceLT, Nat.reduceEqDiff]
      (repeat' (first | rfl | exact trivial | exact fun h => h | exact fun h => (by rw [h]; rfl) | apply And.intro | omega | exact Nat.le_of_ble_eq_true rfl))) ?_
  refine Tr.seq ?_
  refine Tr.reg [1, 2, 3, 30] (by
      simp only [↓sxd, sxu, ↓zE, ↓exq, St.keep, ↓zD, Nat.reduceBEq, Nat.reduceAdd, Nat.reduceLT, tysZ7_6]
      (repeat ((with_reducible refine And.intro ?_ ?_); (focus (first | with_reducible rfl | trivial | exact fun h => h | exact fun h => (by rw [h]; rfl) | omega | assumption))))
      refine CallO.use (Thin_c t l q) ?_
      try simp only [↓sxd, sxu, ↓zE, ↓exq, ↓zJ, Nat.reduceLT]
      iterate 3
        (repeat ((with_reducible refine And.intro ?_ ?_); (focus (first | with_reducible rfl | trivial | exact fun h => h | exact fun h => (by rw [h]; rfl) | omega | assumption))))
        refine GdO.mk _ (fun hg => by simp only [sxu, ↓exq, ↓zD, Nat.reduceBEq, Nat.reduceAdd, Nat.reduceLT, tysZ7_6, hg]; (repeat' (first | rfl | exact trivial | exact fun h => h | exact fun h => (by rw [h]; rfl) | apply And.intro | omega | exact Nat.le_of_ble_eq_true rfl))) ?_
        simp only [↓sxd, sxu, ↓zE, Nat.reduceBEq, Nat.reduceLT]
      (repeat ((with_reducible refine And.intro ?_ ?_); (focus (first | with_reducible rfl | trivial | exact fun h => h | exact fun h => (by rw [h]; rfl) | omega | assumption))))
      refine GdO.mk _ (fun hg => by simp only [sxu, ↓exq, ↓zA, Nat.reduceBEq, hg]; (repeat ((with_reducible refine And.intro ?_ ?_); (focus (first | with_reducible rfl | trivial | exact fun h => h | exact fun h => (by rw [h]; rfl) | omega | assumption)))); exact CallP.use (lasked_c t l q (thin2_go hg).1 (thin2_go hg).2.1 (thin2_go hg).2.2) ⟨rfl, rfl, rfl⟩) ?_
      simp only [↓sxd, sxu, ↓zE, Nat.reduceBEq, Nat.reduceLT]
      (repeat ((with_reducible refine And.intro ?_ ?_); (focus (first | with_reducible rfl | trivial | exact fun h => h | exact fun h => (by rw [h]; rfl) | omega | assumption))))
      refine GdO.mk _ (fun hg => by simp only [↓sxd, sxu, ↓exq, hg]; (repeat' (first | rfl | exact trivial | exact fun h => h | exact fun h => (by rw [h]; rfl) | apply And.intro | omega | exact Nat.le_of_ble_eq_true rfl))) ?_
      simp only [↓sxd, sxu, ↓zE, ↓exq, ↓zH, Nat.reduceBEq, Nat.reduceLT]
      (repeat' (first | rfl | exact trivial | exact fun h => h | exact fun h => (by rw [h]; rfl) | apply And.intro | omega | exact Nat.le_of_ble_eq_true rfl))) ?_
  refine Tr.cond rfl (fun h30 => ?_) (fun h30 => ?_)
  · refine Tr.reg [6] (by
        simp only [↓sxd, sxu, ↓zE, St.keep, Nat.reduceLT]
        (repeat ((with_reducible refine And.intro ?_ ?_); (focus (first | with_reducible rfl | trivial | exact fun h => h | exact fun h => (by rw [h]; rfl) | omega | assumption))))
        refine CallO.use (awake_c) ?_
        try simp only [↓sxd, sxu, ↓zE, ↓exq, Nat.reduceLT]
        (repeat' (first | rfl | exact trivial | exact fun h => h | exact fun h => (by rw [h]; rfl) | apply And.intro | omega | exact Nat.le_of_ble_eq_true rfl))) ?_
    refine Tr.ret ?_
    (refine ⟨.inr rfl, ?_⟩; first | rfl | exact ⟨rfl, rfl, trivial⟩ | exact ⟨rfl, rfl, rfl, trivial⟩ | (simp only [Res, ResL, ResOK, ↓sxd, sxu, ↓zE, ↓zB, zI, ↓exP, ↓exq, ↓zA, St.keep, ↓zH, ↓zW, ↓zJ, ↓zK, ↓zD, ↓zL, ↓zM, ↓zG, ↓zO, ↓zV, ↓zC, sbnd, Nat.reduceBEq, Nat.reduceAdd, Nat.reduceLT, Nat.reduceMul, Nat.reduceSub, Nat.reduceLeDiff, Nat.reduceEqDiff, Int.reduceLE, Int.reduceLT, Int.reduceToNat, reduceIte, implies_true, sxe, tysZ7_6]; (repeat' (first | rfl | exact trivial | exact fun h => h | exact fun h => (by rw [h]; rfl) | apply And.intro | omega | exact Nat.le_of_ble_eq_true rfl))))
  · obtain ⟨⟨hs, hl, hq⟩, hask⟩ := thin2_of h30
    obtain ⟨hpub, hq8, hall⟩ := askE_ok hask
    obtain ⟨hn3, hm4, hlo, h0⟩ := pub_dims hpub
    have hn0 : 0 < t.rows.length := (HT.check_ok h0).n0
    have hnm := nm12 hn3 hm4
    have hN := pow12 hn3 hm4
    have hN1 : 1 ≤ 2 ^ (t.n * t.m) := Nat.one_le_two_pow
    have hset := Set_c t (2 ^ (t.n * t.m) - 1) (by omega) h0
    rw [setR_all hm4] at hset
    obtain ⟨S, e, f, he, hf, hSl, hcase⟩ := safe_law hask
    have hA := Hide_c t l q hs hl hq
    rw [hideA_ok hask, he] at hA
    have hgl : (gridC t.n t.m).length ≤ 12 := hid_len (gridC_ok hm4) hn3 hm4
    have hE := Exposed_c t (gridC t.n t.m) q hs (by omega) hq
    rw [hf] at hE
    generalize (t.expose (gridC t.n t.m) q).1 = y at hE
    have w0 : IntKind.i64.wrap ((t.n : Int) * (t.m : Int)) = ((t.n * t.m : Nat) : Int) := by rw [← Int.natCast_mul]; exact wr (by omega) (by omega)
    have u0 : IntKind.u64.wrap ((t.n * t.m : Nat) : Int) = ((t.n * t.m : Nat) : Int) := wu (by omega) (by omega)
    have s0 := shl_i (show t.n * t.m < 62 by omega)
    have w3 : IntKind.i64.wrap (((2 ^ (t.n * t.m) : Nat) : Int) - 1) = ((2 ^ (t.n * t.m) - 1 : Nat) : Int) := by rw [wr (by omega) (by omega)]; omega
    have hmm : (t.rows.getD 0 []).length = t.m := rfl
    have hz : ((0 : Int) < (t.rows.length : Int)) = True := eq_true (by omega)
    have w00 : IntKind.i64.wrap ((t.rows.length : Int) * (t.m : Int)) = ((t.n * t.m : Nat) : Int) := w0
    refine Tr.skip ?_
    refine Tr.reg [1, 2, 3, 7, 8] (by
        simp only [↓sxd, sxu, ↓zE, ↓exq, St.keep, ↓zD, Nat.reduceBEq, Nat.reduceAdd, Nat.reduceLT, tysZ7_6]
        (repeat ((with_reducible refine And.intro ?_ ?_); (focus (first | with_reducible rfl | trivial | exact fun h => h | exact fun h => (by rw [h]; rfl) | omega | assumption))))
        refine CallO.use (Table_c t hs) ?_
        try simp only [↓sxd, sxu, ↓zE, ↓exq, Nat.reduceBEq, Nat.reduceLT]
        (repeat ((with_reducible refine And.intro ?_ ?_); (focus (first | with_reducible rfl | trivial | exact fun h => h | exact fun h => (by rw [h]; rfl) | omega | assumption))))
        refine CallO.use (Cells_c l hl) ?_
        try simp only [↓sxd, sxu, ↓zE, ↓exq, Nat.reduceBEq, Nat.reduceLT]
        (repeat ((with_reducible refine And.intro ?_ ?_); (focus (first | with_reducible rfl | trivial | exact fun h => h | exact fun h => (by rw [h]; rfl) | omega | assumption))))
        refine CallO.use (Requests_c q hq) ?_
        try simp only [↓sxd, sxu, ↓zE, Nat.reduceBEq, Nat.reduceLT]
        (repeat ((with_reducible refine And.intro ?_ ?_); (focus (first | with_reducible rfl | trivial | exact fun h => h | exact fun h => (by rw [h]; rfl) | omega | assumption))))
        refine CallO.use (hA) ?_
        try simp only [↓sxd, sxu, ↓zE, ↓exq, ↓zL, Nat.reduceBEq, Nat.reduceAdd, Nat.reduceLT]
        (repeat' (first | rfl | exact trivial | exact fun h => h | exact fun h => (by rw [h]; rfl) | apply And.intro | omega | exact Nat.le_of_ble_eq_true rfl))) ?_
    refine Tr.regD [0, 1, 2, 3, 4, 5, 6, 7, 8, 9, 10, 11, 12, 13, 14] [] [] [1, 2, 3, 7, 8, 9] mix (by kernel_rfl) (by
        simp (maxSteps := 2000000) only [↓sxd, sxu, ↓zB, zI, ↓exq, ↓zA, St.keep, ↓zW, ↓zK, ↓zD, ↓zC, Nat.reduceBEq, Nat.reduceAdd, Nat.reduceLT, Nat.reduceEqDiff, Int.reduceLE, sxe, tysZ7_6, hn0, hz, hmm, w00, u0, s0, w3]
        (repeat ((with_reducible refine And.intro ?_ ?_); (focus (first | with_reducible rfl | trivial | exact fun h => h | exact fun h => (by rw [h]; rfl) | omega | assumption))))
        refine CallD.use (hset) ?_
        try simp (maxSteps := 2000000) only [↓sxd, sxu, ↓zB, ↓exq, Nat.reduceBEq, Nat.reduceLT]
        (repeat' (first | rfl | exact trivial | exact fun h => h | exact fun h => (by rw [h]; rfl) | apply And.intro | omega | exact Nat.le_of_ble_eq_true rfl))) ?_
    refine Tr.reg [1, 2, 3, 7, 8, 11] (by
        simp only [↓sxd, sxu, ↓zE, ↓exq, St.keep, ↓zD, Nat.reduceBEq, Nat.reduceAdd, Nat.reduceLT, tysZ7_6]
        (repeat ((with_reducible refine And.intro ?_ ?_); (focus (first | with_reducible rfl | trivial | exact fun h => h | exact fun h => (by rw [h]; rfl) | omega | assumption))))
        refine CallO.use (Table_c t hs) ?_
        try simp only [↓sxd, sxu, ↓zE, ↓exq, Nat.reduceBEq, Nat.reduceLT]
        (repeat ((with_reducible refine And.intro ?_ ?_); (focus (first | with_reducible rfl | trivial | exact fun h => h | exact fun h => (by rw [h]; rfl) | omega | assumption))))
        refine CallO.use (Cells_c _ (by omega)) ?_
        try simp only [↓sxd, sxu, ↓zE, ↓exq, Nat.reduceBEq, Nat.reduceLT]
        (repeat ((with_reducible refine And.intro ?_ ?_); (focus (first | with_reducible rfl | trivial | exact fun h => h | exact fun h => (by rw [h]; rfl) | omega | assumption))))
        refine CallO.use (Requests_c q hq) ?_
        try simp only [↓sxd, sxu, ↓zE, Nat.reduceBEq, Nat.reduceLT]
        (repeat ((with_reducible refine And.intro ?_ ?_); (focus (first | with_reducible rfl | trivial | exact fun h => h | exact fun h => (by rw [h]; rfl) | omega | assumption))))
        refine CallO.use (hE) ?_
        try simp only [↓sxd, sxu, ↓zE, ↓exq, ↓zL, Nat.reduceBEq, Nat.reduceAdd, Nat.reduceLT]
        (repeat' (first | rfl | exact trivial | exact fun h => h | exact fun h => (by rw [h]; rfl) | apply And.intro | omega | exact Nat.le_of_ble_eq_true rfl))) ?_
    refine Tr.seq ?_
    refine Tr.reg [1, 2, 3, 7, 8, 11, 67] (by
        simp only [↓sxd, sxu, ↓zE, ↓exq, St.keep, Nat.reduceBEq, Nat.reduceLT]
        (repeat' (first | rfl | exact trivial | exact fun h => h | exact fun h => (by rw [h]; rfl) | apply And.intro | omega | exact Nat.le_of_ble_eq_true rfl))) ?_
    refine Tr.cond rfl (fun h67 => ?_) (fun h67 => ?_)
    · have hne : ¬ e = 0 := by simpa using h67
      obtain ⟨rfl, rfl⟩ : e = 11 ∧ f = 0 := by
        rcases hcase with h | ⟨h, _⟩
        · exact h
        · exact absurd h hne
      refine Tr.reg [6] (by
          simp only [↓sxd, sxu, ↓zE, ↓exq, St.keep, Nat.reduceBEq, Nat.reduceLT]
          iterate 2
            (repeat ((with_reducible refine And.intro ?_ ?_); (focus (first | with_reducible rfl | trivial | exact fun h => h | exact fun h => (by rw [h]; rfl) | omega | assumption))))
            refine GdO.mk _ (fun hg => by simp only [↓sxd, sxu, ↓exq, Nat.reduceBEq]; (repeat' (first | rfl | exact trivial | exact fun h => h | exact fun h => (by rw [h]; rfl) | apply And.intro | omega | exact Nat.le_of_ble_eq_true rfl))) ?_
            simp only [↓sxd, sxu, ↓zE, ↓exq, ↓zH, Nat.reduceBEq, Nat.reduceLT]
          (repeat ((with_reducible refine And.intro ?_ ?_); (focus (first | with_reducible rfl | trivial | exact fun h => h | exact fun h => (by rw [h]; rfl) | omega | assumption))))
          refine GdO.mk _ (fun hg => by simp only [sxu, ↓exq, ↓zA]; (repeat ((with_reducible refine And.intro ?_ ?_); (focus (first | with_reducible rfl | trivial | exact fun h => h | exact fun h => (by rw [h]; rfl) | omega | assumption)))); exact CallP.use (awake_c) ⟨rfl, rfl, rfl⟩) ?_
          simp only [↓sxd, sxu, ↓zE, ↓exq, ↓zH, Nat.reduceBEq, Nat.reduceLT]
          (repeat' (first | rfl | exact trivial | exact fun h => h | exact fun h => (by rw [h]; rfl) | apply And.intro | omega | exact Nat.le_of_ble_eq_true rfl))) ?_
      refine Tr.ret ?_
      (refine ⟨.inr rfl, ?_⟩; first | rfl | exact ⟨rfl, rfl, trivial⟩ | exact ⟨rfl, rfl, rfl, trivial⟩ | (simp only [Res, ResL, ResOK, ↓sxd, sxu, ↓zE, ↓zB, zI, ↓exP, ↓exq, ↓zA, St.keep, ↓zH, ↓zW, ↓zJ, ↓zK, ↓zD, ↓zL, ↓zM, ↓zG, ↓zO, ↓zV, ↓zC, sbnd, Nat.reduceBEq, Nat.reduceAdd, Nat.reduceLT, Nat.reduceMul, Nat.reduceSub, Nat.reduceLeDiff, Nat.reduceEqDiff, Int.reduceLE, Int.reduceLT, Int.reduceToNat, reduceIte, implies_true, sxe, tysZ7_6]; (repeat' (first | rfl | exact trivial | exact fun h => h | exact fun h => (by rw [h]; rfl) | apply And.intro | omega | exact Nat.le_of_ble_eq_true rfl))))
    · have hee : e = 0 := by simpa using h67
      subst hee
      obtain ⟨rfl, L, hS7⟩ : f = 7 ∧ t.Least l q S ∧ (t.expose S q).2 = 7 := by
        rcases hcase with ⟨h, _⟩ | ⟨_, h⟩
        · cases h
        · exact h
      have hpS : t.pub S = 0 := HT.pub_of h0 L.ok
      have hb1 := Bits_c t l h0 hlo
      have hb2 := Bits_c t S h0 L.ok
      have hbl := bitsR_lt hlo
      have hbS := bitsR_lt L.ok
      have hand := and_i (a := bitsR t.m l) (b := bitsR t.m S) (by omega) (by omega)
      rw [and_sub hlo L.ok hm4 L.sub] at hand
      have hE2 := Exposed_c t S q hs (by omega) hq
      rw [hS7] at hE2
      refine Tr.skip ?_
      refine Tr.reg [1, 2, 3, 7, 11, 12] (by
          simp only [↓sxd, sxu, ↓zE, ↓exq, St.keep, Nat.reduceBEq, Nat.reduceLT]
          (repeat ((with_reducible refine And.intro ?_ ?_); (focus (first | with_reducible rfl | trivial | exact fun h => h | exact fun h => (by rw [h]; rfl) | omega | assumption))))
          refine CallO.use (Back_c S (by omega)) ?_
          try simp only [↓sxd, sxu, ↓zE, ↓exq, Nat.reduceBEq, Nat.reduceLT]
          (repeat' (first | rfl | exact trivial | exact fun h => h | exact fun h => (by rw [h]; rfl) | apply And.intro | omega | exact Nat.le_of_ble_eq_true rfl))) ?_
      refine Tr.seq ?_
      refine Tr.regD [0, 1, 2, 3, 4, 5, 6, 7, 8, 9, 10, 11, 12, 13, 14, 15, 16, 17, 18, 19, 20] [] [] [1, 2, 3, 7, 12, 99] mix (by kernel_rfl) (by
          simp (maxSteps := 2000000) only [↓sxd, sxu, ↓zB, zI, ↓exq, St.keep, Nat.reduceBEq, Nat.reduceLT]
          iterate 2
            (repeat ((with_reducible refine And.intro ?_ ?_); (focus (first | with_reducible rfl | trivial | exact fun h => h | exact fun h => (by rw [h]; rfl) | omega | assumption))))
            refine GdD.mk _ (fun hg => by simp (maxSteps := 2000000) only [sxu, ↓exP, ↓exq, ↓zD, Nat.reduceBEq, Nat.reduceAdd, Nat.reduceLT, tysZ7_6, hg]; (repeat' (first | rfl | exact trivial | exact fun h => h | exact fun h => (by rw [h]; rfl) | apply And.intro | omega | exact Nat.le_of_ble_eq_true rfl))) ?_
            simp (maxSteps := 2000000) only [↓sxd, sxu, ↓zB, zI, Nat.reduceBEq, Nat.reduceLT]
          (repeat ((with_reducible refine And.intro ?_ ?_); (focus (first | with_reducible rfl | trivial | exact fun h => h | exact fun h => (by rw [h]; rfl) | omega | assumption))))
          refine GdD.mk _ (fun hg => by simp (maxSteps := 2000000) only [sxu, ↓exP, Nat.reduceBEq, hg]; first | exact published_c t S hs (by omega) | exact ⟨published_c t S hs (by omega), rfl, rfl⟩ | exact ⟨published_c t S hs (by omega), trivial⟩ | exact ⟨published_c t S hs (by omega), trivial, trivial⟩) ?_
          simp (maxSteps := 2000000) only [↓sxd, sxu, ↓zB, zI, Nat.reduceBEq, Nat.reduceLT]
          iterate 3
            (repeat ((with_reducible refine And.intro ?_ ?_); (focus (first | with_reducible rfl | trivial | exact fun h => h | exact fun h => (by rw [h]; rfl) | omega | assumption))))
            refine GdD.mk _ (fun hg => by simp (maxSteps := 2000000) only [↓sxd, sxu, ↓exP, ↓exq, ↓zD, Nat.reduceBEq, Nat.reduceAdd, Nat.reduceLT, tysZ7_6, hg]; (repeat' (first | rfl | exact trivial | exact fun h => h | exact fun h => (by rw [h]; rfl) | apply And.intro | omega | exact Nat.le_of_ble_eq_true rfl))) ?_
            simp (maxSteps := 2000000) only [↓sxd, sxu, ↓zB, zI, ↓exq, ↓zH, Nat.reduceBEq, Nat.reduceLT]
          (repeat ((with_reducible refine And.intro ?_ ?_); (focus (first | with_reducible rfl | trivial | exact fun h => h | exact fun h => (by rw [h]; rfl) | omega | assumption))))
          refine GdD.mk _ (fun hg => by simp (maxSteps := 2000000) only [sxu, ↓exP, Nat.reduceBEq, hg]; first | exact hb1 | exact ⟨hb1, rfl, rfl⟩ | exact ⟨hb1, trivial⟩ | exact ⟨hb1, trivial, trivial⟩) ?_
          simp (maxSteps := 2000000) only [↓sxd, sxu, ↓zB, zI, Nat.reduceBEq, Nat.reduceLT]
          iterate 2
            (repeat ((with_reducible refine And.intro ?_ ?_); (focus (first | with_reducible rfl | trivial | exact fun h => h | exact fun h => (by rw [h]; rfl) | omega | assumption))))
            refine GdD.mk _ (fun hg => by simp (maxSteps := 2000000) only [sxu, ↓exP, ↓exq, ↓zD, Nat.reduceBEq, Nat.reduceAdd, Nat.reduceLT, tysZ7_6, hg]; (repeat' (first | rfl | exact trivial | exact fun h => h | exact fun h => (by rw [h]; rfl) | apply And.intro | omega | exact Nat.le_of_ble_eq_true rfl))) ?_
            simp (maxSteps := 2000000) only [↓sxd, sxu, ↓zB, zI, Nat.reduceBEq, Nat.reduceLT]
          (repeat ((with_reducible refine And.intro ?_ ?_); (focus (first | with_reducible rfl | trivial | exact fun h => h | exact fun h => (by rw [h]; rfl) | omega | assumption))))
          refine GdD.mk _ (fun hg => by simp (maxSteps := 2000000) only [sxu, ↓exP, Nat.reduceBEq, hg]; first | exact hb2 | exact ⟨hb2, rfl, rfl⟩ | exact ⟨hb2, trivial⟩ | exact ⟨hb2, trivial, trivial⟩) ?_
          simp (maxSteps := 2000000) only [↓sxd, sxu, ↓zB, zI, Nat.reduceBEq, Nat.reduceLT]
          iterate 3
            (repeat ((with_reducible refine And.intro ?_ ?_); (focus (first | with_reducible rfl | trivial | exact fun h => h | exact fun h => (by rw [h]; rfl) | omega | assumption))))
            refine GdD.mk _ (fun hg => by simp (maxSteps := 2000000) only [↓sxd, sxu, ↓exP, ↓exq, ↓zD, Nat.reduceBEq, Nat.reduceAdd, Nat.reduceLT, tysZ7_6, hand, hg]; (repeat' (first | rfl | exact trivial | exact fun h => h | exact fun h => (by rw [h]; rfl) | apply And.intro | omega | exact Nat.le_of_ble_eq_true rfl))) ?_
            simp (maxSteps := 2000000) only [↓sxd, sxu, ↓zB, zI, Nat.reduceBEq, Nat.reduceLT]
          (repeat ((with_reducible refine And.intro ?_ ?_); (focus (first | with_reducible rfl | trivial | exact fun h => h | exact fun h => (by rw [h]; rfl) | omega | assumption))))
          refine GdD.mk _ (fun hg => by simp (maxSteps := 2000000) only [sxu, ↓exP, Nat.reduceBEq, hg]; first | exact hb1 | exact ⟨hb1, rfl, rfl⟩ | exact ⟨hb1, trivial⟩ | exact ⟨hb1, trivial, trivial⟩) ?_
          simp (maxSteps := 2000000) only [↓sxd, sxu, ↓zB, zI, Nat.reduceBEq, Nat.reduceLT]
          (repeat ((with_reducible refine And.intro ?_ ?_); (focus (first | with_reducible rfl | trivial | exact fun h => h | exact fun h => (by rw [h]; rfl) | omega | assumption))))
          refine GdD.mk _ (fun hg => by simp (maxSteps := 2000000) only [↓sxd, sxu, ↓exP, ↓exq, Nat.reduceBEq, hg]; (repeat' (first | rfl | exact trivial | exact fun h => h | exact fun h => (by rw [h]; rfl) | apply And.intro | omega | exact Nat.le_of_ble_eq_true rfl))) ?_
          simp (maxSteps := 2000000) only [↓sxd, sxu, ↓zB, ↓exq, ↓zH, Nat.reduceBEq, Nat.reduceLT]
          (repeat' (first | rfl | exact trivial | exact fun h => h | exact fun h => (by rw [h]; rfl) | apply And.intro | omega | exact Nat.le_of_ble_eq_true rfl))) ?_
      refine Tr.cond rfl (fun h99 => ?_) (fun h99 => ?_)
      · rw [hpS] at h99; simp at h99
      · refine Tr.skip ?_
        refine Tr.seq ?_
        have hSk : (S.length ≤ 1073741824) = True := eq_true (by omega)
        refine Tr.reg [1, 2, 3, 12, 14] (by
            simp only [↓sxd, sxu, ↓zE, ↓exq, St.keep, ↓zD, Nat.reduceBEq, Nat.reduceAdd, Nat.reduceLT, tysZ7_6]
            (repeat ((with_reducible refine And.intro ?_ ?_); (focus (first | with_reducible rfl | trivial | exact fun h => h | exact fun h => (by rw [h]; rfl) | omega | assumption))))
            refine CallO.use (Table_c t hs) ?_
            try simp only [↓sxd, sxu, ↓zE, ↓exq, ↓zA, ↓zG, ↓zO, Nat.reduceBEq, Nat.reduceAdd, Nat.reduceLT, Nat.reduceLeDiff, Nat.reduceEqDiff, tysZ7_6, src_vC, vC_all, vC_len, hSk]
            (repeat ((with_reducible refine And.intro ?_ ?_); (focus (first | with_reducible rfl | trivial | exact fun h => h | exact fun h => (by rw [h]; rfl) | omega | assumption))))
            refine CallO.use (Requests_c q hq) ?_
            try simp only [↓sxd, sxu, ↓zE, Nat.reduceBEq, Nat.reduceLT]
            (repeat ((with_reducible refine And.intro ?_ ?_); (focus (first | with_reducible rfl | trivial | exact fun h => h | exact fun h => (by rw [h]; rfl) | omega | assumption))))
            refine CallO.useZ [(0, tbx t)] hE2 (.cons _ (.refl _)) (.cons (TnS.agg (.cons (TnS.d _) (.cons (TnS.d _) .nil))) (.cons (TnS.frz0 (sz := 2) (es := vC S) (by exact rfl) (by simp) (by decide) (vC_len _) (vC_fz _)) (.cons (TnS.d _) .nil))) ?_
            try simp only [↓sxd, sxu, ↓zE, ↓exq, ↓zL, Nat.reduceBEq, Nat.reduceAdd, Nat.reduceLT]
            (repeat' (first | rfl | exact trivial | exact fun h => h | exact fun h => (by rw [h]; rfl) | apply And.intro | omega | exact Nat.le_of_ble_eq_true rfl))) ?_
        refine Tr.reg [1, 2, 3, 12, 112] (by
            simp only [↓sxd, sxu, ↓zE, ↓exq, St.keep, Nat.reduceBEq, Nat.reduceLT]
            (repeat' (first | rfl | exact trivial | exact fun h => h | exact fun h => (by rw [h]; rfl) | apply And.intro | omega | exact Nat.le_of_ble_eq_true rfl))) ?_
        refine Tr.cond rfl (fun h112 => ?_) (fun h112 => ?_)
        · simp at h112
        · refine Tr.skip ?_
          refine Tr.seq ?_
          refine Tr.reg [1, 2, 3, 12, 15] (by
              simp only [↓sxd, sxu, ↓zE, ↓exq, St.keep, Nat.reduceBEq, Nat.reduceLT]
              (repeat' (first | rfl | exact trivial | exact fun h => h | exact fun h => (by rw [h]; rfl) | apply And.intro | omega | exact Nat.le_of_ble_eq_true rfl))) ?_
          refine Tr.imp (st' := ⟨[(1, SC l), (2, SQ q), (3, .ptr 0 0 0), (12, SC S), (15, I 0)], [(0, tbx t)], 2, 148, [], 0⟩) (Imp.keepAll) (Tr.block (Tr.loopI (fun mm ss => ∃ (i : Nat), (i ≤ S.length) ∧ S.length - i = mm ∧ ss = ⟨[(1, SC l), (2, SQ q), (3, .ptr 0 0 0), (12, SC S), (15, I i)], [(0, tbx t)], 2, 148, [], 0⟩) _ ⟨0, ?_, rfl, rfl⟩ ?_))
          · exact Nat.zero_le _
          rintro mm ss ⟨i, hI, rfl, rfl⟩
          refine Tr.seq ?_
          refine Tr.reg [1, 2, 3, 12, 15, 116] (by
              simp only [↓sxd, sxu, ↓zE, ↓exq, ↓zA, St.keep, ↓zK, Nat.reduceBEq, Nat.reduceLT, sxe, tysZ7_6]
              (repeat' (first | rfl | exact trivial | exact fun h => h | exact fun h => (by rw [h]; rfl) | apply And.intro | omega | exact Nat.le_of_ble_eq_true rfl))) ?_
          refine Tr.cond rfl (fun h116 => ?_) (fun h116 => ?_)
          · have hi : i < S.length := by simpa using h116
            refine Tr.skip ?_
            refine Tr.seq ?_
            refine Tr.block ?_
            refine Tr.seq ?_
            refine Tr.reg [1, 2, 3, 12, 15, 124] (by
                simp only [↓sxd, sxu, ↓zE, ↓exq, St.keep, ↓zD, Nat.reduceBEq, Nat.reduceAdd, Nat.reduceLT, sxe, tysZ7_6, hi]
                (repeat ((with_reducible refine And.intro ?_ ?_); (focus (first | with_reducible rfl | trivial | exact fun h => h | exact fun h => (by rw [h]; rfl) | omega | assumption))))
                refine CallO.use (Has_c l (S.getD i default) hl) ?_
                try simp only [↓sxd, sxu, Nat.reduceBEq]
                (repeat' (first | rfl | exact trivial | exact fun h => h | exact fun h => (by rw [h]; rfl) | apply And.intro | omega | exact Nat.le_of_ble_eq_true rfl))) ?_
            refine Tr.cond rfl (fun h124 => ?_) (fun h124 => ?_)
            · refine Tr.exit ?_
              have w1 := add1 (show i < 4611686018427387904 by omega)
              refine Tr.reg1 [1, 2, 3, 12, 15] (by
                  simp only [↓sxd, sxu, ↓zE, ↓exq, St.keep, Nat.reduceBEq, Nat.reduceLT, w1]
                  (repeat' (first | rfl | exact trivial | exact fun h => h | exact fun h => (by rw [h]; rfl) | apply And.intro | omega | exact Nat.le_of_ble_eq_true rfl))) ?_
              exact ⟨_, _, by omega, Imp.keepAll, ⟨i + 1, hi, rfl, rfl⟩⟩
            · have hno : S.getD i default ∉ l := fun h => by rw [List.contains_iff_mem.2 h] at h124; cases h124
              obtain ⟨hll, hl0⟩ := safe_less hask L hi hno
              refine Tr.skip ?_
              have tk : (S.take i).length = i := by rw [List.length_take]; omega
              have dk : (S.drop (i + 1)).length = S.length - (i + 1) := List.length_drop ..
              have w1 := add1 (show i < 4611686018427387904 by omega)
              refine Tr.regD [0, 1, 2, 3, 4, 5, 6, 7, 8, 9, 10] [4, 9] [] [1, 2, 3, 12, 15, 16] mix (by kernel_rfl) (by
                  simp only [↓sxd, sxu, ↓zB, zI, ↓exq, ↓zA, St.keep, ↓zG, ↓zO, ↓zV, sbnd, Nat.reduceBEq, Nat.reduceAdd, Nat.reduceLT, Nat.reduceLeDiff, Nat.reduceEqDiff, Int.reduceLE, sxe, tysZ7_6, List.take_length, src_vC, vC_all, vC_len, tk, dk, w1]
                  (repeat' (first | rfl | exact trivial | exact fun h => h | exact fun h => (by rw [h]; rfl) | apply And.intro | omega | exact Nat.le_of_ble_eq_true rfl))) ?_
              have hlel : (lessC S i).length = i + (S.length - (i + 1)) := by unfold lessC; rw [List.length_append, tk, dk]
              have hE3 := Exposed_c t (lessC S i) q hs hll hq
              rw [hl0] at hE3
              refine Tr.imp (st' := ⟨[(1, SC l), (2, SQ q), (3, .ptr 0 0 0), (12, SC S), (15, I i), (16, SC (lessC S i))], [(0, tbx t)], 2, 148, [], 0⟩) (Imp.go (rg 2 2) [(0, _)] rfl rfl (.cons _ (.refl _)) (fun _ h => absurd h (Nat.not_lt_zero _)) (fun id h => by rw [rg_ge h]; have h2 : 2 ≤ id := h; show 4 ≤ id + 2; omega)
                (.cons rfl (TnS.d _) (.cons rfl (TnS.d _) (.cons rfl (TnS.ptr rfl) (.cons rfl (TnS.d _) (.cons rfl (TnS.d _) (.cons rfl (TnS.frz0 (es := vC (lessC S i)) (by rw [lessC, vC_app]; rfl) (by simp) (by decide) (by rw [vC_len, hlel]) (vC_fz _)) trivial))))))
                (.cons ⟨rfl, TnO.arr (by repeat' (first | exact TmT.cons rfl (TnS.d _) ?_ | exact trivial | exact F2.nil | refine F2.append ?_ ?_ | refine F2.map fun _ _ => ?_ | refine F2.cons ?_ ?_ | refine TmT.cons rfl ?_ ?_ | exact TnS.d _ | exact TnS.dx _ | exact TnS.dp _ | exact TnS.slc rfl | exact TnS.ptr rfl | refine TnS.frzf rfl (by simp) (by simp) (by simp) ?_ | refine TnS.frz0 rfl (by simp) (by simp) (by simp) ?_ | refine TnS.frzm rfl (by simp) ?_ | exact TnS.mapr rfl | exact TnS.yld rfl | refine ⟨rfl, ?_⟩ | refine TnO.arr ?_ | refine TnO.map ?_ | exact TnO.raw _ | exact TnO.iter _ _ | refine TnS.agg ?_ | refine TnS.tup ?_ | exact TnS.pure (Pure.clo (by assumption) (by assumption)) | refine TnS.clo ?_ ?_ | exact TnS.unk _ | exact TnS.pure (Pure.clo (by assumption) (by assumption))))⟩ .nil) (fun h => h)) ?_
              refine Tr.reg [1, 2, 3, 12, 15, 18] (by
                  simp only [↓sxd, sxu, ↓zE, ↓exq, St.keep, ↓zD, Nat.reduceBEq, Nat.reduceAdd, Nat.reduceLT, tysZ7_6]
                  (repeat ((with_reducible refine And.intro ?_ ?_); (focus (first | with_reducible rfl | trivial | exact fun h => h | exact fun h => (by rw [h]; rfl) | omega | assumption))))
                  refine CallO.use (Table_c t hs) ?_
                  try simp only [↓sxd, sxu, ↓zE, ↓exq, Nat.reduceBEq, Nat.reduceLT]
                  (repeat ((with_reducible refine And.intro ?_ ?_); (focus (first | with_reducible rfl | trivial | exact fun h => h | exact fun h => (by rw [h]; rfl) | omega | assumption))))
                  refine CallO.use (Cells_c _ hll) ?_
                  try simp only [↓sxd, sxu, ↓zE, ↓exq, Nat.reduceBEq, Nat.reduceLT]
                  (repeat ((with_reducible refine And.intro ?_ ?_); (focus (first | with_reducible rfl | trivial | exact fun h => h | exact fun h => (by rw [h]; rfl) | omega | assumption))))
                  refine CallO.use (Requests_c q hq) ?_
                  try simp only [↓sxd, sxu, ↓zE, Nat.reduceBEq, Nat.reduceLT]
                  (repeat ((with_reducible refine And.intro ?_ ?_); (focus (first | with_reducible rfl | trivial | exact fun h => h | exact fun h => (by rw [h]; rfl) | omega | assumption))))
                  refine CallO.use (hE3) ?_
                  try simp only [↓sxd, sxu, ↓zE, ↓exq, ↓zL, Nat.reduceBEq, Nat.reduceAdd, Nat.reduceLT]
                  (repeat' (first | rfl | exact trivial | exact fun h => h | exact fun h => (by rw [h]; rfl) | apply And.intro | omega | exact Nat.le_of_ble_eq_true rfl))) ?_
              refine Tr.reg [1, 2, 3, 12, 15, 146] (by
                  simp only [↓sxd, sxu, ↓zE, ↓exq, St.keep, Nat.reduceBEq, Nat.reduceLT]
                  (repeat' (first | rfl | exact trivial | exact fun h => h | exact fun h => (by rw [h]; rfl) | apply And.intro | omega | exact Nat.le_of_ble_eq_true rfl))) ?_
              refine Tr.cond rfl (fun h146 => ?_) (fun h146 => ?_)
              · simp at h146
              · refine Tr.skip ?_
                have w1 := add1 (show i < 4611686018427387904 by omega)
                refine Tr.reg1 [1, 2, 3, 12, 15] (by
                    simp only [↓sxd, sxu, ↓zE, ↓exq, St.keep, Nat.reduceBEq, Nat.reduceLT, w1]
                    (repeat' (first | rfl | exact trivial | exact fun h => h | exact fun h => (by rw [h]; rfl) | apply And.intro | omega | exact Nat.le_of_ble_eq_true rfl))) ?_
                exact ⟨_, _, by omega, Imp.keepAll, ⟨i + 1, hi, rfl, rfl⟩⟩
          · have hi : i = S.length := by have := of_decide_eq_false h116; omega
            refine Tr.exit ?_
            refine Tr.reg [6] (by
                simp only [↓sxd, sxu, ↓zE, St.keep, Nat.reduceLT]
                (repeat ((with_reducible refine And.intro ?_ ?_); (focus (first | with_reducible rfl | trivial | exact fun h => h | exact fun h => (by rw [h]; rfl) | omega | assumption))))
                refine CallO.use (awake_c) ?_
                try simp only [↓sxd, sxu, ↓zE, ↓exq, Nat.reduceLT]
                (repeat' (first | rfl | exact trivial | exact fun h => h | exact fun h => (by rw [h]; rfl) | apply And.intro | omega | exact Nat.le_of_ble_eq_true rfl))) ?_
            refine Tr.ret ?_
            (refine ⟨.inr rfl, ?_⟩; first | rfl | exact ⟨rfl, rfl, trivial⟩ | exact ⟨rfl, rfl, rfl, trivial⟩ | (simp only [Res, ResL, ResOK, ↓sxd, sxu, ↓zE, ↓zB, zI, ↓exP, ↓exq, ↓zA, St.keep, ↓zH, ↓zW, ↓zJ, ↓zK, ↓zD, ↓zL, ↓zM, ↓zG, ↓zO, ↓zV, ↓zC, sbnd, Nat.reduceBEq, Nat.reduceAdd, Nat.reduceLT, Nat.reduceMul, Nat.reduceSub, Nat.reduceLeDiff, Nat.reduceEqDiff, Int.reduceLE, Int.reduceLT, Int.reduceToNat, reduceIte, implies_true, sxe, tysZ7_6]; (repeat' (first | rfl | exact trivial | exact fun h => h | exact fun h => (by rw [h]; rfl) | apply And.intro | omega | exact Nat.le_of_ble_eq_true rfl))))
end Go.Proofs.YtijechcadlklhaaGreat
