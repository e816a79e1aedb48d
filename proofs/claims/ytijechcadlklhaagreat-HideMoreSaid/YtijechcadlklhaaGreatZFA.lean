/- Lemmas, part ZFA. Conditions: none. -/
import Derived.Test.YtijechcadlklhaaGreatZABC
set_option linter.unusedVariables false
namespace Go.Proofs.YtijechcadlklhaaGreat
theorem HW.Cand.Can {w : HW} {n m : Nat} (hw : w.Ok n m) {y : Rows8} (hy : w.Cand n m y) (r c : Nat) : w.Can r c (cellAt y r c) := by
  unfold HW.Can
  cases hh : w.h r c
  · simp [hy.fit.shown r c hh]
  · simp only [if_true]; exact hy.can hw hh
end Go.Proofs.YtijechcadlklhaaGreat
namespace Go.Proofs.YtijechcadlklhaaGreat
theorem HW.Cand.more {w w' : HW} {n m : Nat} (hr : w'.rows = w.rows) (hc : w'.cap = w.cap) (hh : ∀ r c, w.h r c = true → w'.h r c = true) {y : Rows8} (hy : w.Cand n m y) : w'.Cand n m y := by
  refine ⟨⟨hy.fit.dim, fun r c h1 h2 => by rw [hc]; exact hy.fit.cell r c h1 h2, fun r c h => ?_⟩, fun r => by rw [hr]; exact hy.row r, fun c => by rw [hr]; exact hy.col c⟩
  rw [hr]
  refine hy.fit.shown r c ?_
  cases e : w.h r c
  · rfl
  · rw [hh r c e] at h; cases h
theorem HW.Ok.wider {w w' : HW} {n m : Nat} (hw : w.Ok n m) (hw' : w'.Ok n m) (hr : w'.rows = w.rows) (hc : w'.cap = w.cap) (hh : ∀ r c, w.h r c = true → w'.h r c = true) (r c : Nat) : w'.lo r c ≤ w.lo r c ∧ w.hi r c ≤ w'.hi r c := by
  have h1 := ((hw.ends false r c).more hr hc hh).Can hw' r c
  have h2 := ((hw.ends true r c).more hr hc hh).Can hw' r c
  rw [hw'.can_iff] at h1 h2
  exact ⟨h1.1, h2.2⟩
theorem HW.Ok.sat_more {w w' : HW} {n m : Nat} (hw : w.Ok n m) (hw' : w'.Ok n m) (hr : w'.rows = w.rows) (hc : w'.cap = w.cap) (hh : ∀ r c, w.h r c = true → w'.h r c = true) {q : HQ} (hq : w.sat q = true) : w'.sat q = true := by
  have := hw.wider hw' hr hc hh q.cell.row.toNat q.cell.col.toNat
  unfold HW.sat at hq ⊢
  rw [Bool.and_eq_true, decide_eq_true_eq, decide_eq_true_eq] at hq ⊢
  rw [hr]
  omega
theorem HidOk.mono_h {t : HT} {n m : Nat} {l l' : List HC} (hl : HidOk n m l) (hl' : HidOk n m l') (hn : n ≤ 3) (hm : m ≤ 4) (hs : ∀ c ∈ l, c ∈ l') (r c : Nat) (h : (t.w l).h r c = true) : (t.w l').h r c = true :=
  (hl'.h_iff hn hm).2 (hs _ ((hl.h_iff hn hm).1 h))
end Go.Proofs.YtijechcadlklhaaGreat
namespace Go.Proofs.YtijechcadlklhaaGreat
section
variable {t : HT} {l : List HC}
def HT.good (t : HT) (S : List HC) (q : List HQ) : Bool := (t.w S).good q
theorem good_more {S S' : List HC} {q : List HQ} (h : t.check = 0) (hS : HidOk t.n t.m S) (hS' : HidOk t.n t.m S') (hsub : ∀ c ∈ S, c ∈ S') (hg : t.good S q = true) : t.good S' q = true := by
  have ho := HT.check_ok h
  have o1 := HT.w_ok (HT.pub_of h hS)
  have o2 := HT.w_ok (HT.pub_of h hS')
  unfold HT.good HW.good at *
  rw [List.all_eq_true] at *
  intro x hx
  exact o1.sat_more o2 rfl rfl (fun r c hh => hS.mono_h (t := t) hS' ho.n3 ho.m4 hsub r c hh) (hg x hx)
end
def setR (n m bits : Nat) : List HC := (gridC n m).filter fun c => bits.testBit (c.row.toNat * m + c.col.toNat)
def bitsTo (m : Nat) (l : List HC) : Nat → Nat
  | 0 => 0
  | k + 1 => bitsTo m l k ||| 2 ^ ((l.getD k default).row.toNat * m + (l.getD k default).col.toNat)
def bitsR (m : Nat) (l : List HC) : Nat := bitsTo m l l.length
theorem setR_ok {n m : Nat} (hm : m ≤ 4) (b : Nat) : HidOk n m (setR n m b) := (gridC_ok hm).filter _
theorem mem_setR {n m b : Nat} {c : HC} : c ∈ setR n m b ↔ c ∈ gridC n m ∧ b.testBit (c.row.toNat * m + c.col.toNat) = true := List.mem_filter
theorem idx_inj {m a b c d : Nat} (hb : b < m) (hd : d < m) (h : a * m + b = c * m + d) : a = c ∧ b = d := by
  have h1 : (a * m + b) / m = a := by rw [Nat.mul_comm, Nat.mul_add_div (by omega), Nat.div_eq_of_lt hb]; omega
  have h2 : (c * m + d) / m = c := by rw [Nat.mul_comm, Nat.mul_add_div (by omega), Nat.div_eq_of_lt hd]; omega
  rw [h, h2] at h1
  subst h1
  omega
theorem bitsTo_test (m : Nat) (l : List HC) (j : Nat) : ∀ k, (bitsTo m l k).testBit j = true ↔ ∃ i, i < k ∧ (l.getD i default).row.toNat * m + (l.getD i default).col.toNat = j
  | 0 => by simp [bitsTo]
  | k + 1 => by
    rw [bitsTo, Nat.testBit_or, Bool.or_eq_true, bitsTo_test m l j k, Nat.testBit_two_pow, decide_eq_true_eq]
    constructor
    · rintro (⟨i, hi, h⟩ | h)
      · exact ⟨i, by omega, h⟩
      · exact ⟨k, by omega, h⟩
    · rintro ⟨i, hi, h⟩
      by_cases e : i = k
      · subst e; exact .inr h
      · exact .inl ⟨i, by omega, h⟩
theorem bitsR_test {n m : Nat} {l : List HC} (hl : HidOk n m l) {c : HC} (hc : c ∈ gridC n m) : (bitsR m l).testBit (c.row.toNat * m + c.col.toNat) = true ↔ c ∈ l := by
  have hb := mem_gridC.1 hc
  unfold bitsR
  rw [bitsTo_test]
  constructor
  · rintro ⟨i, hi, h⟩
    have hm := getD_mem' (default : HC) hi
    have hb' := hl.cell _ hm
    have := idx_inj (by omega) (by omega) h
    have e : l.getD i default = c := by
      cases hx : l.getD i default with
      | mk a b =>
        rw [hx] at this hb'
        cases c
        simp only at this hb hb'
        congr 1 <;> omega
    rwa [e] at hm
  · intro h
    obtain ⟨i, hi, e⟩ := mem_getD' h
    exact ⟨i, hi, by rw [e]⟩
theorem setR_bits {n m : Nat} {l : List HC} (hl : HidOk n m l) (hm : m ≤ 4) : setR n m (bitsR m l) = l := by
  refine HidOk.ext (setR_ok hm _) hl hm fun c => ?_
  rw [mem_setR]
  constructor
  · rintro ⟨h1, h2⟩; exact (bitsR_test hl h1).1 h2
  · intro h
    have hg := mem_gridC.2 (hl.cell c h)
    exact ⟨hg, (bitsR_test hl hg).2 h⟩
theorem idx_lt {n m : Nat} {c : HC} (hc : c ∈ gridC n m) : c.row.toNat * m + c.col.toNat < n * m := by
  have hb := mem_gridC.1 hc
  have h1 : c.row.toNat + 1 ≤ n := by omega
  have := Nat.mul_le_mul_right m h1
  rw [Nat.add_mul] at this
  omega
theorem bitsR_lt {n m : Nat} {l : List HC} (hl : HidOk n m l) : bitsR m l < 2 ^ (n * m) := by
  refine Nat.lt_pow_two_of_testBit _ fun j hj => ?_
  cases h : (bitsR m l).testBit j
  · rfl
  · obtain ⟨i, hi, e⟩ := (bitsTo_test m l j l.length).1 h
    have := idx_lt (n := n) (m := m) (mem_gridC.2 (hl.cell _ (getD_mem' default hi)))
    omega
end Go.Proofs.YtijechcadlklhaaGreat
namespace Go.Proofs.YtijechcadlklhaaGreat
open Go.Sy
set_option maxRecDepth 8000
theorem thin0_c (t : HT) (l : List HC) : CallP Tryz.prog G0 10 [t.s, SC l, .dx []] (B (shortB t.rows && decide ((l.length : Int) ≤ 20))) := by
  have h : CallP Tryz.prog G0 10 [t.s, SC l, .dx []] _ := CallP.arg (Thin_c t l []) (.cons (fun _ _ _ _ h => h) (.cons (fun _ _ _ _ h => h) (.cons (fun pl ok w v h => dxd _ pl ok w v h) .nil)))
  rw [show (decide ((([] : List HQ).length : Int) ≤ 11)) = true from rfl, Bool.and_true] at h
  exact h
theorem thin0_go {t : HT} {a : List HC} (h : (shortB t.rows && decide ((a.length : Int) ≤ 20)) = true) : small8 t.rows ∧ a.length ≤ 1000 := by
  simp only [Bool.and_eq_true, decide_eq_true_eq] at h
  exact ⟨short_small h.1, by omega⟩
def HT.ready (t : HT) (l : List HC) : Bool := shortB t.rows && decide ((l.length : Int) ≤ 20) && decide (t.pub l = 0)
theorem ready_ok {t : HT} {l : List HC} (h : t.ready l = true) : small8 t.rows ∧ l.length ≤ 1000 ∧ t.pub l = 0 := by
  unfold HT.ready at h
  simp only [Bool.and_eq_true, decide_eq_true_eq] at h
  obtain ⟨⟨h1, h2⟩, h3⟩ := h
  exact ⟨short_small h1, by omega, h3⟩
abbrev tysH31_22 := And.intro ty.sz0 <| And.intro ty.agg0 <| And.intro ty.elem0 <| And.intro ty.sz4 <| And.intro ty.agg4 <| And.intro ty.elem4 <| And.intro ty.zero4 <| And.intro ty.und4 <| And.intro ty.sz24 <| And.intro ty.agg24 <| And.intro ty.fld24_0 <| And.intro ty.fld24_1 <| And.intro ty.elem24 <| And.intro ty.zero24 <| And.intro ty.pl24 <| And.intro ty.sz25 <| And.intro ty.agg25 <| And.intro ty.elem25 <| And.intro ty.by25 <| And.intro ty.ez25 <| And.intro ty.zero25 <| And.intro ty.und25 <| And.intro ty.sz29 <| And.intro ty.agg29 <| And.intro ty.elem29 <| And.intro ty.zero29 <| ty.und29
theorem ready_c (t : HT) (l : List HC) : CallP Tryz.prog G0 22 [t.s, SC l] (B (t.ready l)) := by
  refine CallP.body 14 [.tmp 4] Tryz.func22 (by kernel_rfl) rfl rfl rfl (by repeat' (first | exact Pure.d _ | exact Pure.dx _ | exact Pure.dp _ | exact fa_nil | refine fa_cons ?_ ?_ | refine Pure.agg ?_ | refine Pure.tup ?_ | refine Pure.clo ?_ ?_ | refine Pure.fp ?_ | exact Pure.mapd _ | assumption)) (by repeat' (first | exact Pure.d _ | exact Pure.dx _ | exact Pure.dp _ | exact fa_nil | refine fa_cons ?_ ?_ | refine Pure.agg ?_ | refine Pure.tup ?_ | refine Pure.clo ?_ ?_ | refine Pure.fp ?_ | exact Pure.mapd _ | assumption)) ?_
  refine Tr.reg [1, 2] (by
      simp only [↓sxd, sxu, ↓zE, ↓exq, St.keep, ↓zM, Nat.reduceBEq, Nat.reduceAdd, Nat.reduceLT, Nat.reduceEqDiff]
      (repeat' (first | rfl | exact trivial | exact fun h => h | exact fun h => (by rw [h]; rfl) | apply And.intro | omega | exact Nat.le_of_ble_eq_true rfl))) ?_
  refine Tr.reg [4] (by
      simp only [↓sxd, sxu, ↓zE, ↓exq, St.keep, ↓zD, Nat.reduceBEq, Nat.reduceAdd, Nat.reduceLT, tysH31_22]
      (repeat ((with_reducible refine And.intro ?_ ?_); (focus (first | with_reducible rfl | trivial | exact fun h => h | exact fun h => (by rw [h]; rfl) | omega | assumption))))
      refine CallO.use (thin0_c t l) ?_
      try simp only [↓sxd, sxu, ↓zE, ↓exq, Nat.reduceLT]
      iterate 2
        (repeat ((with_reducible refine And.intro ?_ ?_); (focus (first | with_reducible rfl | trivial | exact fun h => h | exact fun h => (by rw [h]; rfl) | omega | assumption))))
        refine GdO.mk _ (fun hg => by simp only [sxu, ↓exq, ↓zD, Nat.reduceBEq, Nat.reduceAdd, Nat.reduceLT, tysH31_22, hg]; (repeat' (first | rfl | exact trivial | exact fun h => h | exact fun h => (by rw [h]; rfl) | apply And.intro | omega | exact Nat.le_of_ble_eq_true rfl))) ?_
        simp only [↓sxd, sxu, ↓zE, Nat.reduceBEq, Nat.reduceLT]
      (repeat ((with_reducible refine And.intro ?_ ?_); (focus (first | with_reducible rfl | trivial | exact fun h => h | exact fun h => (by rw [h]; rfl) | omega | assumption))))
      refine GdO.mk _ (fun hg => by simp only [sxu, ↓exq, ↓zA, Nat.reduceBEq, hg]; (repeat ((with_reducible refine And.intro ?_ ?_); (focus (first | with_reducible rfl | trivial | exact fun h => h | exact fun h => (by rw [h]; rfl) | omega | assumption)))); exact CallP.use (published_c t l (thin0_go hg).1 (thin0_go hg).2) ⟨rfl, rfl, rfl⟩) ?_
      simp only [↓sxd, sxu, ↓zE, Nat.reduceBEq, Nat.reduceLT]
      (repeat ((with_reducible refine And.intro ?_ ?_); (focus (first | with_reducible rfl | trivial | exact fun h => h | exact fun h => (by rw [h]; rfl) | omega | assumption))))
      refine GdO.mk _ (fun hg => by simp only [↓sxd, sxu, ↓exq, hg]; (repeat' (first | rfl | exact trivial | exact fun h => h | exact fun h => (by rw [h]; rfl) | apply And.intro | omega | exact Nat.le_of_ble_eq_true rfl))) ?_
      simp only [↓sxd, sxu, ↓zE, ↓exq, ↓zH, Nat.reduceBEq, Nat.reduceLT]
      (repeat' (first | rfl | exact trivial | exact fun h => h | exact fun h => (by rw [h]; rfl) | apply And.intro | omega | exact Nat.le_of_ble_eq_true rfl))) ?_
  refine Tr.ret ?_
  exact ⟨.inr rfl, congrArg (fun n => some (B n)) (by
  unfold HT.ready
  rw [show decide (t.pub l = 0) = (t.pub l == 0) from by rw [Bool.eq_iff_iff, beq_iff_eq, decide_eq_true_eq]])⟩
theorem bit_eq {b n : Nat} (hb : b < 18446744073709551616) : (((b : Int).fdiv (2 ^ min n IntKind.i64.bits)).tmod 2 == 1) = b.testBit n := by
  rw [bit_i hb, bitI_test]
  cases b.testBit n <;> rfl
abbrev tysH31_23 := And.intro ty.sz0 <| And.intro ty.agg0 <| And.intro ty.elem0 <| And.intro ty.sz3 <| And.intro ty.agg3 <| And.intro ty.elem3 <| And.intro ty.zero3 <| And.intro ty.und3 <| And.intro ty.sz4 <| And.intro ty.agg4 <| And.intro ty.elem4 <| And.intro ty.zero4 <| And.intro ty.und4 <| And.intro ty.sz22 <| And.intro ty.agg22 <| And.intro ty.elem22 <| And.intro ty.by22 <| And.intro ty.ez22 <| And.intro ty.zero22 <| And.intro ty.und22 <| And.intro ty.sz24 <| And.intro ty.agg24 <| And.intro ty.fld24_0 <| And.intro ty.fld24_1 <| And.intro ty.elem24 <| And.intro ty.zero24 <| And.intro ty.pl24 <| And.intro ty.sz25 <| And.intro ty.agg25 <| And.intro ty.elem25 <| And.intro ty.by25 <| And.intro ty.ez25 <| And.intro ty.zero25 <| And.intro ty.und25 <| And.intro ty.sz41 <| And.intro ty.agg41 <| And.intro ty.fld41_0 <| And.intro ty.fld41_1 <| And.intro ty.elem41 <| And.intro ty.zero41 <| And.intro ty.pl41 <| And.intro ty.sz44 <| And.intro ty.agg44 <| And.intro ty.elem44 <| And.intro ty.by44 <| And.intro ty.ez44 <| And.intro ty.zero44 <| And.intro ty.und44 <| And.intro ty.sz54 <| And.intro ty.agg54 <| And.intro ty.elem54 <| And.intro ty.zero54 <| ty.und54
theorem Set_c (t : HT) (b : Nat) (hb : b < 4611686018427387904) (h0 : t.check = 0) : CallP Tryz.prog G0 23 [t.s, I (b : Nat)] (SC (setR t.n t.m b)) := by
  have ho := HT.check_ok h0
  change t.Ok t.n t.m at ho
  have hn3 := ho.n3
  have hm4 := ho.m4
  have hnn : t.rows.length = t.n := rfl
  have hmm : (t.rows.getD 0 []).length = t.m := rfl
  have hn0 := ho.n0
  obtain ⟨p, hp⟩ : ∃ p : HC → Bool, p = fun c => b.testBit (c.row.toNat * t.m + c.col.toNat) := ⟨_, rfl⟩
  obtain ⟨L, hL⟩ : ∃ L, L = selC p t.n t.m (0 * t.m) := ⟨_, rfl⟩
  have hLl : L.length ≤ 12 := by rw [hL]; exact sel_len hn3 hm4
  rw [show setR t.n t.m b = L by rw [hL, sel_zero, hp]; rfl]
  have hr0 : 0 < t.rows.length := by omega
  have hbd := fun n : Nat => bit_eq (b := b) (n := n) (by omega)
  generalize t.n = n at *
  generalize t.m = m at *
  refine CallP.body 40 [.tmp 4] Tryz.func23 (by kernel_rfl) rfl rfl rfl (by repeat' (first | exact Pure.d _ | exact Pure.dx _ | exact Pure.dp _ | exact fa_nil | refine fa_cons ?_ ?_ | refine Pure.agg ?_ | refine Pure.tup ?_ | refine Pure.clo ?_ ?_ | refine Pure.fp ?_ | exact Pure.mapd _ | assumption)) (by repeat' (first | exact Pure.d _ | exact Pure.dx _ | exact Pure.dp _ | exact fa_nil | refine fa_cons ?_ ?_ | refine Pure.agg ?_ | refine Pure.tup ?_ | refine Pure.clo ?_ ?_ | refine Pure.fp ?_ | exact Pure.mapd _ | assumption)) ?_
  refine Tr.reg [1, 2] (by
      simp only [↓sxd, sxu, ↓zE, ↓exq, St.keep, ↓zM, Nat.reduceBEq, Nat.reduceAdd, Nat.reduceLT, Nat.reduceEqDiff]
      (repeat' (first | rfl | exact trivial | exact fun h => h | exact fun h => (by rw [h]; rfl) | apply And.intro | omega | exact Nat.le_of_ble_eq_true rfl))) ?_
  refine Tr.reg [1, 2, 5] (by
      simp only [↓sxd, sxu, ↓zE, ↓exq, St.keep, Nat.reduceBEq, Nat.reduceLT]
      (repeat' (first | rfl | exact trivial | exact fun h => h | exact fun h => (by rw [h]; rfl) | apply And.intro | omega | exact Nat.le_of_ble_eq_true rfl))) ?_
  refine Tr.reg [1, 2, 5, 6] (by
      simp only [↓sxd, sxu, ↓zE, ↓exq, St.keep, Nat.reduceBEq, Nat.reduceLT]
      (repeat' (first | rfl | exact trivial | exact fun h => h | exact fun h => (by rw [h]; rfl) | apply And.intro | omega | exact Nat.le_of_ble_eq_true rfl))) ?_
  refine Tr.seq ?_
  refine Tr.reg [1, 2, 5, 6, 7] (by
      simp only [↓sxd, sxu, ↓zE, ↓exq, St.keep, Nat.reduceBEq, Nat.reduceLT]
      (repeat' (first | rfl | exact trivial | exact fun h => h | exact fun h => (by rw [h]; rfl) | apply And.intro | omega | exact Nat.le_of_ble_eq_true rfl))) ?_
  refine Tr.imp (st' := ⟨[(1, I (b : Nat)), (2, .ptr 0 0 0), (5, .slc 1 2 0 [].length [].length), (6, I ((0 * m : Nat) : Int)), (7, I 0)], [(1, .arr 2 (vC [])), (0, tbx t)], 2, 40, [], 0⟩) (by rw [Nat.zero_mul]; exact Imp.goV 2 rfl rfl rfl rfl (by repeat' (first | exact trivial | exact F2.nil | refine F2.cons ?_ ?_ | refine TmV.cons rfl VnS.nil ?_ | refine TmV.cons rfl VnS.same ?_ | refine ⟨rfl, ?_⟩ | exact VnO.same _ | refine VnO.arr ?_ | exact VnS.nil | exact VnS.same | exact F2.refl fun _ _ => VnS.same)) (F2.refl fun _ _ => ⟨rfl, VnO.same _⟩)) (Tr.block (Tr.loopI (fun mm ss => ∃ (r : Nat) (l : List HC), (r ≤ n ∧ l ++ selC p n m (r * m) = L) ∧ n - r = mm ∧ ss = ⟨[(1, I (b : Nat)), (2, .ptr 0 0 0), (5, .slc 1 2 0 l.length l.length), (6, I ((r * m : Nat) : Int)), (7, I r)], [(1, .arr 2 (vC l)), (0, tbx t)], 2, 40, [], 0⟩) _ ⟨0, [], ?_, rfl, rfl⟩ ?_))
  · exact ⟨Nat.zero_le _, hL.symm⟩
  rintro mm ss ⟨r, l, hI, rfl, rfl⟩
  obtain ⟨hrn, hsel⟩ := hI
  refine Tr.seq ?_
  refine Tr.reg [1, 2, 5, 6, 7, 13] (by
      simp only [↓sxd, sxu, ↓zE, ↓exq, ↓zA, St.keep, ↓zK, ↓zD, ↓zC, Nat.reduceBEq, Nat.reduceAdd, Nat.reduceLT, Nat.reduceEqDiff, sxe, tysH31_23]
      (repeat' (first | rfl | exact trivial | exact fun h => h | exact fun h => (by rw [h]; rfl) | apply And.intro | omega | exact Nat.le_of_ble_eq_true rfl))) ?_
  refine Tr.cond rfl (fun h13 => ?_) (fun h13 => ?_)
  · have hr : r < n := by rw [hnn] at h13; simpa using h13
    refine Tr.skip ?_
    refine Tr.seq ?_
    refine Tr.block ?_
    refine Tr.reg [1, 2, 5, 6, 7, 8] (by
        simp only [↓sxd, sxu, ↓zE, ↓exq, St.keep, Nat.reduceBEq, Nat.reduceLT]
        (repeat' (first | rfl | exact trivial | exact fun h => h | exact fun h => (by rw [h]; rfl) | apply And.intro | omega | exact Nat.le_of_ble_eq_true rfl))) ?_
    refine Tr.imp (st' := ⟨[(1, I (b : Nat)), (2, .ptr 0 0 0), (5, .slc 1 2 0 l.length l.length), (6, I ((r * m + 0 : Nat) : Int)), (7, I r), (8, I 0)], [(1, .arr 2 (vC l)), (0, tbx t)], 2, 40, [], 0⟩) (Imp.keepAll) (Tr.block (Tr.loopI (fun mm ss => ∃ (c : Nat) (l2 : List HC), (c ≤ m ∧ l2 ++ selC p n m (r * m + c) = L) ∧ m - c = mm ∧ ss = ⟨[(1, I (b : Nat)), (2, .ptr 0 0 0), (5, .slc 1 2 0 l2.length l2.length), (6, I ((r * m + c : Nat) : Int)), (7, I r), (8, I c)], [(1, .arr 2 (vC l2)), (0, tbx t)], 2, 40, [], 0⟩) _ ⟨0, l, ?_, rfl, rfl⟩ ?_))
    · exact ⟨Nat.zero_le _, hsel⟩
    rintro mm ss ⟨c, l2, hI, rfl, rfl⟩
    obtain ⟨hcm, hsel2⟩ := hI
    refine Tr.seq ?_
    refine Tr.reg [1, 2, 5, 6, 7, 8, 22] (by
        simp only [↓sxd, sxu, ↓zE, ↓exq, ↓zA, St.keep, ↓zK, ↓zD, ↓zC, Nat.reduceBEq, Nat.reduceAdd, Nat.reduceLT, Nat.reduceEqDiff, Int.reduceLE, sxe, tysH31_23, hr0]
        (repeat' (first | rfl | exact trivial | exact fun h => h | exact fun h => (by rw [h]; rfl) | apply And.intro | omega | exact Nat.le_of_ble_eq_true rfl))) ?_
    refine Tr.cond rfl (fun h22 => ?_) (fun h22 => ?_)
    · have hc : c < m := by rw [hmm] at h22; simpa using h22
      have hll : l2.length ≤ 12 := by
        rw [← hsel2, List.length_append] at hLl; omega
      have hk2 : (l2.length + 1 ≤ 1073741824) = True := eq_true (by omega)
      have hrm : r * m ≤ 12 := Nat.le_trans (Nat.mul_le_mul (show r ≤ 3 by omega) hm4) (by decide)
      have hpe : p ⟨(r : Nat), (c : Nat)⟩ = b.testBit (r * m + c) := by rw [hp]; rfl
      have hcn : c + 1 ≤ m := hc
      refine Tr.skip ?_
      refine Tr.seq ?_
      refine Tr.block ?_
      refine Tr.seq ?_
      have u1 : IntKind.u64.wrap ((r * m + c : Nat) : Int) = ((r * m + c : Nat) : Int) := wu (by omega) (by omega)
      have hbe := hbd (r * m + c)
      refine Tr.reg [1, 2, 5, 6, 7, 8, 30] (by
          simp only [↓sxd, sxu, ↓zE, ↓exq, St.keep, ↓zW, Nat.reduceBEq, Nat.reduceLT, sxe, tysH31_23, u1, hbe]
          (repeat' (first | rfl | exact trivial | exact fun h => h | exact fun h => (by rw [h]; rfl) | apply And.intro | omega | exact Nat.le_of_ble_eq_true rfl))) ?_
      refine Tr.cond rfl (fun h30 => ?_) (fun h30 => ?_)
      · have hy : p ⟨(r : Nat), (c : Nat)⟩ = true := by rw [hpe]; exact h30
        rw [sel_yes (by omega) hc hy] at hsel2
        refine Tr.reg1 [1, 2, 5, 6, 7, 8] (by
            simp only [↓sxd, sxu, ↓zE, ↓exq, ↓zA, St.keep, ↓zQ, ↓zG, ↓zO, Nat.reduceBEq, Nat.reduceAdd, Nat.reduceLT, Nat.reduceLeDiff, Nat.reduceEqDiff, tysH31_23, vC_len, hk2]
            (repeat' (first | rfl | exact trivial | exact fun h => h | exact fun h => (by rw [h]; rfl) | apply And.intro | omega | exact Nat.le_of_ble_eq_true rfl))) ?_
        have w1 := add1 (show r * m + c < 4611686018427387904 by omega)
        refine Tr.reg1 [1, 2, 5, 6, 7, 8] (by
            simp only [↓sxd, sxu, ↓zE, ↓exq, St.keep, Nat.reduceBEq, Nat.reduceLT, w1]
            (repeat' (first | rfl | exact trivial | exact fun h => h | exact fun h => (by rw [h]; rfl) | apply And.intro | omega | exact Nat.le_of_ble_eq_true rfl))) ?_
        have w1 := add1 (show c < 4611686018427387904 by omega)
        refine Tr.reg1 [1, 2, 5, 6, 7, 8] (by
            simp only [↓sxd, sxu, ↓zE, ↓exq, St.keep, Nat.reduceBEq, Nat.reduceLT, w1]
            (repeat' (first | rfl | exact trivial | exact fun h => h | exact fun h => (by rw [h]; rfl) | apply And.intro | omega | exact Nat.le_of_ble_eq_true rfl))) ?_
        first
        | exact ⟨_, _, by omega, Imp.keepAll, ⟨c + 1, l2, ⟨hcn, hsel2⟩, rfl, rfl⟩⟩
        | (refine ⟨_, _, ?_, ?_, ⟨c + 1, l2 ++ [⟨(r : Nat), (c : Nat)⟩], ⟨hcn, by rw [List.append_assoc]; exact hsel2⟩, rfl, rfl⟩⟩
           · omega
           · rw [List.length_append, List.length_singleton, vC_snoc]
             exact Imp.go (fun i => if i = 0 then 0 else i + 1) _ rfl rfl (List.Sublist.refl _) (fun _ h => absurd h (Nat.not_lt_zero _)) (fun id h => by have h2 : 2 ≤ id := h; show 3 ≤ if id = 0 then 0 else id + 1; rw [if_neg (by omega)]; omega) (by repeat' (first | exact TmT.cons rfl (TnS.d _) ?_ | exact trivial | exact F2.nil | refine F2.append ?_ ?_ | refine F2.map fun _ _ => ?_ | refine F2.cons ?_ ?_ | refine TmT.cons rfl ?_ ?_ | exact TnS.d _ | exact TnS.dx _ | exact TnS.dp _ | exact TnS.slc rfl | exact TnS.ptr rfl | refine TnS.frzf rfl (by simp) (by simp) (by simp) ?_ | refine TnS.frz0 rfl (by simp) (by simp) (by simp) ?_ | refine TnS.frzm rfl (by simp) ?_ | exact TnS.mapr rfl | exact TnS.yld rfl | refine ⟨rfl, ?_⟩ | refine TnO.arr ?_ | refine TnO.map ?_ | exact TnO.raw _ | exact TnO.iter _ _ | refine TnS.agg ?_ | refine TnS.tup ?_ | exact TnS.pure (Pure.clo (by assumption) (by assumption)) | refine TnS.clo ?_ ?_ | exact TnS.unk _ | exact TnS.pure (Pure.clo (by assumption) (by assumption)))) (.cons ⟨rfl, TnO.arr (F2.append (vC_tn _) (.cons (.cons (TnS.d _) (.cons (TnS.d _) .nil)) .nil))⟩ (.cons ⟨rfl, TnO.arr (by repeat' (first | exact TmT.cons rfl (TnS.d _) ?_ | exact trivial | exact F2.nil | refine F2.append ?_ ?_ | refine F2.map fun _ _ => ?_ | refine F2.cons ?_ ?_ | refine TmT.cons rfl ?_ ?_ | exact TnS.d _ | exact TnS.dx _ | exact TnS.dp _ | exact TnS.slc rfl | exact TnS.ptr rfl | refine TnS.frzf rfl (by simp) (by simp) (by simp) ?_ | refine TnS.frz0 rfl (by simp) (by simp) (by simp) ?_ | refine TnS.frzm rfl (by simp) ?_ | exact TnS.mapr rfl | exact TnS.yld rfl | refine ⟨rfl, ?_⟩ | refine TnO.arr ?_ | refine TnO.map ?_ | exact TnO.raw _ | exact TnO.iter _ _ | refine TnS.agg ?_ | refine TnS.tup ?_ | exact TnS.pure (Pure.clo (by assumption) (by assumption)) | refine TnS.clo ?_ ?_ | exact TnS.unk _ | exact TnS.pure (Pure.clo (by assumption) (by assumption))))⟩ .nil)) (fun h => h))
      · have hy : p ⟨(r : Nat), (c : Nat)⟩ = false := by rw [hpe]; exact h30
        rw [sel_no (by omega) hc hy] at hsel2
        refine Tr.skip ?_
        have w1 := add1 (show r * m + c < 4611686018427387904 by omega)
        refine Tr.reg1 [1, 2, 5, 6, 7, 8] (by
            simp only [↓sxd, sxu, ↓zE, ↓exq, St.keep, Nat.reduceBEq, Nat.reduceLT, w1]
            (repeat' (first | rfl | exact trivial | exact fun h => h | exact fun h => (by rw [h]; rfl) | apply And.intro | omega | exact Nat.le_of_ble_eq_true rfl))) ?_
        have w1 := add1 (show c < 4611686018427387904 by omega)
        refine Tr.reg1 [1, 2, 5, 6, 7, 8] (by
            simp only [↓sxd, sxu, ↓zE, ↓exq, St.keep, Nat.reduceBEq, Nat.reduceLT, w1]
            (repeat' (first | rfl | exact trivial | exact fun h => h | exact fun h => (by rw [h]; rfl) | apply And.intro | omega | exact Nat.le_of_ble_eq_true rfl))) ?_
        first
        | exact ⟨_, _, by omega, Imp.keepAll, ⟨c + 1, l2, ⟨hcn, hsel2⟩, rfl, rfl⟩⟩
        | (refine ⟨_, _, ?_, ?_, ⟨c + 1, l2 ++ [⟨(r : Nat), (c : Nat)⟩], ⟨hcn, by rw [List.append_assoc]; exact hsel2⟩, rfl, rfl⟩⟩
           · omega
           · rw [List.length_append, List.length_singleton, vC_snoc]
             exact Imp.go (fun i => if i = 0 then 0 else i + 1) _ rfl rfl (List.Sublist.refl _) (fun _ h => absurd h (Nat.not_lt_zero _)) (fun id h => by have h2 : 2 ≤ id := h; show 3 ≤ if id = 0 then 0 else id + 1; rw [if_neg (by omega)]; omega) (by repeat' (first | exact TmT.cons rfl (TnS.d _) ?_ | exact trivial | exact F2.nil | refine F2.append ?_ ?_ | refine F2.map fun _ _ => ?_ | refine F2.cons ?_ ?_ | refine TmT.cons rfl ?_ ?_ | exact TnS.d _ | exact TnS.dx _ | exact TnS.dp _ | exact TnS.slc rfl | exact TnS.ptr rfl | refine TnS.frzf rfl (by simp) (by simp) (by simp) ?_ | refine TnS.frz0 rfl (by simp) (by simp) (by simp) ?_ | refine TnS.frzm rfl (by simp) ?_ | exact TnS.mapr rfl | exact TnS.yld rfl | refine ⟨rfl, ?_⟩ | refine TnO.arr ?_ | refine TnO.map ?_ | exact TnO.raw _ | exact TnO.iter _ _ | refine TnS.agg ?_ | refine TnS.tup ?_ | exact TnS.pure (Pure.clo (by assumption) (by assumption)) | refine TnS.clo ?_ ?_ | exact TnS.unk _ | exact TnS.pure (Pure.clo (by assumption) (by assumption)))) (.cons ⟨rfl, TnO.arr (F2.append (vC_tn _) (.cons (.cons (TnS.d _) (.cons (TnS.d _) .nil)) .nil))⟩ (.cons ⟨rfl, TnO.arr (by repeat' (first | exact TmT.cons rfl (TnS.d _) ?_ | exact trivial | exact F2.nil | refine F2.append ?_ ?_ | refine F2.map fun _ _ => ?_ | refine F2.cons ?_ ?_ | refine TmT.cons rfl ?_ ?_ | exact TnS.d _ | exact TnS.dx _ | exact TnS.dp _ | exact TnS.slc rfl | exact TnS.ptr rfl | refine TnS.frzf rfl (by simp) (by simp) (by simp) ?_ | refine TnS.frz0 rfl (by simp) (by simp) (by simp) ?_ | refine TnS.frzm rfl (by simp) ?_ | exact TnS.mapr rfl | exact TnS.yld rfl | refine ⟨rfl, ?_⟩ | refine TnO.arr ?_ | refine TnO.map ?_ | exact TnO.raw _ | exact TnO.iter _ _ | refine TnS.agg ?_ | refine TnS.tup ?_ | exact TnS.pure (Pure.clo (by assumption) (by assumption)) | refine TnS.clo ?_ ?_ | exact TnS.unk _ | exact TnS.pure (Pure.clo (by assumption) (by assumption))))⟩ .nil)) (fun h => h))
    · have hc : c = m := by rw [hmm] at h22; simp at h22; omega
      subst hc
      refine Tr.exit ?_
      have w1 := add1 (show r < 4611686018427387904 by omega)
      refine Tr.reg1 [1, 2, 5, 6, 7] (by
          simp only [↓sxd, sxu, ↓zE, ↓exq, St.keep, Nat.reduceBEq, Nat.reduceLT, w1]
          (repeat' (first | rfl | exact trivial | exact fun h => h | exact fun h => (by rw [h]; rfl) | apply And.intro | omega | exact Nat.le_of_ble_eq_true rfl))) ?_
      exact ⟨_, _, by omega, by rw [← Nat.succ_mul]; exact Imp.keepAll, ⟨r + 1, _, ⟨by omega, by rw [Nat.succ_mul]; exact hsel2⟩, rfl, rfl⟩⟩
  · have hr : r = n := by rw [hnn] at h13; simp at h13; omega
    subst hr
    rw [sel_end, List.append_nil] at hsel
    subst hsel
    refine Tr.exit ?_
    refine Tr.imp (Imp.fin (tm' := [(5, SC l)]) (.cons rfl (TnS.frz0 (es := vC l) rfl (by simp) (by simp) (by simp [vC]) (vC_fz _)) trivial)) ?_
    refine Tr.reg [4] (by
        simp only [↓sxd, sxu, ↓zE, ↓exq, St.keep, Nat.reduceLT]
        (repeat' (first | rfl | exact trivial | exact fun h => h | exact fun h => (by rw [h]; rfl) | apply And.intro | omega | exact Nat.le_of_ble_eq_true rfl))) ?_
    refine Tr.ret ?_
    (refine ⟨.inr rfl, ?_⟩; first | rfl | exact ⟨rfl, rfl, trivial⟩ | exact ⟨rfl, rfl, rfl, trivial⟩ | (simp only [Res, ResL, ResOK, ↓sxd, sxu, ↓zE, ↓zB, zI, ↓exP, ↓exq, ↓zA, St.keep, ↓zW, ↓zJ, ↓zK, ↓zD, ↓zM, ↓zQ, ↓zG, ↓zO, ↓zC, Nat.reduceBEq, Nat.reduceAdd, Nat.reduceLT, Nat.reduceMul, Nat.reduceSub, Nat.reduceLeDiff, Nat.reduceEqDiff, Int.reduceLE, Int.reduceLT, Int.reduceToNat, reduceIte, implies_true, sxe, tysH31_23]; (repeat' (first | rfl | exact trivial | exact fun h => h | exact fun h => (by rw [h]; rfl) | apply And.intro | omega | exact Nat.le_of_ble_eq_true rfl))))
end Go.Proofs.YtijechcadlklhaaGreat
namespace Go.Proofs.YtijechcadlklhaaGreat
open Go.Sy
set_option maxRecDepth 8000
theorem bvi {a : Nat} (h : a < 18446744073709551616) : (BitVec.ofInt IntKind.i64.bits (a : Int)).toNat = a := by
  show (BitVec.ofInt 64 (a : Int)).toNat = a
  rw [BitVec.ofInt_natCast, BitVec.toNat_ofNat]
  exact Nat.mod_eq_of_lt h
theorem or_i {a b : Nat} (ha : a < 4611686018427387904) (hb : b < 4611686018427387904) :
    IntKind.i64.wrap ((BitVec.ofInt IntKind.i64.bits (a : Int) ||| BitVec.ofInt IntKind.i64.bits (b : Int)).toNat : Int) = ((a ||| b : Nat) : Int) := by
  rw [BitVec.toNat_or, bvi (by omega), bvi (by omega)]
  have := Nat.or_lt_two_pow (n := 62) ha hb
  exact wr (by omega) (by omega)
theorem tmod_nat' (a b : Nat) : ((a : Nat) : Int).tmod (b : Int) = ((a % b : Nat) : Int) := by
  rw [Int.tmod_eq_emod_of_nonneg (Int.natCast_nonneg _)]; rfl
theorem bitsTo_lt {n m : Nat} {l : List HC} (hl : HidOk n m l) (hn : n ≤ 3) (hm : m ≤ 4) : ∀ k, k ≤ l.length → bitsTo m l k < 2 ^ (n * m)
  | 0, _ => Nat.two_pow_pos _
  | k + 1, hk => by
    rw [bitsTo]
    exact Nat.or_lt_two_pow (bitsTo_lt hl hn hm k (by omega)) (Nat.pow_lt_pow_right (by decide) (idx_lt (mem_gridC.2 (hl.cell _ (getD_mem' default (by omega))))))
theorem nm12 {n m : Nat} (hn : n ≤ 3) (hm : m ≤ 4) : n * m ≤ 12 := Nat.le_trans (Nat.mul_le_mul hn hm) (by decide)
theorem pow12 {n m : Nat} (hn : n ≤ 3) (hm : m ≤ 4) : 2 ^ (n * m) ≤ 4096 := Nat.le_trans (Nat.pow_le_pow_right (by decide) (nm12 hn hm)) (by decide)
theorem setR_len {n m : Nat} (hn : n ≤ 3) (hm : m ≤ 4) (b : Nat) : (setR n m b).length ≤ 12 := sel_len (p := fun c => b.testBit (c.row.toNat * m + c.col.toNat)) (k := 0) hn hm
theorem hid_len {n m : Nat} {l : List HC} (hl : HidOk n m l) (hn : n ≤ 3) (hm : m ≤ 4) : l.length ≤ 12 := by
  have := setR_len hn hm (bitsR m l)
  rwa [setR_bits hl hm] at this
abbrev tysZ2_24 := And.intro ty.sz0 <| And.intro ty.agg0 <| And.intro ty.elem0 <| And.intro ty.sz3 <| And.intro ty.agg3 <| And.intro ty.elem3 <| And.intro ty.zero3 <| And.intro ty.und3 <| And.intro ty.sz4 <| And.intro ty.agg4 <| And.intro ty.elem4 <| And.intro ty.zero4 <| And.intro ty.und4 <| And.intro ty.sz22 <| And.intro ty.agg22 <| And.intro ty.elem22 <| And.intro ty.by22 <| And.intro ty.ez22 <| And.intro ty.zero22 <| And.intro ty.und22 <| And.intro ty.sz24 <| And.intro ty.agg24 <| And.intro ty.fld24_0 <| And.intro ty.fld24_1 <| And.intro ty.elem24 <| And.intro ty.zero24 <| And.intro ty.pl24 <| And.intro ty.sz25 <| And.intro ty.agg25 <| And.intro ty.elem25 <| And.intro ty.by25 <| And.intro ty.ez25 <| And.intro ty.zero25 <| And.intro ty.und25 <| And.intro ty.sz41 <| And.intro ty.agg41 <| And.intro ty.fld41_0 <| And.intro ty.fld41_1 <| And.intro ty.elem41 <| And.intro ty.zero41 <| And.intro ty.pl41 <| And.intro ty.sz44 <| And.intro ty.agg44 <| And.intro ty.elem44 <| And.intro ty.by44 <| And.intro ty.ez44 <| And.intro ty.zero44 <| And.intro ty.und44 <| And.intro ty.sz54 <| And.intro ty.agg54 <| And.intro ty.elem54 <| And.intro ty.zero54 <| ty.und54
set_option maxHeartbeats 4000000 in
theorem Bits_c (t : HT) (l : List HC) (h0 : t.check = 0) (hlo : HidOk t.n t.m l) : CallP Tryz.prog G0 24 [t.s, SC l] (I (bitsR t.m l : Nat)) := by
  have ho : t.Ok t.n t.m := HT.check_ok h0
  have hn3 := ho.n3
  have hm4 := ho.m4
  have hn0 : 0 < t.rows.length := ho.n0
  have hz : ((0 : Int) < (t.rows.length : Int)) = True := eq_true (by omega)
  have hmm : (t.rows.getD 0 []).length = t.m := rfl
  have hl12 := hid_len hlo hn3 hm4
  have hp12 := pow12 hn3 hm4
  obtain ⟨m, hm⟩ : ∃ m, m = t.m := ⟨_, rfl⟩
  rw [← hm] at hmm hlo hm4 hp12 ⊢
  refine CallP.body 35 [.tmp 4] Tryz.func24 (by kernel_rfl) rfl rfl rfl (by repeat' (first | exact Pure.d _ | exact Pure.dx _ | exact Pure.dp _ | exact fa_nil | refine fa_cons ?_ ?_ | refine Pure.agg ?_ | refine Pure.tup ?_ | refine Pure.clo ?_ ?_ | refine Pure.fp ?_ | exact Pure.mapd _ | assumption)) (by repeat' (first | exact Pure.d _ | exact Pure.dx _ | exact Pure.dp _ | exact fa_nil | refine fa_cons ?_ ?_ | refine Pure.agg ?_ | refine Pure.tup ?_ | refine Pure.clo ?_ ?_ | refine Pure.fp ?_ | exact Pure.mapd _ | assumption)) ?_
  refine Tr.reg [1, 2] (by
      simp only [↓sxd, sxu, ↓zE, ↓exq, St.keep, ↓zM, Nat.reduceBEq, Nat.reduceAdd, Nat.reduceLT, Nat.reduceEqDiff]
      (repeat' (first | rfl | exact trivial | exact fun h => h | exact fun h => (by rw [h]; rfl) | apply And.intro | omega | exact Nat.le_of_ble_eq_true rfl))) ?_
  refine Tr.reg [1, 2, 5] (by
      simp only [↓sxd, sxu, ↓zE, ↓exq, St.keep, Nat.reduceBEq, Nat.reduceLT]
      (repeat' (first | rfl | exact trivial | exact fun h => h | exact fun h => (by rw [h]; rfl) | apply And.intro | omega | exact Nat.le_of_ble_eq_true rfl))) ?_
  refine Tr.seq ?_
  refine Tr.reg [1, 2, 5, 6] (by
      simp only [↓sxd, sxu, ↓zE, ↓exq, St.keep, Nat.reduceBEq, Nat.reduceLT]
      (repeat' (first | rfl | exact trivial | exact fun h => h | exact fun h => (by rw [h]; rfl) | apply And.intro | omega | exact Nat.le_of_ble_eq_true rfl))) ?_
  refine Tr.imp (st' := ⟨[(1, SC l), (2, .ptr 0 0 0), (5, I (bitsTo m l 0 : Nat)), (6, I 0)], [(0, tbx t)], 1, 35, [], 0⟩) (Imp.keepAll) (Tr.block (Tr.loopI (fun mm ss => ∃ (i : Nat), (i ≤ l.length) ∧ l.length - i = mm ∧ ss = ⟨[(1, SC l), (2, .ptr 0 0 0), (5, I (bitsTo m l i : Nat)), (6, I i)], [(0, tbx t)], 1, 35, [], 0⟩) _ ⟨0, ?_, rfl, rfl⟩ ?_))
  · exact Nat.zero_le _
  rintro mm ss ⟨i, hI, rfl, rfl⟩
  refine Tr.seq ?_
  refine Tr.reg [1, 2, 5, 6, 10] (by
      simp only [↓sxd, sxu, ↓zE, ↓exq, ↓zA, St.keep, ↓zK, Nat.reduceBEq, Nat.reduceLT, sxe, tysZ2_24]
      (repeat' (first | rfl | exact trivial | exact fun h => h | exact fun h => (by rw [h]; rfl) | apply And.intro | omega | exact Nat.le_of_ble_eq_true rfl))) ?_
  refine Tr.cond rfl (fun h10 => ?_) (fun h10 => ?_)
  · have hlt : i < l.length := by simpa using h10
    refine Tr.skip ?_
    refine Tr.seq ?_
    refine Tr.block ?_
    have hq := hlo.cell _ (getD_mem' default hlt)
    obtain ⟨a, ha⟩ := Int.eq_ofNat_of_zero_le hq.1
    obtain ⟨b, hb⟩ := Int.eq_ofNat_of_zero_le hq.2.2.1
    have hjm : a * m ≤ 8 := Nat.le_trans (Nat.mul_le_mul (show a ≤ 2 by omega) hm4) (by decide)
    have e4 : IntKind.i64.wrap ((a : Int) * (m : Int)) = ((a * m : Nat) : Int) := by rw [← Int.natCast_mul]; exact wr (by omega) (by omega)
    have e5 : IntKind.i64.wrap (((a * m : Nat) : Int) + (b : Int)) = ((a * m + b : Nat) : Int) := by rw [wr (by omega) (by omega)]; rfl
    have e6 : IntKind.u64.wrap ((a * m + b : Nat) : Int) = ((a * m + b : Nat) : Int) := wu (by omega) (by omega)
    have e7 := shl_i (show a * m + b < 62 by omega)
    have hpe : 2 ^ (a * m + b) < 2 ^ 12 := Nat.pow_lt_pow_right (by decide) (by omega)
    have hbl := bitsTo_lt hlo hn3 hm4 i (by omega)
    have e8 := or_i (a := bitsTo m l i) (b := 2 ^ (a * m + b)) (by omega) (by omega)
    have e9 : bitsTo m l (i + 1) = bitsTo m l i ||| 2 ^ (a * m + b) := by
      rw [bitsTo]
      simp (maxSteps := 2000000) only [ha, hb, Int.toNat_natCast]
    refine Tr.regD1 [0, 1, 2, 3, 4, 5, 6, 7, 8, 9, 10, 11, 12, 13, 14, 15, 16, 17, 18, 19, 20, 21] [] [] [1, 2, 5, 6] mix (by kernel_rfl) (by
        simp (maxSteps := 2000000) only [↓sxd, sxu, ↓zB, zI, ↓exq, ↓zA, St.keep, ↓zW, ↓zK, ↓zD, ↓zC, Nat.reduceBEq, Nat.reduceAdd, Nat.reduceLT, Nat.reduceEqDiff, Int.reduceLE, sxe, tysZ2_24, hlt, hn0, hz, ha, hb, hmm, e4, e5, e6, e7, e8]
        (repeat' (first | rfl | exact trivial | exact fun h => h | exact fun h => (by rw [h]; rfl) | apply And.intro | omega | exact Nat.le_of_ble_eq_true rfl))) ?_
    have w1 := add1 (show i < 4611686018427387904 by omega)
    refine Tr.reg1 [1, 2, 5, 6] (by
        simp only [↓sxd, sxu, ↓zE, ↓exq, St.keep, Nat.reduceBEq, Nat.reduceLT, w1]
        (repeat' (first | rfl | exact trivial | exact fun h => h | exact fun h => (by rw [h]; rfl) | apply And.intro | omega | exact Nat.le_of_ble_eq_true rfl))) ?_
    refine ⟨_, _, ?_, ?_, ⟨i + 1, hlt, rfl, rfl⟩⟩
    · omega
    · rw [e9]; exact Imp.keepAll
  · have hge : i = l.length := by have := of_decide_eq_false h10; omega
    subst hge
    refine Tr.exit ?_
    refine Tr.reg [4] (by
        simp only [↓sxd, sxu, ↓zE, ↓exq, St.keep, Nat.reduceBEq, Nat.reduceLT]
        (repeat' (first | rfl | exact trivial | exact fun h => h | exact fun h => (by rw [h]; rfl) | apply And.intro | omega | exact Nat.le_of_ble_eq_true rfl))) ?_
    refine Tr.ret ?_
    (refine ⟨.inr rfl, ?_⟩; first | rfl | exact ⟨rfl, rfl, trivial⟩ | exact ⟨rfl, rfl, rfl, trivial⟩ | (simp only [Res, ResL, ResOK, ↓sxd, sxu, ↓zE, ↓zB, zI, ↓exP, ↓exq, ↓zA, St.keep, ↓zW, ↓zJ, ↓zK, ↓zD, ↓zM, ↓zC, Nat.reduceBEq, Nat.reduceAdd, Nat.reduceLT, Nat.reduceMul, Nat.reduceSub, Nat.reduceLeDiff, Nat.reduceEqDiff, Int.reduceLE, Int.reduceLT, Int.reduceToNat, reduceIte, implies_true, sxe, tysZ2_24]; (repeat' (first | rfl | exact trivial | exact fun h => h | exact fun h => (by rw [h]; rfl) | apply And.intro | omega | exact Nat.le_of_ble_eq_true rfl))))
end Go.Proofs.YtijechcadlklhaaGreat
namespace Go.Proofs.YtijechcadlklhaaGreat
open Go.Sy
set_option maxRecDepth 8000
theorem expose_cases {t : HT} {l : List HC} {q : List HQ} (h : t.askE l q = 0) : (t.good l q = true ∧ t.expose l q = (0, 7)) ∨ (t.good l q = false ∧ (t.expose l q).2 = 0) := by
  have hE : t.expose l q = if idxOf (fun x => !(t.w l).sat x) q < 0 then (0, 7) else (idxOf (fun x => !(t.w l).sat x) q, 0) := by unfold HT.expose; rw [if_neg (by simp [h])]
  have hd := idx_any (fun x => !(t.w l).sat x) q
  have hg : t.good l q = !(q.any fun x => !(t.w l).sat x) := by
    unfold HT.good HW.good
    rw [List.any_eq_not_all_not]
    simp
  rw [hE, hg, ← hd]
  by_cases hc : idxOf (fun x => !(t.w l).sat x) q < 0
  · rw [if_pos hc]
    exact .inl ⟨by simp; omega, rfl⟩
  · rw [if_neg hc]
    exact .inr ⟨by simp; omega, rfl⟩
end Go.Proofs.YtijechcadlklhaaGreat
namespace Go.Proofs.YtijechcadlklhaaGreat
open Go.Sy
set_option maxRecDepth 8000
theorem askE_of {t : HT} {l : List HC} {q : List HQ} (h1 : t.pub l = 0) (h2 : q.length ≤ 8) (h3 : q.all t.okQ = true) : t.askE l q = 0 := by
  unfold HT.askE
  rw [if_neg (by simp [h1]), if_neg (by omega), if_neg (by simp [h3])]
theorem more_sub {n m : Nat} {l : List HC} (hl : HidOk n m l) (b : Nat) : ∀ c ∈ l, c ∈ setR n m (bitsR m l ||| b) := fun c hc => by
  have hg := mem_gridC.2 (hl.cell c hc)
  rw [mem_setR, Nat.testBit_or, (bitsR_test hl hg).2 hc]
  exact ⟨hg, rfl⟩
end Go.Proofs.YtijechcadlklhaaGreat
namespace Go.Proofs.YtijechcadlklhaaGreat
open Go.Sy
set_option maxRecDepth 8000
theorem ranges_len (w : HW) (n m : Nat) : (w.ranges n m).length = n := by simp [HW.ranges]
theorem ranges_row (w : HW) {n m r : Nat} (hr : r < n) : ((w.ranges n m).getD r []).length = m := by simp [HW.ranges, List.getD_eq_getElem?_getD, hr]
theorem ranges_get (w : HW) {n m r c : Nat} (hr : r < n) (hc : c < m) : ((w.ranges n m).getD r []).getD c default = ⟨w.lo r c, w.hi r c⟩ := by simp [HW.ranges, List.getD_eq_getElem?_getD, hr, hc]
theorem lasked_dx (t : HT) (l : List HC) (q : HQ) (hs : small8 t.rows) (hl : l.length ≤ 1000) : CallP Tryz.prog G0 16 [t.s, SC l, .dx [[cI q.cell.row, cI q.cell.col, cI q.below, cI q.above]]] (I (t.askE l [q])) :=
  CallP.arg (lasked_c t l [q] hs hl (by simp)) (.cons (fun _ _ _ _ h => h) (.cons (fun _ _ _ _ h => h) (.cons (fun pl ok w v h => dxd _ pl ok w v h) .nil)))
theorem Requests_dx (q : HQ) : CallP Tryz.prog G0 15 [.dx [[cI q.cell.row, cI q.cell.col, cI q.below, cI q.above]]] (SQ [q]) :=
  CallP.arg (Requests_c [q] (by simp)) (.cons (fun pl ok w v h => dxd _ pl ok w v h) .nil)
theorem more_law {t : HT} {l : List HC} {q : List HQ} (hask : t.askE l q = 0) {X : List HC} (hX : HidOk t.n t.m X) (hsub : ∀ c ∈ l, c ∈ X) :
    ((t.expose l q).2 = 0 ∨ (t.expose l q).2 = 7) ∧ ((t.expose l q).2 = 7 → (t.expose X q).2 = 7) ∧ ∀ r c, (t.w X).lo r c ≤ (t.w l).lo r c ∧ (t.w l).hi r c ≤ (t.w X).hi r c := by
  obtain ⟨hpub, hq8, hall⟩ := askE_ok hask
  obtain ⟨h3, h4, hl, h0⟩ := pub_dims hpub
  have hpX := HT.pub_of h0 hX
  have askX : t.askE X q = 0 := askE_of hpX hq8 hall
  refine ⟨?_, fun h => ?_, fun r c => (HT.w_ok hpub).wider (HT.w_ok hpX) rfl rfl (fun r c hh => hl.mono_h (t := t) hX h3 h4 hsub r c hh) r c⟩
  · rcases expose_cases hask with ⟨g, e⟩ | ⟨g, e⟩
    · exact .inr (by rw [e])
    · exact .inl e
  · rcases expose_cases hask with ⟨g, e⟩ | ⟨g, e⟩
    · rcases expose_cases askX with ⟨g', e'⟩ | ⟨g', e'⟩
      · rw [e']
      · rw [good_more h0 hl hX hsub g] at g'; cases g'
    · rw [e] at h; cases h
theorem ready2_go {t : HT} {l : List HC} (h : (!!t.ready l) = true) : small8 t.rows ∧ l.length ≤ 1000 := by
  have := ready_ok (t := t) (l := l) (by simpa only [Bool.not_not] using h)
  exact ⟨this.1, this.2.1⟩
theorem ready2_of {t : HT} {l : List HC} {q : List HQ} (h : (!t.ready l || t.askE l q != 0) = false) : (small8 t.rows ∧ l.length ≤ 1000) ∧ t.askE l q = 0 := by
  simp only [Bool.or_eq_false_iff, Bool.not_eq_false', bne_eq_false_iff_eq] at h
  have := ready_ok h.1
  exact ⟨⟨this.1, this.2.1⟩, h.2⟩
abbrev tysZ8_5 := And.intro ty.sz0 <| And.intro ty.agg0 <| And.intro ty.elem0 <| And.intro ty.sz3 <| And.intro ty.agg3 <| And.intro ty.elem3 <| And.intro ty.zero3 <| And.intro ty.und3 <| And.intro ty.sz4 <| And.intro ty.agg4 <| And.intro ty.elem4 <| And.intro ty.zero4 <| And.intro ty.und4 <| And.intro ty.sz5 <| And.intro ty.agg5 <| And.intro ty.elem5 <| And.intro ty.zero5 <| And.intro ty.und5 <| And.intro ty.sz22 <| And.intro ty.agg22 <| And.intro ty.elem22 <| And.intro ty.by22 <| And.intro ty.ez22 <| And.intro ty.zero22 <| And.intro ty.und22 <| And.intro ty.sz24 <| And.intro ty.agg24 <| And.intro ty.fld24_0 <| And.intro ty.fld24_1 <| And.intro ty.elem24 <| And.intro ty.zero24 <| And.intro ty.pl24 <| And.intro ty.sz25 <| And.intro ty.agg25 <| And.intro ty.elem25 <| And.intro ty.by25 <| And.intro ty.ez25 <| And.intro ty.zero25 <| And.intro ty.und25 <| And.intro ty.sz26 <| And.intro ty.agg26 <| And.intro ty.elem26 <| And.intro ty.by26 <| And.intro ty.ez26 <| And.intro ty.zero26 <| And.intro ty.und26 <| And.intro ty.sz29 <| And.intro ty.agg29 <| And.intro ty.elem29 <| And.intro ty.zero29 <| And.intro ty.und29 <| And.intro ty.sz30 <| And.intro ty.agg30 <| And.intro ty.elem30 <| And.intro ty.sz32 <| And.intro ty.agg32 <| And.intro ty.fld32_0 <| And.intro ty.fld32_1 <| And.intro ty.elem32 <| And.intro ty.zero32 <| And.intro ty.pl32 <| And.intro ty.sz34 <| And.intro ty.agg34 <| And.intro ty.elem34 <| And.intro ty.by34 <| And.intro ty.ez34 <| And.intro ty.zero34 <| And.intro ty.und34 <| And.intro ty.sz36 <| And.intro ty.agg36 <| And.intro ty.elem36 <| And.intro ty.by36 <| And.intro ty.ez36 <| And.intro ty.zero36 <| And.intro ty.und36 <| And.intro ty.sz43 <| And.intro ty.agg43 <| And.intro ty.fld43_0 <| And.intro ty.fld43_1 <| And.intro ty.fld43_2 <| And.intro ty.elem43 <| And.intro ty.zero43 <| And.intro ty.pl43 <| And.intro ty.sz44 <| And.intro ty.agg44 <| And.intro ty.elem44 <| And.intro ty.by44 <| And.intro ty.ez44 <| And.intro ty.zero44 <| And.intro ty.und44 <| And.intro ty.sz54 <| And.intro ty.agg54 <| And.intro ty.elem54 <| And.intro ty.zero54 <| And.intro ty.und54 <| And.intro ty.sz55 <| And.intro ty.agg55 <| And.intro ty.elem55 <| And.intro ty.by55 <| And.intro ty.ez55 <| And.intro ty.zero55 <| And.intro ty.und55 <| And.intro ty.sz56 <| And.intro ty.agg56 <| And.intro ty.elem56 <| And.intro ty.sz58 <| And.intro ty.agg58 <| And.intro ty.elem58 <| And.intro ty.by58 <| And.intro ty.ez58 <| And.intro ty.zero58 <| And.intro ty.und58 <| And.intro ty.sz60 <| And.intro ty.agg60 <| And.intro ty.fld60_0 <| And.intro ty.fld60_1 <| And.intro ty.elem60 <| And.intro ty.zero60 <| ty.pl60
set_option maxHeartbeats 4000000 in
theorem HideMore_c (t : HT) (l : List HC) (which : Nat) (q : HQ) (hwh : which < 256) : CallP Tryz.prog G0 5 [t.s, SC l, .d (.lit (.int .u8 (which : Nat))), q.s] (B true) := by
  refine CallP.body 183 [.tmp 8] Tryz.func5 (by kernel_rfl) rfl rfl rfl (by repeat' (first | exact Pure.d _ | exact Pure.dx _ | exact Pure.dp _ | exact fa_nil | refine fa_cons ?_ ?_ | refine Pure.agg ?_ | refine Pure.tup ?_ | refine Pure.clo ?_ ?_ | refine Pure.fp ?_ | exact Pure.mapd _ | assumption)) (by repeat' (first | exact Pure.d _ | exact Pure.dx _ | exact Pure.dp _ | exact fa_nil | refine fa_cons ?_ ?_ | refine Pure.agg ?_ | refine Pure.tup ?_ | refine Pure.clo ?_ ?_ | refine Pure.fp ?_ | exact Pure.mapd _ | assumption)) ?_
  refine Tr.reg [1, 2, 4, 7] (by
      simp only [↓sxd, sxu, ↓zE, ↓exq, St.keep, ↓zM, Nat.reduceBEq, Nat.reduceAdd, Nat.reduceLT, Nat.reduceEqDiff]
      (repeat' (first | rfl | exact trivial | exact fun h => h | exact fun h => (by rw [h]; rfl) | apply And.intro | omega | exact Nat.le_of_ble_eq_true rfl))) ?_
  refine Tr.seq ?_
  refine Tr.reg [1, 2, 4, 7, 32] (by
      simp only [↓sxd, sxu, ↓zE, ↓exq, St.keep, ↓zD, Nat.reduceBEq, Nat.reduceAdd, Nat.reduceLT, tysZ8_5]
      (repeat ((with_reducible refine And.intro ?_ ?_); (focus (first | with_reducible rfl | trivial | exact fun h => h | exact fun h => (by rw [h]; rfl) | omega | assumption))))
      refine CallO.use (ready_c t l) ?_
      try simp only [↓sxd, sxu, ↓zE, ↓exq, ↓zJ, Nat.reduceLT]
      iterate 4
        (repeat ((with_reducible refine And.intro ?_ ?_); (focus (first | with_reducible rfl | trivial | exact fun h => h | exact fun h => (by rw [h]; rfl) | omega | assumption))))
        refine GdO.mk _ (fun hg => by simp only [sxu, ↓exq, ↓zD, ↓zG, Nat.reduceBEq, Nat.reduceAdd, Nat.reduceLT, Nat.reduceLeDiff, Nat.reduceEqDiff, tysZ8_5, hg]; (repeat' (first | rfl | exact trivial | exact fun h => h | exact fun h => (by rw [h]; rfl) | apply And.intro | omega | exact Nat.le_of_ble_eq_true rfl))) ?_
        simp only [↓sxd, sxu, ↓zE, Nat.reduceBEq, Nat.reduceLT]
      (repeat ((with_reducible refine And.intro ?_ ?_); (focus (first | with_reducible rfl | trivial | exact fun h => h | exact fun h => (by rw [h]; rfl) | omega | assumption))))
      refine GdO.mk _ (fun hg => by simp only [sxu, ↓exq, ↓zA, Nat.reduceBEq, hg]; (repeat ((with_reducible refine And.intro ?_ ?_); (focus (first | with_reducible rfl | trivial | exact fun h => h | exact fun h => (by rw [h]; rfl) | omega | assumption)))); exact CallP.use (lasked_dx t l q (ready2_go hg).1 (ready2_go hg).2) ⟨rfl, rfl, rfl⟩) ?_
      simp only [↓sxd, sxu, ↓zE, Nat.reduceBEq, Nat.reduceLT]
      (repeat ((with_reducible refine And.intro ?_ ?_); (focus (first | with_reducible rfl | trivial | exact fun h => h | exact fun h => (by rw [h]; rfl) | omega | assumption))))
      refine GdO.mk _ (fun hg => by simp only [↓sxd, sxu, ↓exq, hg]; (repeat' (first | rfl | exact trivial | exact fun h => h | exact fun h => (by rw [h]; rfl) | apply And.intro | omega | exact Nat.le_of_ble_eq_true rfl))) ?_
      simp only [↓sxd, sxu, ↓zE, ↓exq, ↓zH, Nat.reduceBEq, Nat.reduceLT]
      (repeat' (first | rfl | exact trivial | exact fun h => h | exact fun h => (by rw [h]; rfl) | apply And.intro | omega | exact Nat.le_of_ble_eq_true rfl))) ?_
  refine Tr.cond rfl (fun h32 => ?_) (fun h32 => ?_)
  · refine Tr.reg [8] (by
        simp only [↓sxd, sxu, ↓zE, St.keep, Nat.reduceLT]
        (repeat ((with_reducible refine And.intro ?_ ?_); (focus (first | with_reducible rfl | trivial | exact fun h => h | exact fun h => (by rw [h]; rfl) | omega | assumption))))
        refine CallO.use (awake_c) ?_
        try simp only [↓sxd, sxu, ↓zE, ↓exq, Nat.reduceLT]
        (repeat' (first | rfl | exact trivial | exact fun h => h | exact fun h => (by rw [h]; rfl) | apply And.intro | omega | exact Nat.le_of_ble_eq_true rfl))) ?_
    refine Tr.ret ?_
    (refine ⟨.inr rfl, ?_⟩; first | rfl | exact ⟨rfl, rfl, trivial⟩ | exact ⟨rfl, rfl, rfl, trivial⟩ | (simp only [Res, ResL, ResOK, ↓sxd, sxu, ↓zE, ↓zB, zI, ↓exP, ↓exq, ↓zA, St.keep, ↓zH, ↓zW, ↓zJ, ↓zK, ↓zD, ↓zL, ↓zM, ↓zG, ↓zC, Nat.reduceBEq, Nat.reduceAdd, Nat.reduceLT, Nat.reduceMul, Nat.reduceSub, Nat.reduceLeDiff, Nat.reduceEqDiff, Int.reduceLE, Int.reduceLT, Int.reduceToNat, reduceIte, implies_true, sxe, tysZ8_5]; (repeat' (first | rfl | exact trivial | exact fun h => h | exact fun h => (by rw [h]; rfl) | apply And.intro | omega | exact Nat.le_of_ble_eq_true rfl))))
  · obtain ⟨⟨hs, hl⟩, hask⟩ := ready2_of h32
    obtain ⟨hpub, hq8, hall⟩ := askE_ok hask
    obtain ⟨hn3, hm4, hlo, h0⟩ := pub_dims hpub
    have ho : t.Ok t.n t.m := HT.check_ok h0
    have hn0 : 0 < t.rows.length := ho.n0
    have hm0 := ho.m0
    have hnm := nm12 hn3 hm4
    have hnm1 : 0 < t.n * t.m := Nat.mul_pos ho.n0 ho.m0
    have hN := pow12 hn3 hm4
    have hbR := bitsR_lt hlo
    obtain ⟨b, hbe⟩ : ∃ b, b = which % (t.n * t.m) := ⟨_, rfl⟩
    have hbN : b < t.n * t.m := by rw [hbe]; exact Nat.mod_lt _ hnm1
    have hpb : 2 ^ b < 2 ^ (t.n * t.m) := Nat.pow_lt_pow_right (by decide) hbN
    have hX := setR_ok (n := t.n) hm4 (bitsR t.m l ||| 2 ^ b)
    have hXl := setR_len hn3 hm4 (bitsR t.m l ||| 2 ^ b)
    have hor := Nat.or_lt_two_pow hbR hpb
    have hset := Set_c t (bitsR t.m l ||| 2 ^ b) (by omega) h0
    have hbits := Bits_c t l h0 hlo
    obtain ⟨hg07, hgh, hwid⟩ := more_law hask hX (more_sub hlo (2 ^ b))
    have hpX := HT.pub_of h0 hX
    have hR := Ranges_c t l hs hl
    rw [if_pos hpub, hpub] at hR
    have hRl : ((t.w l).ranges t.n t.m).length = t.n := ranges_len _ _ _
    have hRr : ∀ r, r < t.n → (((t.w l).ranges t.n t.m).getD r []).length = t.m := fun r hr => ranges_row _ hr
    have hRg : ∀ r c, r < t.n → c < t.m → (((t.w l).ranges t.n t.m).getD r []).getD c default = ⟨(t.w l).lo r c, (t.w l).hi r c⟩ := fun r c hr hc => ranges_get _ hr hc
    generalize (t.w l).ranges t.n t.m = R at hR hRl hRr hRg
    obtain ⟨X, hXe⟩ : ∃ X, X = setR t.n t.m (bitsR t.m l ||| 2 ^ b) := ⟨_, rfl⟩
    rw [← hXe] at hX hXl hset hgh hwid hpX
    have hY := Ranges_c t X hs (by omega)
    rw [if_pos hpX, hpX] at hY
    have hYl : ((t.w X).ranges t.n t.m).length = t.n := ranges_len _ _ _
    have hYr : ∀ r, r < t.n → (((t.w X).ranges t.n t.m).getD r []).length = t.m := fun r hr => ranges_row _ hr
    have hYg : ∀ r c, r < t.n → c < t.m → (((t.w X).ranges t.n t.m).getD r []).getD c default = ⟨(t.w X).lo r c, (t.w X).hi r c⟩ := fun r c hr hc => ranges_get _ hr hc
    generalize (t.w X).ranges t.n t.m = Y at hY hYl hYr hYg
    have hE := Exposed_c t l [q] hs hl (by simp)
    have hE2 := Exposed_c t X [q] hs (by omega) (by simp)
    generalize t.expose l [q] = E1 at hE hg07 hgh
    generalize t.expose X [q] = E2 at hE2 hgh
    obtain ⟨y1, g⟩ := E1
    obtain ⟨y2, h⟩ := E2
    simp only at hE hE2 hg07 hgh
    have w0 : IntKind.i64.wrap ((t.n : Int) * (t.m : Int)) = ((t.n * t.m : Nat) : Int) := by rw [← Int.natCast_mul]; exact wr (by omega) (by omega)
    have u1 : IntKind.i64.wrap (which : Int) = which := wr (by omega) (by omega)
    have m0 := tmod_nat' which (t.n * t.m)
    rw [← hbe] at m0
    have z0 : (((t.n * t.m : Nat) : Int) = 0) = False := eq_false (by omega)
    have u2 : IntKind.u64.wrap (b : Int) = b := wu (by omega) (by omega)
    have s0 := shl_i (show b < 62 by omega)
    have o0 := or_i (a := bitsR t.m l) (b := 2 ^ b) (by omega) (by omega)
    have hnn : t.rows.length = t.n := rfl
    have hmm : (t.rows.getD 0 []).length = t.m := rfl
    refine Tr.skip ?_
    refine Tr.regD [0, 1, 2, 3, 4, 5, 6, 7, 8, 9] [] [] [1, 2, 4, 7, 9] mix (by kernel_rfl) (by
        simp only [↓sxd, sxu, ↓zB, zI, ↓exq, ↓zA, St.keep, ↓zK, ↓zD, ↓zC, Nat.reduceBEq, Nat.reduceAdd, Nat.reduceLT, Nat.reduceEqDiff, Int.reduceLE, sxe, tysZ8_5, hn0]
        (repeat' (first | rfl | exact trivial | exact fun h => h | exact fun h => (by rw [h]; rfl) | apply And.intro | omega | exact Nat.le_of_ble_eq_true rfl))) ?_
    rw [hnn, hmm, w0]
    refine Tr.regD [0, 1, 2, 3, 4, 5, 6, 7, 8, 9, 10, 11, 12] [] [] [1, 4, 7, 10] mix (by kernel_rfl) (by
        simp only [↓sxd, sxu, ↓zB, zI, ↓exq, St.keep, ↓zD, Nat.reduceBEq, Nat.reduceAdd, Nat.reduceLT, tysZ8_5]
        (repeat ((with_reducible refine And.intro ?_ ?_); (focus (first | with_reducible rfl | trivial | exact fun h => h | exact fun h => (by rw [h]; rfl) | omega | assumption))))
        refine CallD.use (hbits) ?_
        try simp only [↓sxd, sxu, ↓zB, zI, ↓exq, ↓zW, Nat.reduceBEq, Nat.reduceLT, sxe, tysZ8_5, u1, m0, z0, u2, s0, o0]
        (repeat ((with_reducible refine And.intro ?_ ?_); (focus (first | with_reducible rfl | trivial | exact fun h => h | exact fun h => (by rw [h]; rfl) | omega | assumption))))
        refine CallD.use (hset) ?_
        try simp only [↓sxd, sxu, ↓zB, ↓exq, Nat.reduceBEq, Nat.reduceLT]
        (repeat' (first | rfl | exact trivial | exact fun h => h | exact fun h => (by rw [h]; rfl) | apply And.intro | omega | exact Nat.le_of_ble_eq_true rfl))) ?_
    refine Tr.reg [1, 4, 7, 10, 11, 12] (by
        simp only [↓sxd, sxu, ↓zE, ↓exq, St.keep, ↓zD, Nat.reduceBEq, Nat.reduceAdd, Nat.reduceLT, tysZ8_5]
        (repeat ((with_reducible refine And.intro ?_ ?_); (focus (first | with_reducible rfl | trivial | exact fun h => h | exact fun h => (by rw [h]; rfl) | omega | assumption))))
        refine CallO.use (Table_c t hs) ?_
        try simp only [↓sxd, sxu, ↓zE, ↓exq, Nat.reduceBEq, Nat.reduceLT]
        (repeat ((with_reducible refine And.intro ?_ ?_); (focus (first | with_reducible rfl | trivial | exact fun h => h | exact fun h => (by rw [h]; rfl) | omega | assumption))))
        refine CallO.use (Cells_c l hl) ?_
        try simp only [↓sxd, sxu, ↓zE, Nat.reduceBEq, Nat.reduceLT]
        (repeat ((with_reducible refine And.intro ?_ ?_); (focus (first | with_reducible rfl | trivial | exact fun h => h | exact fun h => (by rw [h]; rfl) | omega | assumption))))
        refine CallO.use (hR) ?_
        try simp only [↓sxd, sxu, ↓zE, ↓exq, ↓zL, Nat.reduceBEq, Nat.reduceAdd, Nat.reduceLT]
        (repeat' (first | rfl | exact trivial | exact fun h => h | exact fun h => (by rw [h]; rfl) | apply And.intro | omega | exact Nat.le_of_ble_eq_true rfl))) ?_
    refine Tr.reg [1, 4, 7, 10, 11, 12, 13, 14] (by
        simp only [↓sxd, sxu, ↓zE, ↓exq, St.keep, ↓zD, Nat.reduceBEq, Nat.reduceAdd, Nat.reduceLT, tysZ8_5]
        (repeat ((with_reducible refine And.intro ?_ ?_); (focus (first | with_reducible rfl | trivial | exact fun h => h | exact fun h => (by rw [h]; rfl) | omega | assumption))))
        refine CallO.use (Table_c t hs) ?_
        try simp only [↓sxd, sxu, ↓zE, ↓exq, Nat.reduceBEq, Nat.reduceLT]
        (repeat ((with_reducible refine And.intro ?_ ?_); (focus (first | with_reducible rfl | trivial | exact fun h => h | exact fun h => (by rw [h]; rfl) | omega | assumption))))
        refine CallO.use (Cells_c X (by omega)) ?_
        try simp only [↓sxd, sxu, ↓zE, Nat.reduceBEq, Nat.reduceLT]
        (repeat ((with_reducible refine And.intro ?_ ?_); (focus (first | with_reducible rfl | trivial | exact fun h => h | exact fun h => (by rw [h]; rfl) | omega | assumption))))
        refine CallO.use (hY) ?_
        try simp only [↓sxd, sxu, ↓zE, ↓exq, ↓zL, Nat.reduceBEq, Nat.reduceAdd, Nat.reduceLT]
        (repeat' (first | rfl | exact trivial | exact fun h => h | exact fun h => (by rw [h]; rfl) | apply And.intro | omega | exact Nat.le_of_ble_eq_true rfl))) ?_
    refine Tr.regD [0, 1, 2, 3, 4, 5, 6, 7, 8, 9, 10, 11, 12] [] [] [4, 7, 10, 11, 12, 13, 14, 16] mix (by kernel_rfl) (by
        simp only [↓sxd, sxu, ↓zB, zI, ↓exq, St.keep, ↓zD, Nat.reduceBEq, Nat.reduceAdd, Nat.reduceLT, tysZ8_5]
        (repeat ((with_reducible refine And.intro ?_ ?_); (focus (first | with_reducible rfl | trivial | exact fun h => h | exact fun h => (by rw [h]; rfl) | omega | assumption))))
        refine CallD.use (Table_c t hs) ?_
        try simp only [↓sxd, sxu, ↓zB, zI, ↓exq, Nat.reduceBEq, Nat.reduceLT]
        (repeat ((with_reducible refine And.intro ?_ ?_); (focus (first | with_reducible rfl | trivial | exact fun h => h | exact fun h => (by rw [h]; rfl) | omega | assumption))))
        refine CallD.use (Cells_c l hl) ?_
        try simp only [↓sxd, sxu, ↓zB, zI, ↓exq, ↓zD, ↓zG, Nat.reduceBEq, Nat.reduceAdd, Nat.reduceLT, Nat.reduceLeDiff, Nat.reduceEqDiff, tysZ8_5]
        (repeat ((with_reducible refine And.intro ?_ ?_); (focus (first | with_reducible rfl | trivial | exact fun h => h | exact fun h => (by rw [h]; rfl) | omega | assumption))))
        refine CallD.use (Requests_dx q) ?_
        try simp only [↓sxd, sxu, ↓zB, Nat.reduceBEq, Nat.reduceLT]
        (repeat ((with_reducible refine And.intro ?_ ?_); (focus (first | with_reducible rfl | trivial | exact fun h => h | exact fun h => (by rw [h]; rfl) | omega | assumption))))
        refine CallD.use (hE) ?_
        try simp only [↓sxd, sxu, ↓zB, zI, ↓exq, ↓zL, Nat.reduceBEq, Nat.reduceAdd, Nat.reduceLT]
        (repeat' (first | rfl | exact trivial | exact fun h => h | exact fun h => (by rw [h]; rfl) | apply And.intro | omega | exact Nat.le_of_ble_eq_true rfl))) ?_
    refine Tr.regD [0, 1, 2, 3, 4, 5, 6, 7, 8, 9, 10, 11, 12] [] [] [4, 11, 12, 13, 14, 16, 18] mix (by kernel_rfl) (by
        simp only [↓sxd, sxu, ↓zB, zI, ↓exq, St.keep, ↓zD, Nat.reduceBEq, Nat.reduceAdd, Nat.reduceLT, tysZ8_5]
        (repeat ((with_reducible refine And.intro ?_ ?_); (focus (first | with_reducible rfl | trivial | exact fun h => h | exact fun h => (by rw [h]; rfl) | omega | assumption))))
        refine CallD.use (Table_c t hs) ?_
        try simp only [↓sxd, sxu, ↓zB, zI, ↓exq, Nat.reduceBEq, Nat.reduceLT]
        (repeat ((with_reducible refine And.intro ?_ ?_); (focus (first | with_reducible rfl | trivial | exact fun h => h | exact fun h => (by rw [h]; rfl) | omega | assumption))))
        refine CallD.use (Cells_c X (by omega)) ?_
        try simp only [↓sxd, sxu, ↓zB, zI, ↓exq, ↓zD, ↓zG, Nat.reduceBEq, Nat.reduceAdd, Nat.reduceLT, Nat.reduceLeDiff, Nat.reduceEqDiff, tysZ8_5]
        (repeat ((with_reducible refine And.intro ?_ ?_); (focus (first | with_reducible rfl | trivial | exact fun h => h | exact fun h => (by rw [h]; rfl) | omega | assumption))))
        refine CallD.use (Requests_dx q) ?_
        try simp only [↓sxd, sxu, ↓zB, Nat.reduceBEq, Nat.reduceLT]
        (repeat ((with_reducible refine And.intro ?_ ?_); (focus (first | with_reducible rfl | trivial | exact fun h => h | exact fun h => (by rw [h]; rfl) | omega | assumption))))
        refine CallD.use (hE2) ?_
        try simp only [↓sxd, sxu, ↓zB, zI, ↓exq, ↓zL, Nat.reduceBEq, Nat.reduceAdd, Nat.reduceLT]
        (repeat' (first | rfl | exact trivial | exact fun h => h | exact fun h => (by rw [h]; rfl) | apply And.intro | omega | exact Nat.le_of_ble_eq_true rfl))) ?_
    refine Tr.seq ?_
    refine Tr.reg [11, 13, 130] (by
        simp only [↓sxd, sxu, ↓zE, ↓exq, St.keep, Nat.reduceBEq, Nat.reduceLT]
        iterate 19
          (repeat ((with_reducible refine And.intro ?_ ?_); (focus (first | with_reducible rfl | trivial | exact fun h => h | exact fun h => (by rw [h]; rfl) | omega | assumption))))
          refine GdO.mk _ (fun hg => by simp only [↓sxd, sxu, ↓exq, ↓zA, ↓zK, ↓zD, ↓zC, Nat.reduceBEq, Nat.reduceAdd, Nat.reduceLT, Nat.reduceEqDiff, sxe, tysZ8_5, hg]; (repeat' (first | rfl | exact trivial | exact fun h => h | exact fun h => (by rw [h]; rfl) | apply And.intro | omega | exact Nat.le_of_ble_eq_true rfl))) ?_
          simp only [↓sxd, sxu, ↓zE, ↓exq, ↓zH, Nat.reduceBEq, Nat.reduceLT]
        (repeat ((with_reducible refine And.intro ?_ ?_); (focus (first | with_reducible rfl | trivial | exact fun h => h | exact fun h => (by rw [h]; rfl) | omega | assumption))))
        first | refine GdO.and (fun hg => by simp only [sxu, Nat.reduceBEq, pickArgs, hg]; (repeat' (first | rfl | exact trivial | exact fun h => h | exact fun h => (by rw [h]; rfl) | apply And.intro | omega | exact Nat.le_of_ble_eq_true rfl))) ?_ | refine GdO.mk _ (fun hg => by simp only [↓sxd, sxu, ↓zE, ↓zB, zI, ↓exP, ↓exq, ↓zA, St.keep, ↓zH, ↓zW, ↓zJ, ↓zK, ↓zD, ↓zL, ↓zM, ↓zG, ↓zC, Nat.reduceBEq, Nat.reduceAdd, Nat.reduceLT, Nat.reduceMul, Nat.reduceSub, Nat.reduceLeDiff, Nat.reduceEqDiff, Int.reduceLE, Int.reduceLT, Int.reduceToNat, reduceIte, implies_true, sxe, tysZ8_5, hg, if_true]; (repeat' (first | rfl | exact trivial | exact fun h => h | exact fun h => (by rw [h]; rfl) | apply And.intro | omega | exact Nat.le_of_ble_eq_true rfl))) ?_
        simp only [↓sxd, sxu, ↓zE, ↓exq, ↓zH, Nat.reduceBEq, Nat.reduceLT]
        iterate 5
          (repeat ((with_reducible refine And.intro ?_ ?_); (focus (first | with_reducible rfl | trivial | exact fun h => h | exact fun h => (by rw [h]; rfl) | omega | assumption))))
          refine GdO.mk _ (fun hg => by simp only [↓sxd, sxu, ↓exq, Nat.reduceBEq, hg]; (repeat' (first | rfl | exact trivial | exact fun h => h | exact fun h => (by rw [h]; rfl) | apply And.intro | omega | exact Nat.le_of_ble_eq_true rfl))) ?_
          simp only [↓sxd, sxu, ↓zE, Nat.reduceBEq, Nat.reduceLT]
        (repeat ((with_reducible refine And.intro ?_ ?_); (focus (first | with_reducible rfl | trivial | exact fun h => h | exact fun h => (by rw [h]; rfl) | omega | assumption))))
        first | refine GdO.and (fun hg => by simp only [sxu, Nat.reduceBEq, pickArgs, hg]; (repeat' (first | rfl | exact trivial | exact fun h => h | exact fun h => (by rw [h]; rfl) | apply And.intro | omega | exact Nat.le_of_ble_eq_true rfl))) ?_ | refine GdO.mk _ (fun hg => by simp only [↓sxd, sxu, ↓zE, ↓zB, zI, ↓exP, ↓exq, ↓zA, St.keep, ↓zH, ↓zW, ↓zJ, ↓zK, ↓zD, ↓zL, ↓zM, ↓zG, ↓zC, Nat.reduceBEq, Nat.reduceAdd, Nat.reduceLT, Nat.reduceMul, Nat.reduceSub, Nat.reduceLeDiff, Nat.reduceEqDiff, Int.reduceLE, Int.reduceLT, Int.reduceToNat, reduceIte, implies_true, sxe, tysZ8_5, hg, if_true]; (repeat' (first | rfl | exact trivial | exact fun h => h | exact fun h => (by rw [h]; rfl) | apply And.intro | omega | exact Nat.le_of_ble_eq_true rfl))) ?_
        simp only [↓sxd, sxu, ↓zE, ↓exq, ↓zH, Nat.reduceBEq, Nat.reduceLT]
        (repeat' (first | rfl | exact trivial | exact fun h => h | exact fun h => (by rw [h]; rfl) | apply And.intro | omega | exact Nat.le_of_ble_eq_true rfl))) ?_
    refine Tr.cond rfl (fun h130 => ?_) (fun h130 => ?_)
    · exfalso
      rw [hRl, hYl, hnn] at h130
      rcases hg07 with rfl | rfl
      · simp at h130
      · rw [hgh rfl] at h130; simp at h130
    · refine Tr.skip ?_
      refine Tr.seq ?_
      refine Tr.reg [11, 13, 19] (by
          simp only [↓sxd, sxu, ↓zE, ↓exq, St.keep, Nat.reduceBEq, Nat.reduceLT]
          (repeat' (first | rfl | exact trivial | exact fun h => h | exact fun h => (by rw [h]; rfl) | apply And.intro | omega | exact Nat.le_of_ble_eq_true rfl))) ?_
      refine Tr.imp (st' := ⟨[(11, SRL R), (13, SRL Y), (19, I 0)], [(1, .arr 4 [[I q.cell.row, I q.cell.col, I q.below, I q.above]]), (0, tbx t)], 2, 183, [], 0⟩) (Imp.keepAll) (Tr.block (Tr.loopI (fun mm ss => ∃ (r : Nat), (r ≤ t.n) ∧ t.n - r = mm ∧ ss = ⟨[(11, SRL R), (13, SRL Y), (19, I r)], [(1, .arr 4 [[I q.cell.row, I q.cell.col, I q.below, I q.above]]), (0, tbx t)], 2, 183, [], 0⟩) _ ⟨0, ?_, rfl, rfl⟩ ?_))
      · exact Nat.zero_le _
      rintro mm ss ⟨r, hI, rfl, rfl⟩
      refine Tr.seq ?_
      refine Tr.reg [11, 13, 19, 134] (by
          simp only [↓sxd, sxu, ↓zE, ↓exq, ↓zA, St.keep, ↓zK, Nat.reduceBEq, Nat.reduceLT, sxe, tysZ8_5]
          (repeat' (first | rfl | exact trivial | exact fun h => h | exact fun h => (by rw [h]; rfl) | apply And.intro | omega | exact Nat.le_of_ble_eq_true rfl))) ?_
      refine Tr.cond rfl (fun h134 => ?_) (fun h134 => ?_)
      · have hr : r < t.n := by rw [hRl] at h134; simpa using h134
        have hrR : r < R.length := by rw [hRl]; exact hr
        have hrY : r < Y.length := by rw [hYl]; exact hr
        refine Tr.skip ?_
        refine Tr.seq ?_
        refine Tr.block ?_
        refine Tr.reg [11, 13, 19, 20] (by
            simp only [↓sxd, sxu, ↓zE, ↓exq, St.keep, Nat.reduceBEq, Nat.reduceLT]
            (repeat' (first | rfl | exact trivial | exact fun h => h | exact fun h => (by rw [h]; rfl) | apply And.intro | omega | exact Nat.le_of_ble_eq_true rfl))) ?_
        refine Tr.imp (st' := ⟨[(11, SRL R), (13, SRL Y), (19, I r), (20, I 0)], [(1, .arr 4 [[I q.cell.row, I q.cell.col, I q.below, I q.above]]), (0, tbx t)], 2, 183, [], 0⟩) (Imp.keepAll) (Tr.block (Tr.loopI (fun mm ss => ∃ (c : Nat), (c ≤ t.m) ∧ t.m - c = mm ∧ ss = ⟨[(11, SRL R), (13, SRL Y), (19, I r), (20, I c)], [(1, .arr 4 [[I q.cell.row, I q.cell.col, I q.below, I q.above]]), (0, tbx t)], 2, 183, [], 0⟩) _ ⟨0, ?_, rfl, rfl⟩ ?_))
        · exact Nat.zero_le _
        rintro mm ss ⟨c, hI, rfl, rfl⟩
        refine Tr.seq ?_
        refine Tr.reg [11, 13, 19, 20, 143] (by
            simp only [↓sxd, sxu, ↓zE, ↓exq, ↓zA, St.keep, ↓zK, ↓zD, Nat.reduceBEq, Nat.reduceLT, sxe, tysZ8_5, hrR]
            (repeat' (first | rfl | exact trivial | exact fun h => h | exact fun h => (by rw [h]; rfl) | apply And.intro | omega | exact Nat.le_of_ble_eq_true rfl))) ?_
        refine Tr.cond rfl (fun h143 => ?_) (fun h143 => ?_)
        · have hc : c < t.m := by rw [hRr r hr] at h143; simpa using h143
          have hcR : c < (R.getD r []).length := by rw [hRr r hr]; exact hc
          have hcY : c < (Y.getD r []).length := by rw [hYr r hr]; exact hc
          have hg1 := hRg r c hr hc
          have hg2 := hYg r c hr hc
          have hw2 := hwid r c
          refine Tr.skip ?_
          refine Tr.seq ?_
          refine Tr.block ?_
          refine Tr.regD [0, 1, 2, 3, 4, 5, 6, 7, 8, 9, 10, 11, 12, 13, 14, 15, 16, 17, 18, 19, 20, 21, 22, 23, 24, 25, 26, 27, 28, 29, 30, 31, 32, 33, 34, 35] [] [] [11, 13, 19, 20, 181] mix (by kernel_rfl) (by
              simp (maxSteps := 2000000) only [↓sxd, sxu, ↓zB, zI, ↓exq, St.keep, ↓zD, ↓zC, Nat.reduceBEq, Nat.reduceAdd, Nat.reduceLT, Nat.reduceEqDiff, sxe, tysZ8_5, hrR, hrY, hcR, hcY, hg1, hg2]
              iterate 17
                (repeat ((with_reducible refine And.intro ?_ ?_); (focus (first | with_reducible rfl | trivial | exact fun h => h | exact fun h => (by rw [h]; rfl) | omega | assumption))))
                refine GdD.mk _ (fun hg => by simp (maxSteps := 2000000) only [↓sxd, sxu, ↓exP, ↓exq, ↓zD, ↓zC, Nat.reduceBEq, Nat.reduceAdd, Nat.reduceLT, Nat.reduceEqDiff, sxe, tysZ8_5, hrR, hrY, hcR, hcY, hg1, hg2, hg]; (repeat' (first | rfl | exact trivial | exact fun h => h | exact fun h => (by rw [h]; rfl) | apply And.intro | omega | exact Nat.le_of_ble_eq_true rfl))) ?_
                simp (maxSteps := 2000000) only [↓sxd, sxu, ↓zB, zI, ↓exq, ↓zH, Nat.reduceBEq, Nat.reduceLT]
              (repeat' (first | rfl | exact trivial | exact fun h => h | exact fun h => (by rw [h]; rfl) | apply And.intro | omega | exact Nat.le_of_ble_eq_true rfl))) ?_
          refine Tr.cond rfl (fun h181 => ?_) (fun h181 => ?_)
          · exfalso
            rw [Bool.or_eq_true, decide_eq_true_eq, decide_eq_true_eq] at h181
            omega
          · refine Tr.skip ?_
            have w1 := add1 (show c < 4611686018427387904 by omega)
            refine Tr.reg1 [11, 13, 19, 20] (by
                simp only [↓sxd, sxu, ↓zE, ↓exq, St.keep, Nat.reduceBEq, Nat.reduceLT, w1]
                (repeat' (first | rfl | exact trivial | exact fun h => h | exact fun h => (by rw [h]; rfl) | apply And.intro | omega | exact Nat.le_of_ble_eq_true rfl))) ?_
            exact ⟨_, _, by omega, Imp.keepAll, ⟨c + 1, hc, rfl, rfl⟩⟩
        · have hc : c = t.m := by rw [hRr r hr] at h143; have := of_decide_eq_false h143; omega
          refine Tr.exit ?_
          have w1 := add1 (show r < 4611686018427387904 by omega)
          refine Tr.reg1 [11, 13, 19] (by
              simp only [↓sxd, sxu, ↓zE, ↓exq, St.keep, Nat.reduceBEq, Nat.reduceLT, w1]
              (repeat' (first | rfl | exact trivial | exact fun h => h | exact fun h => (by rw [h]; rfl) | apply And.intro | omega | exact Nat.le_of_ble_eq_true rfl))) ?_
          exact ⟨_, _, by omega, Imp.keepAll, ⟨r + 1, hr, rfl, rfl⟩⟩
      · have hr : r = t.n := by rw [hRl] at h134; have := of_decide_eq_false h134; omega
        refine Tr.exit ?_
        refine Tr.reg [8] (by
            simp only [↓sxd, sxu, ↓zE, St.keep, Nat.reduceLT]
            (repeat ((with_reducible refine And.intro ?_ ?_); (focus (first | with_reducible rfl | trivial | exact fun h => h | exact fun h => (by rw [h]; rfl) | omega | assumption))))
            refine CallO.use (awake_c) ?_
            try simp only [↓sxd, sxu, ↓zE, ↓exq, Nat.reduceLT]
            (repeat' (first | rfl | exact trivial | exact fun h => h | exact fun h => (by rw [h]; rfl) | apply And.intro | omega | exact Nat.le_of_ble_eq_true rfl))) ?_
        refine Tr.ret ?_
        (refine ⟨.inr rfl, ?_⟩; first | rfl | exact ⟨rfl, rfl, trivial⟩ | exact ⟨rfl, rfl, rfl, trivial⟩ | (simp only [Res, ResL, ResOK, ↓sxd, sxu, ↓zE, ↓zB, zI, ↓exP, ↓exq, ↓zA, St.keep, ↓zH, ↓zW, ↓zJ, ↓zK, ↓zD, ↓zL, ↓zM, ↓zG, ↓zC, Nat.reduceBEq, Nat.reduceAdd, Nat.reduceLT, Nat.reduceMul, Nat.reduceSub, Nat.reduceLeDiff, Nat.reduceEqDiff, Int.reduceLE, Int.reduceLT, Int.reduceToNat, reduceIte, implies_true, sxe, tysZ8_5]; (repeat' (first | rfl | exact trivial | exact fun h => h | exact fun h => (by rw [h]; rfl) | apply And.intro | omega | exact Nat.le_of_ble_eq_true rfl))))
end Go.Proofs.YtijechcadlklhaaGreat
