/- Lemmas, part ZAY. Conditions: none. -/
import Derived.Test.YtijechcadlklhaaGreatZAU
import Derived.Test.YtijechcadlklhaaGreatZAX
set_option linter.unusedVariables false
namespace Go.Proofs.YtijechcadlklhaaGreat
open Go.Sy
set_option maxRecDepth 8000
theorem mI_get {R : List Int} {k : Nat} (h : k < R.length) : (R.map I).getD k .unk = I (R.getD k 0) := by simp [List.getD_eq_getElem?_getD, h]
theorem mI_set (R : List Int) (k : Nat) (x : Int) : (R.map I).set k (I x) = (R.set k x).map I := by simp [List.map_set]
theorem bit_i {i r : Nat} (hi : i < 18446744073709551616) : ((i : Int).fdiv (2 ^ min r IntKind.i64.bits)).tmod 2 = bitI i r := by
  rw [show (i : Int).fdiv (2 ^ min r IntKind.i64.bits) = ((i >>> r : Nat) : Int) from shr_u hi, Nat.shiftRight_eq_div_pow]
  unfold bitI
  rw [Int.natCast_emod, Int.tmod_eq_emod_of_nonneg (Int.natCast_nonneg _)]
  rfl
theorem bit_01 (i r : Nat) : bitI i r = 0 ∨ bitI i r = 1 := by
  unfold bitI
  have : i / 2 ^ r % 2 = 0 ∨ i / 2 ^ r % 2 = 1 := by omega
  rcases this with h | h <;> rw [h] <;> simp
def Bnd (R : List Int) (a b : Int) : Prop := ∀ i, a ≤ R.getD i 0 ∧ R.getD i 0 ≤ b
theorem Bnd.set {R : List Int} {a b x : Int} {k : Nat} (h : Bnd R a b) (hx : a ≤ x ∧ x ≤ b) (h0 : a ≤ 0 ∧ 0 ≤ b) : Bnd (R.set k x) a b := fun i => by
  by_cases hk : k < R.length
  · rw [getD_set _ _ _ _ _ hk]
    split
    · exact hx
    · exact h i
  · rw [List.set_eq_of_length_le (by omega)]; exact h i
theorem Bnd.mono {R : List Int} {a b a' b' : Int} (h : Bnd R a b) (h1 : a' ≤ a) (h2 : b ≤ b') : Bnd R a' b' := fun i => by have := h i; omega
theorem tcell_bnd {t : HT} {l : List HC} (h : t.pub l = 0) {c : HC} (hc : t.isCell c = true) : 0 ≤ tcell t c ∧ tcell t c ≤ 1000 := by
  have hw := HT.w_ok h
  have hi := (HT.isCell_iff (n := t.rows.length) (m := (t.rows.getD 0 []).length) rfl rfl).1 hc
  have h1 := hw.cell c.row.toNat c.col.toNat (by omega) (by omega)
  have h2 := hw.cap
  have h1' : 0 ≤ tcell t c ∧ tcell t c ≤ (t.w l).cap := h1
  omega
theorem rowsTo_bnd {t : HT} {l : List HC} (hv : ∀ c ∈ l, 0 ≤ tcell t c ∧ tcell t c ≤ 1000) : ∀ k, k ≤ l.length → Bnd (rowsTo t l k) 0 (1000 * k)
  | 0, _ => fun i => by
    have : (rowsTo t l 0).getD i 0 = 0 := by unfold rowsTo; match i with | 0 | 1 | 2 => rfl | n + 3 => rfl
    rw [this]; simp
  | k + 1, hk => by
    have ih := rowsTo_bnd hv k (by omega)
    have hc := hv _ (getD_mem' default (show k < l.length by omega))
    rw [rowsTo]
    refine Bnd.set (ih.mono (Int.le_refl _) (by omega)) ?_ (by omega)
    have := ih (l.getD k default).row.toNat
    omega
theorem colsTo_bnd {t : HT} {l : List HC} (hv : ∀ c ∈ l, 0 ≤ tcell t c ∧ tcell t c ≤ 1000) : ∀ k, k ≤ l.length → Bnd (colsTo t l k) 0 (1000 * k)
  | 0, _ => fun i => by
    have : (colsTo t l 0).getD i 0 = 0 := by unfold colsTo; match i with | 0 | 1 | 2 | 3 => rfl | n + 4 => rfl
    rw [this]; simp
  | k + 1, hk => by
    have ih := colsTo_bnd hv k (by omega)
    have hc := hv _ (getD_mem' default (show k < l.length by omega))
    rw [colsTo]
    refine Bnd.set (ih.mono (Int.le_refl _) (by omega)) ?_ (by omega)
    have := ih (l.getD k default).col.toNat
    omega
theorem sumR_bnd {R : List Int} (h : Bnd R (-1000) 13000) (i : Nat) : ∀ r : Nat, -(13000 * (r : Int)) ≤ sumR R i r ∧ sumR R i r ≤ 13000 * r
  | 0 => by simp [sumR]
  | r + 1 => by
    have ih := sumR_bnd h i r
    have h1 := h r
    rw [sumR]
    rcases bit_01 i r with e | e <;> rw [e] <;> omega
theorem capTo_bnd {t : HT} {l : List HC} {cell : HC} {i k : Nat} (hc : 0 ≤ t.cap ∧ t.cap ≤ 1000) : ∀ n : Nat, 0 ≤ capTo t l cell i k n ∧ capTo t l cell i k n ≤ 1000 * n
  | 0 => by simp [capTo]
  | n + 1 => by
    have ih := capTo_bnd (l := l) (cell := cell) (i := i) (k := k) hc n
    rw [capTo]
    split <;> omega
theorem all_range_at {p : Nat → Bool} {n i : Nat} (h : i < n) (hp : p i = false) : (List.range n).all p = false := by
  rw [List.all_eq_false]
  exact ⟨i, List.mem_range.2 h, by rw [hp]; decide⟩
abbrev tysH23_48 := And.intro ty.sz0 <| And.intro ty.agg0 <| And.intro ty.elem0 <| And.intro ty.sz3 <| And.intro ty.agg3 <| And.intro ty.elem3 <| And.intro ty.zero3 <| And.intro ty.und3 <| And.intro ty.sz4 <| And.intro ty.agg4 <| And.intro ty.elem4 <| And.intro ty.zero4 <| And.intro ty.und4 <| And.intro ty.sz22 <| And.intro ty.agg22 <| And.intro ty.elem22 <| And.intro ty.by22 <| And.intro ty.ez22 <| And.intro ty.zero22 <| And.intro ty.und22 <| And.intro ty.sz24 <| And.intro ty.agg24 <| And.intro ty.fld24_0 <| And.intro ty.fld24_1 <| And.intro ty.elem24 <| And.intro ty.zero24 <| And.intro ty.pl24 <| And.intro ty.sz25 <| And.intro ty.agg25 <| And.intro ty.elem25 <| And.intro ty.by25 <| And.intro ty.ez25 <| And.intro ty.zero25 <| And.intro ty.und25 <| And.intro ty.sz41 <| And.intro ty.agg41 <| And.intro ty.fld41_0 <| And.intro ty.fld41_1 <| And.intro ty.elem41 <| And.intro ty.zero41 <| And.intro ty.pl41 <| And.intro ty.sz44 <| And.intro ty.agg44 <| And.intro ty.elem44 <| And.intro ty.by44 <| And.intro ty.ez44 <| And.intro ty.zero44 <| And.intro ty.und44 <| And.intro ty.sz54 <| And.intro ty.agg54 <| And.intro ty.elem54 <| And.intro ty.zero54 <| And.intro ty.und54 <| And.intro ty.sz122 <| And.intro ty.agg122 <| And.intro ty.elem122 <| And.intro ty.arr122 <| And.intro ty.zero122 <| And.intro ty.und122 <| And.intro ty.sz123 <| And.intro ty.agg123 <| And.intro ty.elem123 <| And.intro ty.arr123 <| And.intro ty.zero123 <| ty.und123
set_option maxHeartbeats 4000000 in
theorem Can_c (t : HT) (l : List HC) (cell : HC) (v : Int) (hpub : t.pub l = 0) (hcell : t.isCell cell = true) : CallP Tryz.prog G0 48 [t.s, SC l, cell.s, I v] (B (canS t l cell v)) := by
  have hw := HT.w_ok hpub
  have hcap : 0 ≤ t.cap ∧ t.cap ≤ 1000 := hw.cap
  have hi := (HT.isCell_iff (n := t.rows.length) (m := (t.rows.getD 0 []).length) rfl rfl).1 hcell
  have hl12 : l.length ≤ 12 := by have := cells_len hw; rwa [cells_eq hpub] at this
  have hlc : ∀ c ∈ l, t.isCell c = true := fun c hc => (HT.isCell_iff rfl rfl).2 ((pub_dims hpub).2.2.1.cell c hc)
  have hlv : ∀ c ∈ l, 0 ≤ tcell t c ∧ tcell t c ≤ 1000 := fun c hc => tcell_bnd hpub (hlc c hc)
  have hn3 : t.rows.length ≤ 3 := hw.n3
  have hm4 : (t.rows.getD 0 []).length ≤ 4 := hw.m4
  have hdim : Dim t.rows.length (t.rows.getD 0 []).length t.rows := hw.dim
  obtain ⟨⟨row, col⟩, hce⟩ : ∃ q : HC, q = cell := ⟨_, rfl⟩
  rw [← hce] at hi hcell ⊢
  simp only at hi
  obtain ⟨r, rfl⟩ := Int.eq_ofNat_of_zero_le hi.1
  obtain ⟨c, rfl⟩ := Int.eq_ofNat_of_zero_le hi.2.2.1
  have hr : r < t.rows.length := by omega
  have hc : c < (t.rows.getD r []).length := by rw [hdim.2 r hr]; omega
  refine CallP.body 172 [.tmp 8] Tryz.func48 (by kernel_rfl) rfl rfl rfl zP zP ?_
  refine Tr.reg [1, 3, 4, 6] (by
      simp only [↓sxd, sxu, ↓zE, ↓exq, ↓zM, Nat.reduceBEq, Nat.reduceAdd, Nat.reduceLT, Nat.reduceEqDiff]
      (all_goals try exact zF)) ?_
  refine Tr.seq ?_
  refine Tr.reg [1, 3, 4, 6, 24] (by
      simp only [↓sxd, sxu, ↓zE, ↓exq, ↓zD, ↓zC, Nat.reduceBEq, Nat.reduceAdd, Nat.reduceLT, Nat.reduceEqDiff, tysH23_48]
      (repeat ((with_reducible refine And.intro ?_ ?_); (focus (exact zS))))
      refine CallO.use (In_c _ _ _) ?_
      try simp only [↓sxd, sxu, ↓zE, ↓exq, ↓zJ, Nat.reduceBEq, Nat.reduceLT]
      (all_goals try exact zF)) ?_
  refine Tr.cond rfl (fun h24 => ?_) (fun h24 => ?_)
  · have hin : inR v 0 t.cap = false := by simpa using h24
    have hcs : canS t l ⟨(r : Nat), (c : Nat)⟩ v = false := by unfold canS; rw [if_pos hin]
    refine Tr.reg [8] (by
        simp only [↓sxd, sxu, ↓zE, ↓exq, Nat.reduceLT]
        (all_goals try exact zF)) ?_
    refine Tr.ret ?_
    exact ⟨.inr rfl, by rw [hcs]; rfl⟩
  · have hin : inR v 0 t.cap = true := by simpa using h24
    have hv := inR_iff.1 hin
    refine Tr.skip ?_
    refine Tr.seq ?_
    refine Tr.reg [1, 3, 4, 6, 28] (by
        simp only [↓sxd, sxu, ↓zE, ↓exq, ↓zD, Nat.reduceBEq, Nat.reduceAdd, Nat.reduceLT, tysH23_48]
        (repeat ((with_reducible refine And.intro ?_ ?_); (focus (exact zS))))
        refine CallO.use (Has_c l ⟨(r : Nat), (c : Nat)⟩ (by omega)) ?_
        try simp only [↓sxd, sxu, ↓zE, ↓exq, ↓zJ, Nat.reduceBEq, Nat.reduceLT]
        (all_goals try exact zF)) ?_
    refine Tr.cond rfl (fun h28 => ?_) (fun h28 => ?_)
    · have hno : l.contains ⟨(r : Nat), (c : Nat)⟩ = false := by simpa using h28
      have hcs : canS t l ⟨(r : Nat), (c : Nat)⟩ v = decide (v = tcell t ⟨(r : Nat), (c : Nat)⟩) := by unfold canS; rw [if_neg (by rw [hin]; decide), if_pos hno]
      refine Tr.regD [0, 1, 2, 3, 4, 5, 6, 7, 8, 9, 10, 11, 12] [] [] [8] mix (by kernel_rfl) (by
          simp only [↓sxd, sxu, ↓zB, zI, ↓exq, ↓zD, ↓zC, Nat.reduceBEq, Nat.reduceAdd, Nat.reduceLT, Nat.reduceEqDiff, sxe, tysH23_48, hr, hc]
          (all_goals try exact zF)) ?_
      refine Tr.ret ?_
      exact ⟨.inr rfl, by rw [hcs]; rfl⟩
    · have hno : l.contains ⟨(r : Nat), (c : Nat)⟩ = true := by simpa using h28
      have hcs : canS t l ⟨(r : Nat), (c : Nat)⟩ v = (List.range 8).all fun i => (List.range 16).all fun k => decide (leftS t l ⟨(r : Nat), (c : Nat)⟩ v i k ≤ 0) := by unfold canS; rw [if_neg (by rw [hin]; decide), if_neg (by rw [hno]; decide)]
      refine Tr.skip ?_
      refine Tr.reg [1, 3, 4, 6, 9] (by
          simp only [↓sxd, sxu, ↓zE, ↓exq, ↓zN, Nat.reduceBEq, Nat.reduceAdd, Nat.reduceLT, Nat.reduceEqDiff, tysH23_48]
          (all_goals try exact zF)) ?_
      refine Tr.reg [1, 3, 4, 6, 9, 10] (by
          simp only [↓sxd, sxu, ↓zE, ↓exq, ↓zN, Nat.reduceBEq, Nat.reduceAdd, Nat.reduceLT, Nat.reduceEqDiff, tysH23_48]
          (all_goals try exact zF)) ?_
      refine Tr.seq ?_
      refine Tr.reg [1, 3, 4, 6, 9, 10, 11] (by
          simp only [↓sxd, sxu, ↓zE, ↓exq, Nat.reduceBEq, Nat.reduceLT]
          (all_goals try exact zF)) ?_
      refine Tr.imp (st' := ⟨[(1, SC l), (3, I v), (4, .ptr 0 0 0), (6, .ptr 1 0 0), (9, .ptr 2 0 0), (10, .ptr 3 0 0), (11, I 0)], [(3, .arr 4 [(colsTo t l 0).map I]), (2, .arr 3 [(rowsTo t l 0).map I]), (1, .arr 2 [[I (r : Nat), I (c : Nat)]]), (0, tbx t)], 4, 172, [], 0⟩) (Imp.keepAll) (Tr.block (Tr.loopI (fun mm ss => ∃ (k : Nat), (k ≤ l.length) ∧ l.length - k = mm ∧ ss = ⟨[(1, SC l), (3, I v), (4, .ptr 0 0 0), (6, .ptr 1 0 0), (9, .ptr 2 0 0), (10, .ptr 3 0 0), (11, I k)], [(3, .arr 4 [(colsTo t l k).map I]), (2, .arr 3 [(rowsTo t l k).map I]), (1, .arr 2 [[I (r : Nat), I (c : Nat)]]), (0, tbx t)], 4, 172, [], 0⟩) _ ⟨0, ?_, rfl, rfl⟩ ?_))
      · exact Nat.zero_le _
      rintro mm ss ⟨k, hI, rfl, rfl⟩
      refine Tr.seq ?_
      refine Tr.reg [1, 3, 4, 6, 9, 10, 11, 44] (by
          simp only [↓sxd, sxu, ↓zE, ↓exq, ↓zA, ↓zK, Nat.reduceBEq, Nat.reduceLT, sxe, tysH23_48]
          (all_goals try exact zF)) ?_
      refine Tr.cond rfl (fun h44 => ?_) (fun h44 => ?_)
      · have hlt : k < l.length := by simpa using h44
        refine Tr.skip ?_
        refine Tr.seq ?_
        refine Tr.block ?_
        refine Tr.reg [1, 3, 4, 6, 9, 10, 11, 12] (by
            simp only [↓sxd, sxu, ↓zE, ↓exq, ↓zD, ↓zN, Nat.reduceBEq, Nat.reduceAdd, Nat.reduceLT, Nat.reduceEqDiff, sxe, tysH23_48, hlt]
            (all_goals try exact zF)) ?_
        have hq := (HT.isCell_iff (n := t.rows.length) (m := (t.rows.getD 0 []).length) rfl rfl).1 (hlc _ (getD_mem' default hlt))
        have hqv := hlv _ (getD_mem' default hlt)
        obtain ⟨q, hqe⟩ : ∃ q, q = l.getD k default := ⟨_, rfl⟩
        rw [← hqe] at hq hqv ⊢
        obtain ⟨rr, hrr⟩ := Int.eq_ofNat_of_zero_le hq.1
        obtain ⟨cc, hcc⟩ := Int.eq_ofNat_of_zero_le hq.2.2.1
        rw [hrr, hcc]
        have hrr2 : rr < t.rows.length := by omega
        have hcc2 : cc < (t.rows.getD rr []).length := by rw [hdim.2 rr hrr2]; omega
        have i1 : ((rr : Int) < ((3 : Nat) : Int)) = True := eq_true (by omega)
        have i2 : ((cc : Int) < ((4 : Nat) : Int)) = True := eq_true (by omega)
        have g1 := mI_get (R := rowsTo t l k) (k := rr) (by rw [rowsTo_len]; omega)
        have g2 := mI_get (R := colsTo t l k) (k := cc) (by rw [colsTo_len]; omega)
        have htc : tcell t q = (t.rows.getD rr []).getD cc 0 := by unfold tcell cellAt; rw [hrr, hcc]; rfl
        have b1 := rowsTo_bnd hlv k (by omega) rr
        have b2 := colsTo_bnd hlv k (by omega) cc
        have w1 : IntKind.i64.wrap ((rowsTo t l k).getD rr 0 + (t.rows.getD rr []).getD cc 0) = (rowsTo t l k).getD rr 0 + tcell t q := by rw [← htc, wr (by omega) (by omega)]
        have w2 : IntKind.i64.wrap ((colsTo t l k).getD cc 0 + (t.rows.getD rr []).getD cc 0) = (colsTo t l k).getD cc 0 + tcell t q := by rw [← htc, wr (by omega) (by omega)]
        have hr1 : rowsTo t l (k + 1) = (rowsTo t l k).set rr ((rowsTo t l k).getD rr 0 + tcell t q) := by rw [rowsTo, ← hqe, hrr]; rfl
        have hc1 : colsTo t l (k + 1) = (colsTo t l k).set cc ((colsTo t l k).getD cc 0 + tcell t q) := by rw [colsTo, ← hqe, hcc]; rfl
        refine Tr.regD [0, 1, 2, 3, 4, 5, 6, 7, 8, 9, 10, 11, 12, 13, 14, 15, 16] [16] [] [1, 3, 4, 6, 9, 10, 11, 12] mix (by kernel_rfl) (by
            simp only [↓sxd, sxu, ↓zB, zI, ↓exq, ↓zD, ↓zC, Nat.reduceBEq, Nat.reduceAdd, Nat.reduceLT, Nat.reduceLeDiff, Nat.reduceEqDiff, sxe, tysH23_48, g1, i1, hrr2, hcc2, w1, mI_set, rowsTo_len]
            (all_goals try exact zF)) ?_
        refine Tr.regD1 [0, 1, 2, 3, 4, 5, 6, 7, 8, 9, 10, 11, 12, 13, 14, 15, 16] [16] [] [1, 3, 4, 6, 9, 10, 11] mix (by kernel_rfl) (by
            simp only [↓sxd, sxu, ↓zB, zI, ↓exq, ↓zD, ↓zC, Nat.reduceBEq, Nat.reduceAdd, Nat.reduceLT, Nat.reduceLeDiff, Nat.reduceEqDiff, sxe, tysH23_48, g2, i2, hrr2, hcc2, w2, mI_set, colsTo_len]
            (all_goals try exact zF)) ?_
        have w3 := add1 (show k < 4611686018427387904 by omega)
        refine Tr.reg1 [1, 3, 4, 6, 9, 10, 11] (by
            simp only [↓sxd, sxu, ↓zE, ↓exq, Nat.reduceBEq, Nat.reduceLT, w3]
            (all_goals try exact zF)) ?_
        refine ⟨_, _, ?_, ?_, ⟨k + 1, hlt, rfl, rfl⟩⟩
        · omega
        · rw [hr1, hc1]
          exact Imp.go (rg 4 1) [(3, _), (2, _), (1, _), (0, _)] rfl rfl (.cons _ (.refl _)) (fun _ h => absurd h (Nat.not_lt_zero _)) (fun id h => by rw [rg_ge h]; show 5 ≤ id + 1; omega) zT zT (fun h => h)
      · have hge : k = l.length := by simp at h44; omega
        refine Tr.exit ?_
        subst hge
        have i1 : ((r : Int) < ((3 : Nat) : Int)) = True := eq_true (by omega)
        have g1 := mI_get (R := rowsTo t l l.length) (k := r) (by rw [rowsTo_len]; omega)
        have b1 := rowsTo_bnd hlv l.length (Nat.le_refl _)
        have b1r := b1 r
        have w1 : IntKind.i64.wrap ((rowsTo t l l.length).getD r 0 - v) = (rowsTo t l l.length).getD r 0 - v := by rw [wr (by omega) (by omega)]
        refine Tr.reg [1, 3, 4, 6, 9, 10] (by
            simp only [↓sxd, sxu, ↓zE, ↓exq, ↓zD, ↓zC, Nat.reduceBEq, Nat.reduceAdd, Nat.reduceLT, Nat.reduceLeDiff, Nat.reduceEqDiff, sxe, tysH23_48, g1, i1, w1, mI_set, rowsTo_len]
            (all_goals try exact zF)) ?_
        have i2 : ((c : Int) < ((4 : Nat) : Int)) = True := eq_true (by omega)
        have g2 := mI_get (R := colsTo t l l.length) (k := c) (by rw [colsTo_len]; omega)
        have b2 := colsTo_bnd hlv l.length (Nat.le_refl _)
        have b2c := b2 c
        have w2 : IntKind.i64.wrap ((colsTo t l l.length).getD c 0 - v) = (colsTo t l l.length).getD c 0 - v := by rw [wr (by omega) (by omega)]
        refine Tr.reg [1, 4, 6, 9, 10] (by
            simp only [↓sxd, sxu, ↓zE, ↓exq, ↓zD, ↓zC, Nat.reduceBEq, Nat.reduceAdd, Nat.reduceLT, Nat.reduceLeDiff, Nat.reduceEqDiff, sxe, tysH23_48, g2, i2, w2, mI_set, colsTo_len]
            (all_goals try exact zF)) ?_
        have hRV : (rowsTo t l l.length).set r ((rowsTo t l l.length).getD r 0 - v) = rowsV t l ⟨(r : Nat), (c : Nat)⟩ v := rfl
        have hCV : (colsTo t l l.length).set c ((colsTo t l l.length).getD c 0 - v) = colsV t l ⟨(r : Nat), (c : Nat)⟩ v := rfl
        have bR : Bnd (rowsV t l ⟨(r : Nat), (c : Nat)⟩ v) (-1000) 13000 := by rw [← hRV]; exact Bnd.set (b1.mono (by omega) (by omega)) (by omega) (by omega)
        have bC : Bnd (colsV t l ⟨(r : Nat), (c : Nat)⟩ v) (-1000) 13000 := by rw [← hCV]; exact Bnd.set (b2.mono (by omega) (by omega)) (by omega) (by omega)
        have lR : (rowsV t l ⟨(r : Nat), (c : Nat)⟩ v).length = 3 := by rw [← hRV, List.length_set, rowsTo_len]
        have lC : (colsV t l ⟨(r : Nat), (c : Nat)⟩ v).length = 4 := by rw [← hCV, List.length_set, colsTo_len]
        rw [hRV, hCV]
        unfold leftS at hcs
        generalize rowsV t l ⟨(r : Nat), (c : Nat)⟩ v = RV at *
        generalize colsV t l ⟨(r : Nat), (c : Nat)⟩ v = CV at *
        refine Tr.seq ?_
        refine Tr.reg [1, 4, 6, 9, 10, 13] (by
            simp only [↓sxd, sxu, ↓zE, ↓exq, Nat.reduceBEq, Nat.reduceLT]
            (all_goals try exact zF)) ?_
        refine Tr.imp (st' := ⟨[(1, SC l), (4, .ptr 0 0 0), (6, .ptr 1 0 0), (9, .ptr 2 0 0), (10, .ptr 3 0 0), (13, I 0)], [(3, .arr 4 [CV.map I]), (2, .arr 3 [RV.map I]), (1, .arr 2 [[I (r : Nat), I (c : Nat)]]), (0, tbx t)], 4, 172, [], 0⟩) (Imp.keepAll) (Tr.block (Tr.loopI (fun mm ss => ∃ (i : Nat), (i ≤ 8 ∧ ∀ j, j < i → ((List.range 16).all fun k => decide (sumR RV j 3 - sumR CV k 4 - capTo t l ⟨(r : Nat), (c : Nat)⟩ j k l.length ≤ 0)) = true) ∧ 8 - i = mm ∧ ss = ⟨[(1, SC l), (4, .ptr 0 0 0), (6, .ptr 1 0 0), (9, .ptr 2 0 0), (10, .ptr 3 0 0), (13, I i)], [(3, .arr 4 [CV.map I]), (2, .arr 3 [RV.map I]), (1, .arr 2 [[I (r : Nat), I (c : Nat)]]), (0, tbx t)], 4, 172, [], 0⟩) _ ⟨0, ?_, rfl, rfl⟩ ?_))
        · exact ⟨Nat.zero_le _, fun j hj => by omega⟩
        rintro mm ss ⟨i, hI, rfl, rfl⟩
        obtain ⟨hi8, hall⟩ := hI
        refine Tr.seq ?_
        refine Tr.reg [1, 4, 6, 9, 10, 13, 98] (by
            simp only [↓sxd, sxu, ↓zE, ↓exq, Nat.reduceBEq, Nat.reduceLT]
            (all_goals try exact zF)) ?_
        refine Tr.cond rfl (fun h98 => ?_) (fun h98 => ?_)
        · have hilt : i < 8 := by have := of_decide_eq_true h98; omega
          refine Tr.skip ?_
          refine Tr.seq ?_
          refine Tr.block ?_
          refine Tr.reg [1, 4, 6, 9, 10, 13, 14] (by
              simp only [↓sxd, sxu, ↓zE, ↓exq, Nat.reduceBEq, Nat.reduceLT]
              (all_goals try exact zF)) ?_
          refine Tr.imp (st' := ⟨[(1, SC l), (4, .ptr 0 0 0), (6, .ptr 1 0 0), (9, .ptr 2 0 0), (10, .ptr 3 0 0), (13, I i), (14, I 0)], [(3, .arr 4 [CV.map I]), (2, .arr 3 [RV.map I]), (1, .arr 2 [[I (r : Nat), I (c : Nat)]]), (0, tbx t)], 4, 172, [], 0⟩) (Imp.keepAll) (Tr.block (Tr.loopI (fun mm ss => ∃ (k : Nat), (k ≤ 16 ∧ ∀ j, j < k → sumR RV i 3 - sumR CV j 4 - capTo t l ⟨(r : Nat), (c : Nat)⟩ i j l.length ≤ 0) ∧ 16 - k = mm ∧ ss = ⟨[(1, SC l), (4, .ptr 0 0 0), (6, .ptr 1 0 0), (9, .ptr 2 0 0), (10, .ptr 3 0 0), (13, I i), (14, I k)], [(3, .arr 4 [CV.map I]), (2, .arr 3 [RV.map I]), (1, .arr 2 [[I (r : Nat), I (c : Nat)]]), (0, tbx t)], 4, 172, [], 0⟩) _ ⟨0, ?_, rfl, rfl⟩ ?_))
          · exact ⟨Nat.zero_le _, fun j hj => by omega⟩
          rintro mm ss ⟨k, hI, rfl, rfl⟩
          obtain ⟨hk16, hall2⟩ := hI
          refine Tr.seq ?_
          refine Tr.reg [1, 4, 6, 9, 10, 13, 14, 102] (by
              simp only [↓sxd, sxu, ↓zE, ↓exq, Nat.reduceBEq, Nat.reduceLT]
              (all_goals try exact zF)) ?_
          refine Tr.cond rfl (fun h102 => ?_) (fun h102 => ?_)
          · have hklt : k < 16 := by have := of_decide_eq_true h102; omega
            refine Tr.skip ?_
            refine Tr.seq ?_
            refine Tr.block ?_
            refine Tr.reg [1, 4, 6, 9, 10, 13, 14, 15] (by
                simp only [↓sxd, sxu, ↓zE, ↓exq, Nat.reduceBEq, Nat.reduceLT]
                (all_goals try exact zF)) ?_
            refine Tr.seq ?_
            refine Tr.reg [1, 4, 6, 9, 10, 13, 14, 15, 16] (by
                simp only [↓sxd, sxu, ↓zE, ↓exq, Nat.reduceBEq, Nat.reduceLT]
                (all_goals try exact zF)) ?_
            refine Tr.imp (st' := ⟨[(1, SC l), (4, .ptr 0 0 0), (6, .ptr 1 0 0), (9, .ptr 2 0 0), (10, .ptr 3 0 0), (13, I i), (14, I k), (15, I (sumR RV i 0)), (16, I 0)], [(3, .arr 4 [CV.map I]), (2, .arr 3 [RV.map I]), (1, .arr 2 [[I (r : Nat), I (c : Nat)]]), (0, tbx t)], 4, 172, [], 0⟩) (Imp.keepAll) (Tr.block (Tr.loopI (fun mm ss => ∃ (x : Nat), (x ≤ 3) ∧ 3 - x = mm ∧ ss = ⟨[(1, SC l), (4, .ptr 0 0 0), (6, .ptr 1 0 0), (9, .ptr 2 0 0), (10, .ptr 3 0 0), (13, I i), (14, I k), (15, I (sumR RV i x)), (16, I x)], [(3, .arr 4 [CV.map I]), (2, .arr 3 [RV.map I]), (1, .arr 2 [[I (r : Nat), I (c : Nat)]]), (0, tbx t)], 4, 172, [], 0⟩) _ ⟨0, ?_, rfl, rfl⟩ ?_))
            · exact Nat.zero_le _
            rintro mm ss ⟨x, hI, rfl, rfl⟩
            refine Tr.seq ?_
            refine Tr.reg [1, 4, 6, 9, 10, 13, 14, 15, 16, 106] (by
                simp only [↓sxd, sxu, ↓zE, ↓exq, Nat.reduceBEq, Nat.reduceLT]
                (all_goals try exact zF)) ?_
            refine Tr.cond rfl (fun h106 => ?_) (fun h106 => ?_)
            · have hxlt : x < 3 := by have := of_decide_eq_true h106; omega
              refine Tr.skip ?_
              refine Tr.seq ?_
              refine Tr.block ?_
              have gx := mI_get (R := RV) (k := x) (by omega)
              have ix : ((x : Int) < ((3 : Nat) : Int)) = True := eq_true (by omega)
              have ux : IntKind.u64.wrap (x : Int) = (x : Int) := wu (by omega) (by omega)
              have bx := bit_i (i := i) (r := x) (by omega)
              have bb := bit_01 i x
              have sb := sumR_bnd bR i x
              have rb := bR x
              have w1 : IntKind.i64.wrap (RV.getD x 0 * bitI i x) = RV.getD x 0 * bitI i x := by rcases bb with e | e <;> rw [e] <;> rw [wr (by omega) (by omega)]
              have w2 : IntKind.i64.wrap (sumR RV i x + RV.getD x 0 * bitI i x) = sumR RV i (x + 1) := by
                rw [sumR]
                rcases bb with e | e <;> rw [e] <;> rw [wr (by omega) (by omega)]
              refine Tr.reg1 [1, 4, 6, 9, 10, 13, 14, 15, 16] (by
                  simp only [↓sxd, sxu, ↓zE, ↓exq, ↓zW, ↓zD, Nat.reduceBEq, Nat.reduceLT, sxe, tysH23_48, gx, ix, ux, bx, w1, w2, lR]
                  (all_goals try exact zF)) ?_
              have w1 := add1 (show x < 4611686018427387904 by omega)
              refine Tr.reg1 [1, 4, 6, 9, 10, 13, 14, 15, 16] (by
                  simp only [↓sxd, sxu, ↓zE, ↓exq, Nat.reduceBEq, Nat.reduceLT, w1]
                  (all_goals try exact zF)) ?_
              exact ⟨_, _, by omega, Imp.keepAll, ⟨x + 1, hxlt, rfl, rfl⟩⟩
            · have hxge : x = 3 := by have := of_decide_eq_false h106; omega
              subst hxge
              refine Tr.exit ?_
              refine Tr.seq ?_
              refine Tr.reg [1, 4, 6, 9, 10, 13, 14, 15, 17] (by
                  simp only [↓sxd, sxu, ↓zE, ↓exq, Nat.reduceBEq, Nat.reduceLT]
                  (all_goals try exact zF)) ?_
              refine Tr.imp (st' := ⟨[(1, SC l), (4, .ptr 0 0 0), (6, .ptr 1 0 0), (9, .ptr 2 0 0), (10, .ptr 3 0 0), (13, I i), (14, I k), (15, I (sumR RV i 3 - sumR CV k 0)), (17, I 0)], [(3, .arr 4 [CV.map I]), (2, .arr 3 [RV.map I]), (1, .arr 2 [[I (r : Nat), I (c : Nat)]]), (0, tbx t)], 4, 172, [], 0⟩) (by rw [show sumR RV i 3 - sumR CV k 0 = sumR RV i 3 from Int.sub_zero _]; exact Imp.keepAll) (Tr.block (Tr.loopI (fun mm ss => ∃ (y : Nat), (y ≤ 4) ∧ 4 - y = mm ∧ ss = ⟨[(1, SC l), (4, .ptr 0 0 0), (6, .ptr 1 0 0), (9, .ptr 2 0 0), (10, .ptr 3 0 0), (13, I i), (14, I k), (15, I (sumR RV i 3 - sumR CV k y)), (17, I y)], [(3, .arr 4 [CV.map I]), (2, .arr 3 [RV.map I]), (1, .arr 2 [[I (r : Nat), I (c : Nat)]]), (0, tbx t)], 4, 172, [], 0⟩) _ ⟨0, ?_, rfl, rfl⟩ ?_))
              · exact Nat.zero_le _
              rintro mm ss ⟨y, hI, rfl, rfl⟩
              refine Tr.seq ?_
              refine Tr.reg [1, 4, 6, 9, 10, 13, 14, 15, 17, 121] (by
                  simp only [↓sxd, sxu, ↓zE, ↓exq, Nat.reduceBEq, Nat.reduceLT]
                  (all_goals try exact zF)) ?_
              refine Tr.cond rfl (fun h121 => ?_) (fun h121 => ?_)
              · have hylt : y < 4 := by have := of_decide_eq_true h121; omega
                refine Tr.skip ?_
                refine Tr.seq ?_
                refine Tr.block ?_
                have gy := mI_get (R := CV) (k := y) (by omega)
                have iy : ((y : Int) < ((4 : Nat) : Int)) = True := eq_true (by omega)
                have uy : IntKind.u64.wrap (y : Int) = (y : Int) := wu (by omega) (by omega)
                have by' := bit_i (i := k) (r := y) (by omega)
                have bb := bit_01 k y
                have sb := sumR_bnd bR i 3
                have sc := sumR_bnd bC k y
                have rb := bC y
                have w1 : IntKind.i64.wrap (CV.getD y 0 * bitI k y) = CV.getD y 0 * bitI k y := by rcases bb with e | e <;> rw [e] <;> rw [wr (by omega) (by omega)]
                have w2 : IntKind.i64.wrap (sumR RV i 3 - sumR CV k y - CV.getD y 0 * bitI k y) = sumR RV i 3 - sumR CV k (y + 1) := by
                  rw [show sumR CV k (y + 1) = sumR CV k y + CV.getD y 0 * bitI k y from rfl, ← Int.sub_sub]
                  rcases bb with e | e <;> rw [e] <;> rw [wr (by omega) (by omega)]
                refine Tr.reg1 [1, 4, 6, 9, 10, 13, 14, 15, 17] (by
                    simp only [↓sxd, sxu, ↓zE, ↓exq, ↓zW, ↓zD, Nat.reduceBEq, Nat.reduceLT, sxe, tysH23_48, gy, iy, uy, by', w1, w2, lC]
                    (all_goals try exact zF)) ?_
                have w1 := add1 (show y < 4611686018427387904 by omega)
                refine Tr.reg1 [1, 4, 6, 9, 10, 13, 14, 15, 17] (by
                    simp only [↓sxd, sxu, ↓zE, ↓exq, Nat.reduceBEq, Nat.reduceLT, w1]
                    (all_goals try exact zF)) ?_
                exact ⟨_, _, by omega, Imp.keepAll, ⟨y + 1, hylt, rfl, rfl⟩⟩
              · have hyge : y = 4 := by have := of_decide_eq_false h121; omega
                subst hyge
                refine Tr.exit ?_
                refine Tr.seq ?_
                refine Tr.reg [1, 4, 6, 9, 10, 13, 14, 15, 18] (by
                    simp only [↓sxd, sxu, ↓zE, ↓exq, Nat.reduceBEq, Nat.reduceLT]
                    (all_goals try exact zF)) ?_
                refine Tr.imp (st' := ⟨[(1, SC l), (4, .ptr 0 0 0), (6, .ptr 1 0 0), (9, .ptr 2 0 0), (10, .ptr 3 0 0), (13, I i), (14, I k), (15, I (sumR RV i 3 - sumR CV k 4 - capTo t l ⟨(r : Nat), (c : Nat)⟩ i k 0)), (18, I 0)], [(3, .arr 4 [CV.map I]), (2, .arr 3 [RV.map I]), (1, .arr 2 [[I (r : Nat), I (c : Nat)]]), (0, tbx t)], 4, 172, [], 0⟩) (by rw [show sumR RV i 3 - sumR CV k 4 - capTo t l ⟨(r : Nat), (c : Nat)⟩ i k 0 = sumR RV i 3 - sumR CV k 4 from Int.sub_zero _]; exact Imp.keepAll) (Tr.block (Tr.loopI (fun mm ss => ∃ (z : Nat), (z ≤ l.length) ∧ l.length - z = mm ∧ ss = ⟨[(1, SC l), (4, .ptr 0 0 0), (6, .ptr 1 0 0), (9, .ptr 2 0 0), (10, .ptr 3 0 0), (13, I i), (14, I k), (15, I (sumR RV i 3 - sumR CV k 4 - capTo t l ⟨(r : Nat), (c : Nat)⟩ i k z)), (18, I z)], [(3, .arr 4 [CV.map I]), (2, .arr 3 [RV.map I]), (1, .arr 2 [[I (r : Nat), I (c : Nat)]]), (0, tbx t)], 4, 172, [], 0⟩) _ ⟨0, ?_, rfl, rfl⟩ ?_))
                · exact Nat.zero_le _
                rintro mm ss ⟨z, hI, rfl, rfl⟩
                refine Tr.seq ?_
                refine Tr.reg [1, 4, 6, 9, 10, 13, 14, 15, 18, 138] (by
                    simp only [↓sxd, sxu, ↓zE, ↓exq, ↓zA, ↓zK, Nat.reduceBEq, Nat.reduceLT, sxe, tysH23_48]
                    (all_goals try exact zF)) ?_
                refine Tr.cond rfl (fun h138 => ?_) (fun h138 => ?_)
                · have hzlt : z < l.length := by simpa using h138
                  refine Tr.skip ?_
                  refine Tr.seq ?_
                  refine Tr.block ?_
                  refine Tr.reg [1, 4, 6, 9, 10, 13, 14, 15, 18, 19] (by
                      simp only [↓sxd, sxu, ↓zE, ↓exq, ↓zD, ↓zN, Nat.reduceBEq, Nat.reduceAdd, Nat.reduceLT, Nat.reduceEqDiff, sxe, tysH23_48, hzlt]
                      (all_goals try exact zF)) ?_
                  have hq := (HT.isCell_iff (n := t.rows.length) (m := (t.rows.getD 0 []).length) rfl rfl).1 (hlc _ (getD_mem' default hzlt))
                  have hcapS : capTo t l ⟨(r : Nat), (c : Nat)⟩ i k (z + 1) = capTo t l ⟨(r : Nat), (c : Nat)⟩ i k z + if l.getD z default ≠ ⟨(r : Nat), (c : Nat)⟩ ∧ bitI i (l.getD z default).row.toNat = 1 ∧ bitI k (l.getD z default).col.toNat = 0 then t.cap else 0 := rfl
                  obtain ⟨q, hqe⟩ : ∃ q, q = l.getD z default := ⟨_, rfl⟩
                  rw [← hqe] at hq hcapS ⊢
                  obtain ⟨rr, hrr⟩ := Int.eq_ofNat_of_zero_le hq.1
                  obtain ⟨cc, hcc⟩ := Int.eq_ofNat_of_zero_le hq.2.2.1
                  have hqq : q = ⟨(rr : Nat), (cc : Nat)⟩ := by cases q; simp only at hrr hcc; rw [hrr, hcc]
                  rw [hqq] at hcapS ⊢
                  simp only [Int.toNat_natCast] at hcapS
                  have sb := sumR_bnd bR i 3
                  have sc := sumR_bnd bC k 4
                  have sd := capTo_bnd (l := l) (cell := ⟨(r : Nat), (c : Nat)⟩) (i := i) (k := k) hcap z
                  have u1 : IntKind.u64.wrap (rr : Int) = (rr : Int) := wu (by omega) (by omega)
                  have u2 : IntKind.u64.wrap (cc : Int) = (cc : Int) := wu (by omega) (by omega)
                  have p1 := bit_i (i := i) (r := rr) (by omega)
                  have p2 := bit_i (i := k) (r := cc) (by omega)
                  refine Tr.reg [1, 4, 6, 9, 10, 13, 14, 15, 18, 165] (by
                      simp only [↓sxd, sxu, ↓zE, ↓exq, ↓zD, Nat.reduceBEq, Nat.reduceAdd, Nat.reduceLT, tysH23_48]
                      (repeat ((with_reducible refine And.intro ?_ ?_); (focus (exact zS))))
                      refine ⟨[(rr : Int), (cc : Int)], [(r : Int), (c : Int)], rfl, rfl, rfl, eqRC, ?_⟩
                      try simp only [↓sxd, sxu, ↓zE, ↓zB, zI, ↓exP, ↓exq, ↓zA, ↓zH, ↓zW, ↓zJ, ↓zK, ↓zD, ↓zN, ↓zM, ↓zC, Nat.reduceBEq, Nat.reduceAdd, Nat.reduceLT, Nat.reduceMul, Nat.reduceSub, Nat.reduceLeDiff, Nat.reduceEqDiff, Int.reduceLE, Int.reduceLT, Int.reduceToNat, reduceIte, sxe, tysH23_48, u1, u2, p1, p2]
                      iterate 14
                        (repeat ((with_reducible refine And.intro ?_ ?_); (focus (exact zS))))
                        refine GdO.mk _ (fun hg => by simp only [↓sxd, sxu, ↓exq, ↓zW, ↓zD, ↓zC, Nat.reduceBEq, Nat.reduceAdd, Nat.reduceLT, Nat.reduceEqDiff, sxe, tysH23_48, u1, u2, p1, p2, hg]; (all_goals try exact zF)) ?_
                        simp only [↓sxd, sxu, ↓zE, ↓exq, ↓zH, Nat.reduceBEq, Nat.reduceLT]
                      (all_goals try exact zF)) ?_
                  refine Tr.cond rfl (fun h165 => ?_) (fun h165 => ?_)
                  · have hP : (⟨(rr : Nat), (cc : Nat)⟩ : HC) ≠ ⟨(r : Nat), (c : Nat)⟩ ∧ bitI i rr = 1 ∧ bitI k cc = 0 := by
                      simp only [Bool.and_eq_true, Bool.not_eq_true', beq_iff_eq] at h165
                      refine ⟨fun e => ?_, h165.1.2, h165.2⟩
                      injection e with e1 e2
                      rw [e1, e2] at h165
                      simp at h165
                    rw [if_pos hP] at hcapS
                    have w5 : IntKind.i64.wrap (sumR RV i 3 - sumR CV k 4 - capTo t l ⟨(r : Nat), (c : Nat)⟩ i k z - t.cap) = sumR RV i 3 - sumR CV k 4 - capTo t l ⟨(r : Nat), (c : Nat)⟩ i k (z + 1) := by rw [hcapS, ← Int.sub_sub, wr (by omega) (by omega)]
                    refine Tr.reg1 [1, 4, 6, 9, 10, 13, 14, 15, 18] (by
                        simp only [↓sxd, sxu, ↓zE, ↓exq, ↓zD, ↓zC, Nat.reduceBEq, Nat.reduceAdd, Nat.reduceLT, Nat.reduceEqDiff, tysH23_48, w5]
                        (all_goals try exact zF)) ?_
                    have w9 := add1 (show z < 4611686018427387904 by omega)
                    refine Tr.reg1 [1, 4, 6, 9, 10, 13, 14, 15, 18] (by
                        simp only [↓sxd, sxu, ↓zE, ↓exq, Nat.reduceBEq, Nat.reduceLT, w9]
                        (all_goals try exact zF)) ?_
                    refine ⟨_, _, ?_, ?_, ⟨z + 1, hzlt, rfl, rfl⟩⟩
                    · omega
                    · rw [hcapS]
                      exact Imp.go (rg 4 1) [(3, _), (2, _), (1, _), (0, _)] rfl rfl (.cons _ (.refl _)) (fun _ h => absurd h (Nat.not_lt_zero _)) (fun id h => by rw [rg_ge h]; show 5 ≤ id + 1; omega) zT zT (fun h => h)
                  · have hP : ¬ ((⟨(rr : Nat), (cc : Nat)⟩ : HC) ≠ ⟨(r : Nat), (c : Nat)⟩ ∧ bitI i rr = 1 ∧ bitI k cc = 0) := fun hP => by
                      have hT : (!([(rr : Int), (cc : Int)] == [(r : Int), (c : Int)])) = true := by
                        cases hb : ([(rr : Int), (cc : Int)] == [(r : Int), (c : Int)]) with
                        | false => rfl
                        | true => exact absurd ((cell_beq ⟨(rr : Nat), (cc : Nat)⟩ ⟨(r : Nat), (c : Nat)⟩).1 hb) hP.1
                      rw [hT, hP.2.1, hP.2.2] at h165
                      cases h165
                    rw [if_neg hP, Int.add_zero] at hcapS
                    refine Tr.skip ?_
                    have w9 := add1 (show z < 4611686018427387904 by omega)
                    refine Tr.reg1 [1, 4, 6, 9, 10, 13, 14, 15, 18] (by
                        simp only [↓sxd, sxu, ↓zE, ↓exq, Nat.reduceBEq, Nat.reduceLT, w9]
                        (all_goals try exact zF)) ?_
                    refine ⟨_, _, ?_, ?_, ⟨z + 1, hzlt, rfl, rfl⟩⟩
                    · omega
                    · rw [hcapS]
                      exact Imp.go (rg 4 1) [(3, _), (2, _), (1, _), (0, _)] rfl rfl (.cons _ (.refl _)) (fun _ h => absurd h (Nat.not_lt_zero _)) (fun id h => by rw [rg_ge h]; show 5 ≤ id + 1; omega) zT zT (fun h => h)
                · have hzge : z = l.length := by simp at h138; omega
                  subst hzge
                  refine Tr.exit ?_
                  refine Tr.reg [1, 4, 6, 9, 10, 13, 14, 171] (by
                      simp only [↓sxd, sxu, ↓zE, ↓exq, Nat.reduceBEq, Nat.reduceLT]
                      (all_goals try exact zF)) ?_
                  refine Tr.cond rfl (fun h171 => ?_) (fun h171 => ?_)
                  · have hgt : ¬ (sumR RV i 3 - sumR CV k 4 - capTo t l ⟨(r : Nat), (c : Nat)⟩ i k l.length ≤ 0) := by have := of_decide_eq_true h171; omega
                    have hcs2 : canS t l ⟨(r : Nat), (c : Nat)⟩ v = false := by
                      rw [hcs]
                      refine all_range_at hilt ?_
                      exact all_range_at hklt (decide_eq_false hgt)
                    refine Tr.reg [8] (by
                        simp only [↓sxd, sxu, ↓zE, ↓exq, Nat.reduceLT]
                        (all_goals try exact zF)) ?_
                    refine Tr.ret ?_
                    exact ⟨.inr rfl, by rw [hcs2]; rfl⟩
                  · have hle : sumR RV i 3 - sumR CV k 4 - capTo t l ⟨(r : Nat), (c : Nat)⟩ i k l.length ≤ 0 := by have := of_decide_eq_false h171; omega
                    refine Tr.skip ?_
                    have w1 := add1 (show k < 4611686018427387904 by omega)
                    refine Tr.reg1 [1, 4, 6, 9, 10, 13, 14] (by
                        simp only [↓sxd, sxu, ↓zE, ↓exq, Nat.reduceBEq, Nat.reduceLT, w1]
                        (all_goals try exact zF)) ?_
                    refine ⟨_, _, by omega, Imp.keepAll, ⟨k + 1, ⟨hklt, fun j hj => ?_⟩, rfl, rfl⟩⟩
                    by_cases e : j < k
                    · exact hall2 j e
                    · rw [show j = k by omega]; exact hle
          · have hkge : k = 16 := by have := of_decide_eq_false h102; omega
            refine Tr.exit ?_
            have w1 := add1 (show i < 4611686018427387904 by omega)
            refine Tr.reg1 [1, 4, 6, 9, 10, 13] (by
                simp only [↓sxd, sxu, ↓zE, ↓exq, Nat.reduceBEq, Nat.reduceLT, w1]
                (all_goals try exact zF)) ?_
            refine ⟨_, _, by omega, Imp.keepAll, ⟨i + 1, ⟨hilt, fun j hj => ?_⟩, rfl, rfl⟩⟩
            by_cases e : j < i
            · exact hall j e
            · rw [show j = i by omega, List.all_eq_true]
              intro y hy
              exact decide_eq_true (hall2 y (by have := List.mem_range.1 hy; omega))
        · have hige : i = 8 := by have := of_decide_eq_false h98; omega
          refine Tr.exit ?_
          refine Tr.reg [8] (by
              simp only [↓sxd, sxu, ↓zE, ↓exq, Nat.reduceLT]
              (all_goals try exact zF)) ?_
          refine Tr.ret ?_
          have hcs2 : canS t l ⟨(r : Nat), (c : Nat)⟩ v = true := by
            rw [hcs, List.all_eq_true]
            intro y hy
            exact hall y (by have := List.mem_range.1 hy; omega)
          exact ⟨.inr rfl, by rw [hcs2]; rfl⟩
end Go.Proofs.YtijechcadlklhaaGreat
