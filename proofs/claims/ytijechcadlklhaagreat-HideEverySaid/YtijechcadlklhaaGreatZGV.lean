/- Lemmas, part ZGV. Conditions: none. -/
import Derived.Test.YtijechcadlklhaaGreatZGU
set_option linter.unusedVariables false
namespace Go.Proofs.YtijechcadlklhaaGreat
open Go.Sy
set_option maxRecDepth 8000
theorem filter_split {α : Type} (p : α → Bool) : ∀ l : List α, (l.filter p).length + (l.filter fun x => !p x).length = l.length
  | [] => rfl
  | x :: l => by
    have ih := filter_split p l
    cases h : p x with
    | true => rw [List.filter_cons_of_pos h, List.filter_cons_of_neg (by simp [h])]; simp; omega
    | false => rw [List.filter_cons_of_neg (by simp [h]), List.filter_cons_of_pos (by simp [h])]; simp; omega
theorem free_cells_len {w : HW} {n m : Nat} (hw : w.Ok n m) : w.free.length + w.cells.length ≤ 12 := by
  have h := filter_split (fun c : HC => w.h c.row.toNat c.col.toNat) (gridC n m)
  rw [grid_len] at h
  unfold HW.free HW.cells
  rw [hw.dims.1, hw.dims.2]
  have : n * m ≤ 3 * 4 := Nat.mul_le_mul hw.n3 hw.m4
  omega
theorem shl_i {n : Nat} (h : n < 62) : IntKind.i64.wrap ((1 : Int) * 2 ^ min n IntKind.i64.bits) = ((2 ^ n : Nat) : Int) := by
  have hb : IntKind.i64.bits = 64 := rfl
  have e : min n IntKind.i64.bits = n := Nat.min_eq_left (by rw [hb]; omega)
  rw [e, Int.one_mul]
  have e2 : ((2 : Int) ^ n) = ((2 ^ n : Nat) : Int) := by simp
  have h62 : 2 ^ n < 2 ^ 62 := Nat.pow_lt_pow_right (a := 2) (by omega) h
  rw [e2]
  generalize 2 ^ n = x at h62
  rw [wr (by omega) (by omega)]
theorem has_i {s n : Nat} (hs : s < 18446744073709551616) :
    (IntKind.i64.wrap ((BitVec.ofInt IntKind.i64.bits ((s : Int).fdiv (2 ^ min n IntKind.i64.bits)) &&& BitVec.ofInt IntKind.i64.bits 1).toNat : Int) == 1) = s.testBit n := by
  have h1 : s >>> n < 18446744073709551616 := Nat.lt_of_le_of_lt (Nat.shiftRight_le _ _) hs
  rw [show (s : Int).fdiv (2 ^ min n IntKind.i64.bits) = ((s >>> n : Nat) : Int) from shr_u hs]
  rw [BitVec.toNat_and, show (BitVec.ofInt IntKind.i64.bits ((s >>> n : Nat) : Int)).toNat = s >>> n from bv h1, show (BitVec.ofInt IntKind.i64.bits 1).toNat = 1 from rfl, Nat.testBit]
  rw [Nat.and_comm 1]
  have h2 : s >>> n &&& 1 = s >>> n % 2 := Nat.and_one_is_mod _
  rw [h2]
  have : s >>> n % 2 = 0 ∨ s >>> n % 2 = 1 := by omega
  rcases this with h | h <;> rw [h] <;> rfl
theorem wob_fz {w : HW} {hp hp' : HpT} {r : Nat → Nat} {id : Nat} (h : hp.lookup id = some (wob w.rows w.cap w.hid)) (hn : ∀ p ∈ hp', p.1 ≠ id) : TnS r hp hp' (.ptr id 0 0) (.dp w.d) :=
  TnS.frzp h hn (by decide) (by simp) (by
    show F2 _ (SL w.rows :: I w.cap :: w.hid.map B) (_ :: _ :: w.hid.map cB)
    exact .cons (TnS.d _) (.cons (TnS.d _) (F2.map fun _ _ => TnS.d _)))
theorem free_cell {t : HT} {l : List HC} (h : t.pub l = 0) {c : HC} (hc : c ∈ (t.w l).free) : (0 ≤ c.row ∧ c.row < 3 ∧ 0 ≤ c.col ∧ c.col < 4) ∧ (t.w l).hid.getD c.key false = false := by
  obtain ⟨h3, h4, _, _⟩ := pub_dims h
  obtain ⟨hg, hn⟩ := (mem_free h).1 hc
  have hm := mem_gridC.1 hg
  refine ⟨by omega, ?_⟩
  have := fun e => hn ((w_h_mem h hg).1 e)
  unfold HW.h at this
  unfold HC.key
  cases e : (t.w l).hid.getD (4 * c.row.toNat + c.col.toNat) false with
  | false => rfl
  | true => exact absurd (by rw [e]; simp; omega) this
theorem markS_ok {t : HT} {l s : List HC} (h : t.pub l = 0) (hs : s.Sublist (t.w l).free) : ((t.w l).mark s true).Ok t.n t.m := by
  rw [mark_with h hs]
  exact HT.w_ok (HT.pub_of (pub_dims h).2.2.2 (with_ok h hs).1)
theorem sub_le (F : List HC) (k : Nat) : ∀ i, (subTo F k i).length ≤ i
  | 0 => Nat.le_refl _
  | i + 1 => by
    have := sub_le F k i
    rw [subTo, List.length_append]
    split <;> simp <;> omega
theorem inner_sub {F : List HC} {g : List HC → Bool} {W : List HC → List HC} {many : Nat} : ∀ k, (innerB F g W many k).1.Sublist F
  | 0 => List.nil_sublist _
  | k + 1 => by
    have ih := inner_sub (F := F) (g := g) (W := W) (many := many) k
    rw [innerB]; unfold stepB
    split
    · exact ih
    · split
      · exact subB_sublist F k
      · exact ih
theorem with_len (w : HW) (l : List HC) : (w.with l).length = l.length + w.cells.length := by rw [HW.with, isort8_len, List.length_append]
abbrev tysH20_53 := And.intro ty.sz0 <| And.intro ty.agg0 <| And.intro ty.elem0 <| And.intro ty.sz3 <| And.intro ty.agg3 <| And.intro ty.elem3 <| And.intro ty.zero3 <| And.intro ty.und3 <| And.intro ty.sz4 <| And.intro ty.agg4 <| And.intro ty.elem4 <| And.intro ty.zero4 <| And.intro ty.und4 <| And.intro ty.sz34 <| And.intro ty.agg34 <| And.intro ty.elem34 <| And.intro ty.by34 <| And.intro ty.ez34 <| And.intro ty.zero34 <| And.intro ty.und34 <| And.intro ty.sz36 <| And.intro ty.agg36 <| And.intro ty.elem36 <| And.intro ty.by36 <| And.intro ty.ez36 <| And.intro ty.zero36 <| And.intro ty.und36 <| And.intro ty.sz79 <| And.intro ty.agg79 <| And.intro ty.fld79_0 <| And.intro ty.fld79_1 <| And.intro ty.elem79 <| And.intro ty.zero79 <| And.intro ty.pl79 <| And.intro ty.sz83 <| And.intro ty.agg83 <| And.intro ty.elem83 <| And.intro ty.zero83 <| And.intro ty.sz89 <| And.intro ty.agg89 <| And.intro ty.elem89 <| ty.zero89
set_option maxHeartbeats 2000000 in
theorem best_h (t : HT) (l : List HC) (q : List HQ) (hpub : t.pub l = 0) (hq : q.all t.okQ = true) (hq8 : q.length ≤ 8) : CallH Tryz.prog G0 53 [.ptr 0 0 0, SC (t.w l).free, SQ q] [(0, wob (t.w l).rows (t.w l).cap (t.w l).hid)] 1 (Det (SC ((t.w l).best (t.w l).free q)) [(0, wob (t.w l).rows (t.w l).cap (t.w l).hid)] 1) := by
  have hw := HT.w_ok hpub
  have hlen := free_cells_len hw
  have hcell := fun c => free_cell hpub (c := c)
  have hSok := fun s => markS_ok hpub (s := s)
  have hht : t.rows = (t.w l).rows := rfl
  obtain ⟨w, hwe⟩ : ∃ w, w = t.w l := ⟨_, rfl⟩
  rw [← hwe] at hw hlen hcell hSok hht ⊢
  obtain ⟨F, hFe⟩ : ∃ F, F = w.free := ⟨_, rfl⟩
  rw [← hFe] at hlen hcell hSok ⊢
  unfold HW.best
  obtain ⟨g, hge⟩ : ∃ g, g = fun s => (w.mark s true).good q := ⟨_, rfl⟩
  obtain ⟨R, hR⟩ : ∃ R, R = bestG F g w.with (F.length + 1) 0 := ⟨_, rfl⟩
  rw [← hge, ← hR]
  have hF12 : F.length ≤ 12 := by omega
  have hp2 : 2 ^ F.length ≤ 2 ^ 12 := Nat.pow_le_pow_right (by omega) hF12
  have hfx1 : TnFix 1 [(0, wob w.rows w.cap w.hid)] := TnFix.cons (show 0 < 1 by decide) (fun r h1 h2 _ => wob_tn r h1 h2) (TnFix.nil _)
  have hbk : ∀ s : List HC, s.Sublist F → (w.mark s true).mark s false = w := fun s hs => mark_back hw.hl fun c hc => (hcell c (hs.subset hc)).2
  refine CallH.body 75 [.tmp 6] Tryz.func53 (by kernel_rfl) rfl rfl rfl ?_
  refine Tr.reg [0, 1, 2] (by
      simp only [↓sxd, sxu, ↓zE, ↓exq, Nat.reduceBEq, Nat.reduceAdd, Nat.reduceLT]
      (all_goals try exact zF)) ?_
  refine Tr.scope ?_
  refine Tr.reg [0, 1, 2, 7] (by
      simp only [↓sxd, sxu, ↓zE, ↓exq, Nat.reduceBEq, Nat.reduceLT]
      (all_goals try exact zF)) ?_
  refine Tr.reg [0, 1, 2, 7, 8] (by
      simp only [↓sxd, sxu, ↓zE, ↓exq, Nat.reduceBEq, Nat.reduceLT]
      (all_goals try exact zF)) ?_
  refine Tr.seq ?_
  refine Tr.label ?_
  refine Tr.seq ?_
  have w1 : IntKind.i64.wrap ((F.length : Int) + 1) = ((F.length + 1 : Nat) : Int) := by rw [wr (by omega) (by omega)]; rfl
  refine Tr.reg [0, 1, 2, 7, 8, 16, 17] (by
      simp only [↓sxd, sxu, ↓zE, ↓exq, ↓zB, ↓zL, Nat.reduceBEq, Nat.reduceLT, sxe, tysH20_53, w1]
      (all_goals try exact zF)) ?_
  refine Tr.imp (st' := ⟨[(0, .ptr 0 0 0), (1, SC F), (2, SQ q), (7, SC []), (8, B false), (16, I ((F.length + 1 : Nat) : Int)), (17, I 0)], [(0, wob w.rows w.cap w.hid)], 1, 75, [], 1⟩) (Imp.go (fun i => i) _ rfl rfl (.refl _) (fun _ _ => rfl) (fun _ h => h) (.cons rfl (TnS.ptr rfl) (.cons rfl (TnS.d _) (.cons rfl (TnS.d _) (.cons rfl (TnS.dxd _) (.cons rfl (TnS.d _) (.cons rfl (TnS.d _) (.cons rfl (TnS.d _) trivial))))))) (.cons ⟨rfl, wob_tn _ _ _⟩ .nil) (fun h => h)) (Tr.block (Tr.loopI (fun mm ss => ∃ (many : Nat), (many ≤ F.length + 1 ∧ bestG F g w.with (F.length + 1 - many) many = R) ∧ F.length + 1 - many = mm ∧ ss = ⟨[(0, .ptr 0 0 0), (1, SC F), (2, SQ q), (7, SC []), (8, B false), (16, I ((F.length + 1 : Nat) : Int)), (17, I many)], [(0, wob w.rows w.cap w.hid)], 1, 75, [], 1⟩) _ ⟨0, ?_, rfl, rfl⟩ ?_))
  · exact ⟨Nat.zero_le _, hR.symm⟩
  rintro mm ss ⟨many, hI, rfl, rfl⟩
  obtain ⟨hmany, hbest⟩ := hI
  refine Tr.reg [0, 1, 2, 7, 8, 16, 17, 18] (by
      simp only [↓sxd, sxu, ↓zE, ↓exq, Nat.reduceBEq, Nat.reduceLT, sxe]
      (all_goals try exact zF)) ?_
  refine Tr.seq ?_
  refine Tr.cond rfl (fun h18 => ?_) (fun h18 => ?_)
  · have hlt : many < F.length + 1 := by simpa using h18
    obtain ⟨rr, hrr⟩ : ∃ rr, F.length + 1 - many = rr + 1 := ⟨F.length - many, by omega⟩
    rw [hrr, bestG] at hbest
    refine Tr.skip ?_
    refine Tr.seq ?_
    refine Tr.block ?_
    refine Tr.reg [0, 1, 2, 7, 8, 9, 16, 17] (by
        simp only [↓sxd, sxu, ↓zE, ↓exq, Nat.reduceBEq, Nat.reduceLT]
        (all_goals try exact zF)) ?_
    refine Tr.seq ?_
    refine Tr.reg [0, 1, 2, 7, 8, 9, 16, 17, 22, 23] (by
        simp only [↓sxd, sxu, ↓zE, ↓exq, ↓zB, ↓zL, Nat.reduceBEq, Nat.reduceLT, sxe, tysH20_53, shl_i (show F.length < 62 by omega)]
        (all_goals try exact zF)) ?_
    refine Tr.imp (st' := ⟨[(0, .ptr 0 0 0), (1, SC F), (2, SQ q), (7, SC (innerB F g w.with many 0).1), (8, B (innerB F g w.with many 0).2), (9, I many), (16, I ((F.length + 1 : Nat) : Int)), (17, I many), (22, I ((2 ^ F.length : Nat) : Int)), (23, I 0)], [(0, wob w.rows w.cap w.hid)], 1, 75, [], 1⟩) (Imp.keepAll) (Tr.block (Tr.loopI (fun mm ss => ∃ (k : Nat), (k ≤ 2 ^ F.length) ∧ 2 ^ F.length - k = mm ∧ ss = ⟨[(0, .ptr 0 0 0), (1, SC F), (2, SQ q), (7, SC (innerB F g w.with many k).1), (8, B (innerB F g w.with many k).2), (9, I many), (16, I ((F.length + 1 : Nat) : Int)), (17, I many), (22, I ((2 ^ F.length : Nat) : Int)), (23, I k)], [(0, wob w.rows w.cap w.hid)], 1, 75, [], 1⟩) _ ⟨0, ?_, rfl, rfl⟩ ?_))
    · exact Nat.zero_le _
    rintro mm ss ⟨k, hI, rfl, rfl⟩
    obtain ⟨st, hst⟩ : ∃ st, st = innerB F g w.with many k := ⟨_, rfl⟩
    rw [← hst]
    have hst1 : st.1.Sublist F := by rw [hst]; exact inner_sub k
    refine Tr.reg [0, 1, 2, 7, 8, 9, 16, 17, 22, 23, 24] (by
        simp only [↓sxd, sxu, ↓zE, ↓exq, Nat.reduceBEq, Nat.reduceLT, sxe]
        (all_goals try exact zF)) ?_
    refine Tr.seq ?_
    refine Tr.cond rfl (fun h24 => ?_) (fun h24 => ?_)
    · have hkl : k < 2 ^ F.length := by have := of_decide_eq_true h24; omega
      refine Tr.skip ?_
      refine Tr.seq ?_
      refine Tr.block ?_
      refine Tr.reg [0, 1, 2, 7, 8, 9, 10, 16, 17, 22, 23] (by
          simp only [↓sxd, sxu, ↓zE, ↓exq, Nat.reduceBEq, Nat.reduceLT]
          (all_goals try exact zF)) ?_
      refine Tr.reg [0, 1, 2, 7, 8, 9, 10, 11, 16, 17, 22, 23] (by
          simp only [↓sxd, sxu, ↓zE, ↓exq, Nat.reduceBEq, Nat.reduceLT]
          (all_goals try exact zF)) ?_
      refine Tr.seq ?_
      refine Tr.reg [0, 1, 2, 7, 8, 9, 10, 11, 16, 17, 22, 23, 26, 27, 28] (by
          simp only [↓sxd, sxu, ↓zE, ↓exq, ↓zB, ↓zL, Nat.reduceBEq, Nat.reduceLT, sxe, tysH20_53]
          (all_goals try exact zF)) ?_
      refine Tr.imp (st' := ⟨[(0, .ptr 0 0 0), (1, SC F), (2, SQ q), (7, SC st.1), (8, B st.2), (9, I many), (10, I k), (11, .slc 1 2 0 (subTo F k 0).length (subTo F k 0).length), (16, I ((F.length + 1 : Nat) : Int)), (17, I many), (22, I ((2 ^ F.length : Nat) : Int)), (23, I k), (26, SC F), (27, I F.length), (28, I 0)], [(1, .arr 2 (vC (subTo F k 0))), (0, wob w.rows w.cap w.hid)], 2, 75, [], 1⟩) (Imp.goV 2 rfl rfl rfl rfl (by repeat' (first | exact trivial | exact F2.nil | refine F2.cons ?_ ?_ | refine TmV.cons rfl VnS.nil ?_ | refine TmV.cons rfl VnS.same ?_ | refine ⟨rfl, ?_⟩ | exact VnO.same _ | refine VnO.arr ?_ | exact VnS.nil | exact VnS.same | exact F2.refl fun _ _ => VnS.same)) (by repeat' (first | exact trivial | exact F2.nil | refine F2.cons ?_ ?_ | refine TmV.cons rfl VnS.nil ?_ | refine TmV.cons rfl VnS.same ?_ | refine ⟨rfl, ?_⟩ | exact VnO.same _ | refine VnO.arr ?_ | exact VnS.nil | exact VnS.same | exact F2.refl fun _ _ => VnS.same))) (Tr.block (Tr.loopI (fun mm ss => ∃ (i : Nat), (i ≤ F.length) ∧ F.length - i = mm ∧ ss = ⟨[(0, .ptr 0 0 0), (1, SC F), (2, SQ q), (7, SC st.1), (8, B st.2), (9, I many), (10, I k), (11, .slc 1 2 0 (subTo F k i).length (subTo F k i).length), (16, I ((F.length + 1 : Nat) : Int)), (17, I many), (22, I ((2 ^ F.length : Nat) : Int)), (23, I k), (26, SC F), (27, I F.length), (28, I i)], [(1, .arr 2 (vC (subTo F k i))), (0, wob w.rows w.cap w.hid)], 2, 75, [], 1⟩) _ ⟨0, ?_, rfl, rfl⟩ ?_))
      · exact Nat.zero_le _
      rintro mm ss ⟨i, hI, rfl, rfl⟩
      refine Tr.reg [0, 1, 2, 7, 8, 9, 10, 11, 16, 17, 22, 23, 26, 27, 28, 29] (by
          simp only [↓sxd, sxu, ↓zE, ↓exq, Nat.reduceBEq, Nat.reduceLT, sxe]
          (all_goals try exact zF)) ?_
      refine Tr.seq ?_
      refine Tr.cond rfl (fun h29 => ?_) (fun h29 => ?_)
      · have hil : i < F.length := by simpa using h29
        have hsl : (subTo F k i).length ≤ i := sub_le F k i
        refine Tr.skip ?_
        refine Tr.seq ?_
        refine Tr.block ?_
        refine Tr.reg [0, 1, 2, 7, 8, 9, 10, 11, 12, 13, 16, 17, 22, 23, 26, 27, 28] (by
            simp only [↓sxd, sxu, ↓zE, ↓exq, ↓zD, ↓zN, Nat.reduceBEq, Nat.reduceAdd, Nat.reduceLT, Nat.reduceEqDiff, sxe, tysH20_53, hil]
            (all_goals try exact zF)) ?_
        refine Tr.reg [0, 1, 2, 7, 8, 9, 10, 11, 13, 16, 17, 22, 23, 26, 27, 28, 37] (by
            simp only [↓sxd, sxu, ↓zE, ↓exq, Nat.reduceBEq, Nat.reduceLT, sxe, has_i (show k < 18446744073709551616 by omega)]
            (all_goals try exact zF)) ?_
        refine Tr.cond rfl (fun h37 => ?_) (fun h37 => ?_)
        · have hb : k.testBit i = true := h37
          have hsu : subTo F k (i + 1) = subTo F k i ++ [F.getD i default] := by rw [subTo, if_pos hb]
          have hk2 : ((subTo F k i).length + 1 ≤ 1073741824) = True := eq_true (by omega)
          refine Tr.reg1 [0, 1, 2, 7, 8, 9, 10, 11, 16, 17, 22, 23, 26, 27, 28] (by
              simp only [↓sxd, sxu, ↓zE, ↓exq, ↓zB, ↓zD, ↓zG, ↓zQ, Nat.reduceBEq, Nat.reduceAdd, Nat.reduceLT, Nat.reduceLeDiff, Nat.reduceEqDiff, tysH20_53, vC_len, hk2]
              (all_goals try exact zF)) ?_
          have w1 : IntKind.i64.wrap ((i : Int) + 1) = ((i + 1 : Nat) : Int) := by rw [wr (by omega) (by omega)]; rfl
          refine Tr.reg1 [0, 1, 2, 7, 8, 9, 10, 11, 16, 17, 22, 23, 26, 27, 28] (by
              simp only [↓sxd, sxu, ↓zE, ↓exq, Nat.reduceBEq, Nat.reduceLT, w1]
              (all_goals try exact zF)) ?_
          refine ⟨_, _, ?_, ?_, ⟨i + 1, hil, rfl, rfl⟩⟩
          · omega
          · rw [hsu]
            first
            | exact Imp.go (rg 2 1) [(1, _), (0, _)] rfl rfl (.cons _ (.refl _)) (fun id h => rg_lt (by have : id < 1 := h; omega)) (fun id h => by rw [rg_ge h]; show 3 ≤ id + 1; omega) zT (.cons ⟨rfl, TnO.arr (vC_tn _)⟩ (.cons ⟨rfl, wob_tn _ _ _⟩ .nil)) (fun h => h)
            | (rw [List.length_append, vC_snoc']
               exact Imp.go (fun j => if j = 1 then 3 else if j < 1 then j else j + 2) [(3, _), (0, _)] rfl rfl (.cons_cons _ (.cons _ (.refl _))) (fun id h => by have : id < 1 := h; show (if id = 1 then 3 else if id < 1 then id else id + 2) = id; rw [if_neg (by omega), if_pos this]) (fun id h => by show 4 ≤ (if id = 1 then 3 else if id < 1 then id else id + 2); rw [if_neg (by omega), if_neg (by omega)]; omega) zT (.cons ⟨rfl, TnO.arr (F2.append (vC_tn _) (.cons (.cons (TnS.d _) (.cons (TnS.d _) .nil)) .nil))⟩ (.cons ⟨rfl, wob_tn _ _ _⟩ .nil)) (fun h => h))
        · have hb : k.testBit i = false := h37
          have hsu : subTo F k (i + 1) = subTo F k i := by rw [subTo, if_neg (by simp [hb]), List.append_nil]
          refine Tr.skip ?_
          have w1 : IntKind.i64.wrap ((i : Int) + 1) = ((i + 1 : Nat) : Int) := by rw [wr (by omega) (by omega)]; rfl
          refine Tr.reg1 [0, 1, 2, 7, 8, 9, 10, 11, 16, 17, 22, 23, 26, 27, 28] (by
              simp only [↓sxd, sxu, ↓zE, ↓exq, Nat.reduceBEq, Nat.reduceLT, w1]
              (all_goals try exact zF)) ?_
          refine ⟨_, _, ?_, ?_, ⟨i + 1, hil, rfl, rfl⟩⟩
          · omega
          · rw [hsu]
            first
            | exact Imp.go (rg 2 1) [(1, _), (0, _)] rfl rfl (.cons _ (.refl _)) (fun id h => rg_lt (by have : id < 1 := h; omega)) (fun id h => by rw [rg_ge h]; show 3 ≤ id + 1; omega) zT (.cons ⟨rfl, TnO.arr (vC_tn _)⟩ (.cons ⟨rfl, wob_tn _ _ _⟩ .nil)) (fun h => h)
            | (rw [List.length_append, vC_snoc']
               exact Imp.go (fun j => if j = 1 then 3 else if j < 1 then j else j + 2) [(3, _), (0, _)] rfl rfl (.cons_cons _ (.cons _ (.refl _))) (fun id h => by have : id < 1 := h; show (if id = 1 then 3 else if id < 1 then id else id + 2) = id; rw [if_neg (by omega), if_pos this]) (fun id h => by show 4 ≤ (if id = 1 then 3 else if id < 1 then id else id + 2); rw [if_neg (by omega), if_neg (by omega)]; omega) zT (.cons ⟨rfl, TnO.arr (F2.append (vC_tn _) (.cons (.cons (TnS.d _) (.cons (TnS.d _) .nil)) .nil))⟩ (.cons ⟨rfl, wob_tn _ _ _⟩ .nil)) (fun h => h))
      · have hil : i = F.length := by simp at h29; omega
        subst hil
        have hSe : subTo F k F.length = subB F k := rfl
        rw [hSe]
        have hSs := subB_sublist F k
        obtain ⟨S, hS⟩ : ∃ S, S = subB F k := ⟨_, rfl⟩
        rw [← hS] at hSs ⊢
        refine Tr.exit ?_
        refine Tr.seq ?_
        refine Tr.imp (st' := ⟨[(0, .ptr 0 0 0), (1, SC F), (2, SQ q), (7, SC st.1), (8, B st.2), (9, I many), (11, SC S), (16, I ((F.length + 1 : Nat) : Int)), (17, I many), (22, I ((2 ^ F.length : Nat) : Int)), (23, I k)], [(0, wob w.rows w.cap w.hid)], 1, 75, [], 1⟩) (Imp.go (rg 1 1) [(0, _)] rfl rfl (.cons _ (.refl _)) (fun id h => rg_lt h) (fun id h => by rw [rg_ge h]; show 2 ≤ id + 1; omega) (.cons rfl (TnS.ptr rfl) (.cons rfl (TnS.d _) (.cons rfl (TnS.d _) (.cons rfl (TnS.d _) (.cons rfl (TnS.d _) (.cons rfl (TnS.d _) (.cons rfl (TnS.frz0 (es := vC S) rfl (by simp) (by decide) (vC_len _) (vC_fz _)) (.cons rfl (TnS.d _) (.cons rfl (TnS.d _) (.cons rfl (TnS.d _) (.cons rfl (TnS.d _) trivial))))))))))) (.cons ⟨rfl, wob_tn _ _ _⟩ .nil) (fun h => h)) ?_
        refine Tr.seq (Tr.mono (Q := fun x s => x = .normal ∧ Imp s ⟨[(0, .ptr 0 0 0), (1, SC F), (2, SQ q), (7, SC st.1), (8, B st.2), (9, I many), (11, SC S), (16, I ((F.length + 1 : Nat) : Int)), (17, I many), (22, I ((2 ^ F.length : Nat) : Int)), (23, I k), (59, B (!decide (S.length = many) || (st.2 && decide (cmpLS (w.with S) (w.with st.1) > 0))))], [(0, wob w.rows w.cap w.hid)], 1, 75, [], 1⟩) ?_ ?_)
        · by_cases hm : S.length = many
          · have e1 : (((S.length : Nat) : Int) != (many : Int)) = false := by simp [hm]
            cases h2 : st.2 with
            | false =>
              refine Tr.region ?_
              simp only [↓sxd, sxu, ↓zE, ↓exq, ↓zB, ↓zL, Nat.reduceBEq, Nat.reduceLT, sxe, tysH20_53, e1]
              iterate 2
                (repeat ((with_reducible refine And.intro ?_ ?_); (focus (exact zS))))
                refine GdO.now rfl ?_
                simp only [↓sxd, sxu, ↓zE, ↓exq, Nat.reduceBEq, Nat.reduceLT]
              iterate 8
                (repeat ((with_reducible refine And.intro ?_ ?_); (focus (exact zS))))
                refine GdO.no rfl ?_
                simp only [↓sxd, sxu, ↓zE, Nat.reduceBEq, Nat.reduceLT]
              (repeat ((with_reducible refine And.intro ?_ ?_); (focus (exact zS))))
              refine GdO.now rfl ?_
              simp only [↓sxd, sxu, ↓zE, ↓exq, ↓zI, Nat.reduceBEq, Nat.reduceLT]
              rw [show (!decide (S.length = many) || (false && decide (cmpLS (w.with S) (w.with st.1) > 0))) = false by simp [hm]]
              exact Imp.keep [0, 1, 2, 7, 8, 9, 11, 16, 17, 22, 23, 59]
            | true =>
              refine Tr.region ?_
              simp only [↓sxd, sxu, ↓zE, ↓exq, ↓zB, ↓zL, Nat.reduceBEq, Nat.reduceLT, sxe, tysH20_53, e1]
              iterate 4
                (repeat ((with_reducible refine And.intro ?_ ?_); (focus (exact zS))))
                refine GdO.now rfl ?_
                simp only [↓sxd, sxu, ↓zE, ↓exq, Nat.reduceBEq, Nat.reduceLT]
              (repeat ((with_reducible refine And.intro ?_ ?_); (focus (exact zS))))
              refine GdO.now rfl ?_
              simp only [↓sxd, sxu, ↓zE, ↓exq, ↓zB, Nat.reduceBEq, Nat.reduceLT]
              refine CallH.mono (withO_h hw S (by rw [List.length_append]; have := hSs.length_le; omega) _ 1 0 hfx1 rfl) ?_
              rintro r' hp' nx' ⟨rfl, rfl, rfl⟩
              try simp only [sxu, Nat.reduceAdd]
              iterate 2
                (repeat ((with_reducible refine And.intro ?_ ?_); (focus (exact zS))))
                refine GdO.now rfl ?_
                simp only [↓sxd, sxu, ↓zE, ↓exq, Nat.reduceBEq, Nat.reduceLT]
              (repeat ((with_reducible refine And.intro ?_ ?_); (focus (exact zS))))
              refine GdO.now rfl ?_
              simp only [↓sxd, sxu, ↓zE, ↓exq, ↓zB, Nat.reduceBEq, Nat.reduceLT]
              refine CallH.mono (withO_h hw st.1 (by rw [List.length_append]; have := hst1.length_le; omega) _ 2 0 (TnFix.cons (show 1 < 2 by decide) (fun _ _ _ _ => TnO.arr (vC_tn _)) (hfx1.mono (by decide))) rfl) ?_
              rintro r' hp' nx' ⟨rfl, rfl, rfl⟩
              try simp only [sxu, Nat.reduceAdd]
              (repeat ((with_reducible refine And.intro ?_ ?_); (focus (exact zS))))
              refine GdO.now rfl ?_
              simp only [↓sxd, sxu, ↓zE, ↓exq, ↓zB, Nat.reduceBEq, Nat.reduceLT]
              refine CallP.useB [] (compareL_c (w.with S) (w.with st.1) (by rw [with_len]; have := hSs.length_le; omega) (by rw [with_len]; have := hst1.length_le; omega)) (List.nil_sublist _) (.cons (TnS.frz0 (es := vC (w.with S)) rfl (by simp) (by decide) (by rw [vC_len, with_len]) (vC_fz _)) (.cons (TnS.frz0 (es := vC (w.with st.1)) rfl (by simp) (by decide) (by rw [vC_len, with_len]) (vC_fz _)) (.cons (TnS.clo .nil .nil) .nil))) (Rigid.lit _) ?_
              try simp only [↓sxd, sxu, ↓zE, ↓zC, zJ, ↓exP, ↓exq, ↓zB, ↓zI, ↓zK, ↓zL, ↓zD, ↓zN, ↓zG, ↓zQ, Nat.reduceBEq, Nat.reduceAdd, Nat.reduceLT, Nat.reduceMul, Nat.reduceSub, Nat.reduceLeDiff, Nat.reduceEqDiff, Int.reduceLE, Int.reduceLT, Int.reduceToNat, reduceIte, sxe, tysH20_53]
              iterate 2
                (repeat ((with_reducible refine And.intro ?_ ?_); (focus (exact zS))))
                refine GdO.now rfl ?_
                simp only [↓sxd, sxu, ↓zE, ↓exq, ↓zI, Nat.reduceBEq, Nat.reduceLT]
              (repeat ((with_reducible refine And.intro ?_ ?_); (focus (exact zS))))
              rw [show (!decide (S.length = many) || decide (cmpLS (w.with S) (w.with st.1) > 0)) = (false || decide (cmpLS (w.with S) (w.with st.1) > 0)) by simp [hm]]
              exact Imp.go (rg 1 2) [(0, _)] rfl rfl (.cons _ (.cons _ (.refl _))) (fun id h => rg_lt h) (fun id h => by rw [rg_ge h]; show 3 ≤ id + 2; omega) (.cons rfl (TnS.ptr rfl) (.cons rfl (TnS.d _) (.cons rfl (TnS.d _) (.cons rfl (TnS.d _) (.cons rfl (TnS.d _) (.cons rfl (TnS.d _) (.cons rfl (TnS.d _) (.cons rfl (TnS.d _) (.cons rfl (TnS.d _) (.cons rfl (TnS.d _) (.cons rfl (TnS.d _) (.cons rfl (TnS.d _) trivial)))))))))))) (.cons ⟨rfl, wob_tn _ _ _⟩ .nil) (fun h => h)
          · have e1 : (((S.length : Nat) : Int) != (many : Int)) = true := by simp; omega
            refine Tr.region ?_
            simp only [↓sxd, sxu, ↓zE, ↓exq, ↓zB, ↓zL, Nat.reduceBEq, Nat.reduceLT, sxe, tysH20_53, e1]
            iterate 2
              (repeat ((with_reducible refine And.intro ?_ ?_); (focus (exact zS))))
              refine GdO.mk (B st.2) (fun hg => by cases hg) ?_
              simp only [↓sxd, sxu, ↓zE, Nat.reduceBEq, Nat.reduceLT]
            iterate 8
              (repeat ((with_reducible refine And.intro ?_ ?_); (focus (exact zS))))
              refine GdO.no rfl ?_
              simp only [↓sxd, sxu, ↓zE, Nat.reduceBEq, Nat.reduceLT]
            (repeat ((with_reducible refine And.intro ?_ ?_); (focus (exact zS))))
            refine GdO.no rfl ?_
            simp only [↓sxd, sxu, ↓zE, ↓exq, ↓zI, Nat.reduceBEq, Nat.reduceLT]
            rw [show (!decide (S.length = many) || (st.2 && decide (cmpLS (w.with S) (w.with st.1) > 0))) = true by simp [hm]]
            exact Imp.keep [0, 1, 2, 7, 8, 9, 11, 16, 17, 22, 23, 59]
        rintro x s ⟨rfl, himp⟩
        refine Tr.imp himp ?_
        refine Tr.cond rfl (fun h59 => ?_) (fun h59 => ?_)
        · have hin : innerB F g w.with many (k + 1) = st := by rw [innerB, ← hst, stepB, ← hS, if_pos h59]
          refine Tr.exit ?_
          have w1 : IntKind.i64.wrap ((k : Int) + 1) = ((k + 1 : Nat) : Int) := by rw [wr (by omega) (by omega)]; rfl
          refine Tr.reg1 [0, 1, 2, 7, 8, 9, 16, 17, 22, 23] (by
              simp only [↓sxd, sxu, ↓zE, ↓exq, Nat.reduceBEq, Nat.reduceLT, w1]
              (all_goals try exact zF)) ?_
          refine ⟨_, _, ?_, ?_, ⟨k + 1, hkl, rfl, rfl⟩⟩
          · omega
          · rw [hin]; exact Imp.keepAll
        · have hst2 : innerB F g w.with many (k + 1) = if g S then (S, true) else st := by rw [innerB, ← hst, stepB, ← hS, if_neg (by rw [h59]; decide)]
          have hSl : S.length ≤ 12 := by have := hSs.length_le; omega
          refine Tr.skip ?_
          refine Tr.reg [0, 1, 2, 7, 8, 9, 11, 16, 17, 22, 23] (by
              simp only [↓sxd, sxu, ↓zE, ↓exq, Nat.reduceBEq, Nat.reduceLT]
              (repeat ((with_reducible refine And.intro ?_ ?_); (focus (exact zS))))
              refine CallH.mono (mark_h w.rows w.cap w.hid hw.hl S true (fun c hc => (hcell c (hSs.subset hc)).1) (by omega) _ 1 0 hfx1 rfl) ?_
              rintro r' hp' nx' ⟨rfl, rfl⟩
              try simp only [↓sxd, sxu, Nat.reduceBEq]
              (all_goals try exact zF)) ?_
          rw [show S.foldl (fun h c => h.set c.key true) w.hid = (w.mark S true).hid from rfl]
          refine Tr.seq ?_
          refine Tr.reg [0, 1, 2, 7, 8, 9, 11, 16, 17, 22, 23, 66] (by
              simp only [↓sxd, sxu, ↓zE, ↓exq, Nat.reduceBEq, Nat.reduceLT]
              (repeat ((with_reducible refine And.intro ?_ ?_); (focus (exact zS))))
              refine CallO.useB [] (allQ_c (w.mark S true).sat q (by omega) 45 [.dp (w.mark S true).d] [] zP zP (fun x hx => satisfied_c (hSok S hSs) hht (List.all_eq_true.1 hq x hx))) (List.nil_sublist _) (.cons (TnS.d _) (.cons (TnS.clo (.cons (wob_fz rfl (by simp)) .nil) .nil) .nil)) (Rigid.lit _) ?_
              try simp only [↓sxd, sxu, Nat.reduceBEq]
              (all_goals try exact zF)) ?_
          refine Tr.cond rfl (fun h66 => ?_) (fun h66 => ?_)
          · have hgS : g S = true := by rw [hge]; exact h66
            have hin : innerB F g w.with many (k + 1) = (S, true) := by rw [hst2, if_pos hgS]
            refine Tr.reg1 [0, 1, 2, 7, 8, 9, 11, 16, 17, 22, 23] (by
                simp only [↓sxd, sxu, ↓zE, ↓exq, Nat.reduceBEq, Nat.reduceLT]
                (all_goals try exact zF)) ?_
            refine Tr.reg1 [0, 1, 2, 7, 8, 9, 16, 17, 22, 23] (by
                simp only [↓sxd, sxu, ↓zE, ↓exq, Nat.reduceBEq, Nat.reduceLT]
                (repeat ((with_reducible refine And.intro ?_ ?_); (focus (exact zS))))
                refine CallH.mono (mark_h w.rows w.cap (w.mark S true).hid (by unfold HW.mark; rw [foldSet_len]; exact hw.hl) S false (fun c hc => (hcell c (hSs.subset hc)).1) (by omega) _ 1 0 (TnFix.cons (show 0 < 1 by decide) (fun r h1 h2 _ => wob_tn r h1 h2) (TnFix.nil _)) rfl) ?_
                rintro r' hp' nx' ⟨rfl, rfl⟩
                try simp only [↓sxd, sxu, Nat.reduceBEq]
                (all_goals try exact zF)) ?_
            rw [show S.foldl (fun h c => h.set c.key false) (w.mark S true).hid = w.hid from congrArg HW.hid (hbk S hSs)]
            have w1 : IntKind.i64.wrap ((k : Int) + 1) = ((k + 1 : Nat) : Int) := by rw [wr (by omega) (by omega)]; rfl
            refine Tr.reg1 [0, 1, 2, 7, 8, 9, 16, 17, 22, 23] (by
                simp only [↓sxd, sxu, ↓zE, ↓exq, Nat.reduceBEq, Nat.reduceLT, w1]
                (all_goals try exact zF)) ?_
            refine ⟨_, _, ?_, ?_, ⟨k + 1, hkl, rfl, rfl⟩⟩
            · omega
            · rw [hin]; exact Imp.keepAll
          · have hgS : g S = false := by rw [hge]; exact h66
            have hin : innerB F g w.with many (k + 1) = st := by rw [hst2, hgS]; rfl
            refine Tr.skip ?_
            refine Tr.reg1 [0, 1, 2, 7, 8, 9, 16, 17, 22, 23] (by
                simp only [↓sxd, sxu, ↓zE, ↓exq, Nat.reduceBEq, Nat.reduceLT]
                (repeat ((with_reducible refine And.intro ?_ ?_); (focus (exact zS))))
                refine CallH.mono (mark_h w.rows w.cap (w.mark S true).hid (by unfold HW.mark; rw [foldSet_len]; exact hw.hl) S false (fun c hc => (hcell c (hSs.subset hc)).1) (by omega) _ 1 0 (TnFix.cons (show 0 < 1 by decide) (fun r h1 h2 _ => wob_tn r h1 h2) (TnFix.nil _)) rfl) ?_
                rintro r' hp' nx' ⟨rfl, rfl⟩
                try simp only [↓sxd, sxu, Nat.reduceBEq]
                (all_goals try exact zF)) ?_
            rw [show S.foldl (fun h c => h.set c.key false) (w.mark S true).hid = w.hid from congrArg HW.hid (hbk S hSs)]
            have w1 : IntKind.i64.wrap ((k : Int) + 1) = ((k + 1 : Nat) : Int) := by rw [wr (by omega) (by omega)]; rfl
            refine Tr.reg1 [0, 1, 2, 7, 8, 9, 16, 17, 22, 23] (by
                simp only [↓sxd, sxu, ↓zE, ↓exq, Nat.reduceBEq, Nat.reduceLT, w1]
                (all_goals try exact zF)) ?_
            refine ⟨_, _, ?_, ?_, ⟨k + 1, hkl, rfl, rfl⟩⟩
            · omega
            · rw [hin]; exact Imp.keepAll
    · have hkl : k = 2 ^ F.length := by have := of_decide_eq_false h24; omega
      refine Tr.exit ?_
      subst hkl
      refine Tr.reg [0, 1, 2, 7, 8, 16, 17, 72] (by
          simp only [↓sxd, sxu, ↓zE, ↓exq, Nat.reduceBEq, Nat.reduceLT]
          (all_goals try exact zF)) ?_
      refine Tr.cond rfl (fun h72 => ?_) (fun h72 => ?_)
      · have h2 : st.2 = true := h72
        rw [← hst, if_pos h2] at hbest
        subst hbest
        refine Tr.exit ?_
        refine Tr.reg [6] (by
            simp only [↓sxd, sxu, ↓zE, ↓exq, Nat.reduceBEq, Nat.reduceLT]
            (all_goals try exact zF)) ?_
        refine Tr.ret ?_
        refine ⟨fun _ hc => (by cases hc), ?_⟩
        exact ⟨.inr rfl, _, rfl, rfl, rfl, rfl⟩
      · have h2 : st.2 = false := h72
        rw [← hst, if_neg (by rw [h2]; decide)] at hbest
        have h1 : st.1 = [] := by rw [hst]; exact ((inner_law (2 ^ F.length)).1 (by rw [← hst]; exact h2)).1
        rw [h1, h2]
        refine Tr.skip ?_
        have w1 : IntKind.i64.wrap ((many : Int) + 1) = ((many + 1 : Nat) : Int) := by rw [wr (by omega) (by omega)]; rfl
        refine Tr.reg1 [0, 1, 2, 7, 8, 16, 17] (by
            simp only [↓sxd, sxu, ↓zE, ↓exq, Nat.reduceBEq, Nat.reduceLT, w1]
            (all_goals try exact zF)) ?_
        exact ⟨_, _, by omega, Imp.keepAll, ⟨many + 1, ⟨by omega, by rw [show F.length + 1 - (many + 1) = rr by omega]; exact hbest⟩, rfl, rfl⟩⟩
  · have hge2 : many = F.length + 1 := by simp at h18; omega
    rw [show F.length + 1 - many = 0 by omega] at hbest
    have hbest2 : [] = R := hbest
    subst hbest2
    refine Tr.exit ?_
    refine Tr.reg [6] (by
        simp only [↓sxd, sxu, ↓zE, ↓exq, Nat.reduceBEq, Nat.reduceLT]
        (all_goals try exact zF)) ?_
    refine Tr.ret ?_
    refine ⟨fun _ hc => (by cases hc), ?_⟩
    exact ⟨.inr rfl, _, rfl, rfl, rfl, rfl⟩
end Go.Proofs.YtijechcadlklhaaGreat
