/- Lemmas, part ZGO. Conditions: none. -/
import Derived.Test.YtijechcadlklhaaGreatZGN
set_option linter.unusedVariables false
namespace Go.Proofs.YtijechcadlklhaaGreat
open Go.Sy
set_option maxRecDepth 8000
abbrev nodeS' (v : HNode) : SV := .agg [B v.1, I (v.2 : Nat)]
structure RowsIn (hp : HpT) (o n m : Nat) (rows : Rows8) : Prop where
  out : hp.lookup o = some (.arr 1 (refsTo (o + 1) m n))
  row : ∀ r, r < n → hp.lookup (o + 1 + r) = some (.arr 1 (vI (rows.getD r [])))
theorem wd_hid {w : HW} (h : w.hid.length = 12) {r c : Nat} (hr : r < 3) (hc : c < 4) : (List.drop c (List.drop (r * 4) (w.hid.map cB))).getD 0 default = cB (w.h r c) := by
  rw [List.drop_drop, List.getD_eq_getElem?_getD, List.getElem?_drop]
  unfold HW.h
  have : r * 4 + c + 0 = 4 * r + c := by omega
  rw [this]
  simp only [hc, decide_true, Bool.true_and]
  simp [List.getD_eq_getElem?_getD, h, show 4 * r + c < 12 by omega]
theorem wd_hid0 {w : HW} (h : w.hid.length = 12) {r c : Nat} (hr : r < 3) (hc : c < 4) : (0 < (List.drop c (List.drop (r * 4) (w.hid.map cB))).length) = True := by
  simp [h]; omega
theorem i3 {r n : Nat} (hr : r < n) (hn : n ≤ 3) : ((r : Int) < ((3 : Nat) : Int)) = True := by simp; omega
theorem i4 {r n : Nat} (hr : r < n) (hn : n ≤ 4) : ((r : Int) < ((4 : Nat) : Int)) = True := by simp; omega
theorem ldCell {a b : SV} {id : Nat} {hp : HpT} : zD Tryz.prog 79 (.ptr id 0 0) ((id, .arr 2 [[a, b]]) :: hp) fun r => r = .agg [a, b] := by
  unfold zD
  rw [ty.agg79, ty.sz79]
  simp
abbrev tysH8_104 := And.intro ty.sz0 <| And.intro ty.agg0 <| And.intro ty.elem0 <| And.intro ty.sz3 <| And.intro ty.agg3 <| And.intro ty.elem3 <| And.intro ty.zero3 <| And.intro ty.und3 <| And.intro ty.sz4 <| And.intro ty.agg4 <| And.intro ty.elem4 <| And.intro ty.zero4 <| And.intro ty.und4 <| And.intro ty.sz22 <| And.intro ty.agg22 <| And.intro ty.elem22 <| And.intro ty.by22 <| And.intro ty.ez22 <| And.intro ty.zero22 <| And.intro ty.und22 <| And.intro ty.sz32 <| And.intro ty.agg32 <| And.intro ty.fld32_0 <| And.intro ty.fld32_1 <| And.intro ty.elem32 <| And.intro ty.zero32 <| And.intro ty.pl32 <| And.intro ty.sz44 <| And.intro ty.agg44 <| And.intro ty.elem44 <| And.intro ty.by44 <| And.intro ty.ez44 <| And.intro ty.zero44 <| And.intro ty.und44 <| And.intro ty.sz79 <| And.intro ty.agg79 <| And.intro ty.fld79_0 <| And.intro ty.fld79_1 <| And.intro ty.elem79 <| And.intro ty.zero79 <| And.intro ty.pl79 <| And.intro ty.sz83 <| And.intro ty.agg83 <| And.intro ty.elem83 <| And.intro ty.zero83 <| And.intro ty.sz106 <| And.intro ty.agg106 <| And.intro ty.elem106 <| And.intro ty.arr106 <| And.intro ty.zero106 <| And.intro ty.und106 <| And.intro ty.sz108 <| And.intro ty.agg108 <| And.intro ty.elem108 <| And.intro ty.arr108 <| And.intro ty.zero108 <| And.intro ty.und108 <| And.intro ty.sz110 <| And.intro ty.agg110 <| And.intro ty.fld110_0 <| And.intro ty.fld110_1 <| And.intro ty.elem110 <| And.intro ty.zero110 <| And.intro ty.pl110 <| And.intro ty.sz134 <| And.intro ty.agg134 <| And.intro ty.fld134_0 <| And.intro ty.fld134_1 <| And.intro ty.elem134 <| And.intro ty.zero134 <| ty.pl134
theorem stepR_h {w : HW} {n m : Nat} (hw : w.Ok n m) {rows : Rows8} (hf : w.Fit n m rows) {o : Nat} {hp : HpT} {nx : Nat} (hin : RowsIn hp o n m rows) (ho : o + 1 + n ≤ nx) {i j : Nat} (hi : i < n) (hj : j < m) : CallH Tryz.prog G0 104 [.dp w.d, .slc o 1 0 n n, nodeS' (false, i), nodeS' (true, j)] hp nx (Det (.tup [.agg [I (i : Nat), I (j : Nat)], I (w.room rows (false, i) (true, j))]) ((nx + 2, .arr 2 [[I (i : Nat), I (j : Nat)]]) :: hp) (nx + 3)) := by
  have hi3 := i3 hi hw.n3
  have hj4 := i4 hj hw.m4
  have e01 : (nx == nx + 1) = false := by simp
  have e02 : (nx == nx + 2) = false := by simp
  have e12 : (nx + 1 == nx + 2) = false := by simp
  have n21 : (nx + 2 = nx + 1) = False := by simp
  have n20 : (nx + 2 = nx) = False := by simp
  have o0 : (o == nx) = false := beq_eq_false_iff_ne.2 (by omega)
  have o1 : (o == nx + 1) = false := beq_eq_false_iff_ne.2 (by omega)
  have o2 : (o == nx + 2) = false := beq_eq_false_iff_ne.2 (by omega)
  have r0 : (o + 1 + i == nx) = false := beq_eq_false_iff_ne.2 (by omega)
  have r1 : (o + 1 + i == nx + 1) = false := beq_eq_false_iff_ne.2 (by omega)
  have r2 : (o + 1 + i == nx + 2) = false := beq_eq_false_iff_ne.2 (by omega)
  have hlen := hf.dim.2 i hi
  have hout := hin.out
  have hrow := hin.row i hi
  have hrg := refs_get (o + 1) m n hi
  have hvg := vI_get (show j < (rows.getD i []).length by omega)
  have hbd := hf.cell i j hi hj
  have hcap := hw.cap
  have hwr : IntKind.i64.wrap (w.cap - (rows.getD i []).getD j 0) = w.cap - cellAt rows i j := wr (by unfold cellAt at hbd; omega) (by unfold cellAt at hbd; omega)
  refine CallH.body 58 [.cell 8 79, .tmp 9] Tryz.func104 (by kernel_rfl) rfl rfl rfl ?_
  refine Tr.reg [0, 1, 6, 7, 8] (by
      simp only [↓sxd, sxu, ↓zE, ↓exq, ↓zN, ↓zM, Nat.reduceBEq, Nat.reduceAdd, Nat.reduceLT, Nat.reduceEqDiff, tysH8_104]
      (all_goals try exact zF)) ?_
  refine Tr.reg [0, 1, 6, 7, 8] (by
      simp only [↓sxd, sxu, ↓zE, ↓exq, ↓zD, ↓zO, ↓zA, Nat.reduceBEq, Nat.reduceAdd, Nat.reduceLT, Nat.reduceLeDiff, Nat.reduceEqDiff, tysH8_104, e01, e02, e12]
      (all_goals try exact zF)) ?_
  refine Tr.seq ?_
  refine Tr.reg [0, 1, 6, 7, 8, 17] (by
      simp only [↓sxd, sxu, ↓zE, ↓exq, ↓zD, ↓zA, Nat.reduceBEq, Nat.reduceAdd, Nat.reduceLT, Nat.reduceEqDiff, tysH8_104, e01, e02]
      (all_goals try exact zF)) ?_
  refine Tr.cond rfl (fun h17 => ?_) (fun h17 => ?_)
  · cases h17
  · refine Tr.skip ?_
    refine Tr.regD [0, 1, 2, 3, 4, 5, 6, 7, 8, 9] [] [] [0, 6, 8, 10] mix (by kernel_rfl) (by
        simp only [↓sxd, sxu, ↓zC, zJ, ↓exq, ↓zD, ↓zA, Nat.reduceBEq, Nat.reduceAdd, Nat.reduceLT, Nat.reduceEqDiff, sxe, tysH8_104, o0, o1, o2, r0, r1, r2, hout, hrow, hrg, hvg, vI_len, refs_len, hlen, hi, hj]
        (all_goals try exact zF)) ?_
    refine Tr.seq ?_
    refine Tr.block ?_
    refine Tr.regD [0, 1, 2, 3, 4, 5, 6, 7, 8, 9, 10, 11] [] [] [0, 6, 8, 10, 32] mix (by kernel_rfl) (by
        simp only [↓sxd, sxu, ↓zC, zJ, ↓exq, ↓zK, ↓zD, ↓zR, ↓zA, Nat.reduceBEq, Nat.reduceAdd, Nat.reduceLT, Nat.reduceEqDiff, sxe, tysH8_104, hi3, hj4, wd_hid hw.hl (show i < 3 from Nat.lt_of_lt_of_le hi hw.n3) (show j < 4 from Nat.lt_of_lt_of_le hj hw.m4), wd_hid0 hw.hl (show i < 3 from Nat.lt_of_lt_of_le hi hw.n3) (show j < 4 from Nat.lt_of_lt_of_le hj hw.m4)]
        (all_goals try exact zF)) ?_
    refine Tr.cond rfl (fun h32 => ?_) (fun h32 => ?_)
    · have hh : w.h i j = false := by simpa using h32
      have hr : w.room rows (false, i) (true, j) = 0 := by unfold HW.room ncell; simp [hh]
      rw [hr]
      refine Tr.reg [8, 9] (by
          simp only [↓sxd, sxu, ↓zE, ↓exq, ↓zD, Nat.reduceBEq, Nat.reduceAdd, Nat.reduceLT, Nat.reduceEqDiff, tysH8_104]
          (all_goals try exact zF)) ?_
      refine Tr.imp (Imp.weak (hp' := (nx + 1 + 1, .arr 2 [[I (i : Nat), I (j : Nat)]]) :: hp) (fun _ _ h => h) (.cons_cons _ (.cons _ (.cons _ (.refl _)))) (Nat.le_refl _)) ?_
      refine Tr.ret ?_
      exact ⟨.inr rfl, .tup [.agg [I (i : Nat), I (j : Nat)], I 0], ⟨ldCell, rfl, trivial⟩, rfl, rfl, rfl⟩
    · have hh : w.h i j = true := by simpa using h32
      have hr : w.room rows (false, i) (true, j) = w.cap - cellAt rows i j := by unfold HW.room ncell; simp [hh]
      rw [hr]
      refine Tr.reg [0, 8, 10, 45] (by
          simp only [↓sxd, sxu, ↓zE, ↓exq, ↓zD, ↓zA, Nat.reduceBEq, Nat.reduceAdd, Nat.reduceLT, Nat.reduceEqDiff, tysH8_104, e01, e02]
          (all_goals try exact zF)) ?_
      refine Tr.cond rfl (fun h45 => ?_) (fun h45 => ?_)
      · cases h45
      · refine Tr.skip ?_
        refine Tr.regD [0, 1, 2, 3, 4, 5, 6, 7, 8, 9] [8] [5] [8, 9] mix (by kernel_rfl) (by
            simp only [↓sxd, sxu, ↓zC, zJ, ↓exq, ↓zD, ↓zR, ↓zA, Nat.reduceBEq, Nat.reduceAdd, Nat.reduceLT, Nat.reduceEqDiff, tysH8_104, hwr]
            (all_goals try exact zF)) ?_
        refine Tr.imp (Imp.weak (hp' := (nx + 1 + 1, .arr 2 [[I (i : Nat), I (j : Nat)]]) :: hp) (fun _ _ h => h) (.cons_cons _ (.cons _ (.cons _ (.refl _)))) (Nat.le_refl _)) ?_
        refine Tr.ret ?_
        exact ⟨.inr rfl, .tup [.agg [I (i : Nat), I (j : Nat)], I (w.cap - cellAt rows i j)], ⟨ldCell, rfl, trivial⟩, rfl, rfl, rfl⟩
theorem stepC_h {w : HW} {n m : Nat} (hw : w.Ok n m) {rows : Rows8} (hf : w.Fit n m rows) {o : Nat} {hp : HpT} {nx : Nat} (hin : RowsIn hp o n m rows) (ho : o + 1 + n ≤ nx) {i j : Nat} (hi : i < n) (hj : j < m) : CallH Tryz.prog G0 104 [.dp w.d, .slc o 1 0 n n, nodeS' (true, j), nodeS' (false, i)] hp nx (Det (.tup [.agg [I (i : Nat), I (j : Nat)], I (w.room rows (true, j) (false, i))]) ((nx + 2, .arr 2 [[I (i : Nat), I (j : Nat)]]) :: hp) (nx + 3)) := by
  have hi3 := i3 hi hw.n3
  have hj4 := i4 hj hw.m4
  have e01 : (nx == nx + 1) = false := by simp
  have e02 : (nx == nx + 2) = false := by simp
  have e12 : (nx + 1 == nx + 2) = false := by simp
  have n21 : (nx + 2 = nx + 1) = False := by simp
  have n20 : (nx + 2 = nx) = False := by simp
  have o0 : (o == nx) = false := beq_eq_false_iff_ne.2 (by omega)
  have o1 : (o == nx + 1) = false := beq_eq_false_iff_ne.2 (by omega)
  have o2 : (o == nx + 2) = false := beq_eq_false_iff_ne.2 (by omega)
  have r0 : (o + 1 + i == nx) = false := beq_eq_false_iff_ne.2 (by omega)
  have r1 : (o + 1 + i == nx + 1) = false := beq_eq_false_iff_ne.2 (by omega)
  have r2 : (o + 1 + i == nx + 2) = false := beq_eq_false_iff_ne.2 (by omega)
  have hlen := hf.dim.2 i hi
  have hout := hin.out
  have hrow := hin.row i hi
  have hrg := refs_get (o + 1) m n hi
  have hvg := vI_get (show j < (rows.getD i []).length by omega)
  have hbd := hf.cell i j hi hj
  have hcap := hw.cap
  have hwr : IntKind.i64.wrap (w.cap - (rows.getD i []).getD j 0) = w.cap - cellAt rows i j := wr (by unfold cellAt at hbd; omega) (by unfold cellAt at hbd; omega)
  refine CallH.body 58 [.cell 8 79, .tmp 9] Tryz.func104 (by kernel_rfl) rfl rfl rfl ?_
  refine Tr.reg [0, 1, 6, 7, 8] (by
      simp only [↓sxd, sxu, ↓zE, ↓exq, ↓zN, ↓zM, Nat.reduceBEq, Nat.reduceAdd, Nat.reduceLT, Nat.reduceEqDiff, tysH8_104]
      (all_goals try exact zF)) ?_
  refine Tr.reg [0, 1, 6, 7, 8] (by
      simp only [↓sxd, sxu, ↓zE, ↓exq, ↓zD, ↓zO, ↓zA, Nat.reduceBEq, Nat.reduceAdd, Nat.reduceLT, Nat.reduceLeDiff, Nat.reduceEqDiff, tysH8_104, e01, e02, e12]
      (all_goals try exact zF)) ?_
  refine Tr.seq ?_
  refine Tr.reg [0, 1, 6, 7, 8, 17] (by
      simp only [↓sxd, sxu, ↓zE, ↓exq, ↓zD, ↓zA, Nat.reduceBEq, Nat.reduceAdd, Nat.reduceLT, Nat.reduceEqDiff, tysH8_104, e01, e02]
      (all_goals try exact zF)) ?_
  refine Tr.cond rfl (fun h17 => ?_) (fun h17 => ?_)
  · refine Tr.reg1 [0, 1, 6, 8] (by
        simp only [↓sxd, sxu, ↓zE, ↓exq, ↓zD, ↓zO, ↓zA, Nat.reduceBEq, Nat.reduceAdd, Nat.reduceLT, Nat.reduceLeDiff, Nat.reduceEqDiff, tysH8_104, e01, e02, e12]
        (all_goals try exact zF)) ?_
    refine Tr.regD [0, 1, 2, 3, 4, 5, 6, 7, 8, 9] [] [] [0, 6, 8, 10] mix (by kernel_rfl) (by
        simp only [↓sxd, sxu, ↓zC, zJ, ↓exq, ↓zD, ↓zA, Nat.reduceBEq, Nat.reduceAdd, Nat.reduceLT, Nat.reduceEqDiff, sxe, tysH8_104, o0, o1, o2, r0, r1, r2, hout, hrow, hrg, hvg, vI_len, refs_len, hlen, hi, hj]
        (all_goals try exact zF)) ?_
    refine Tr.seq ?_
    refine Tr.block ?_
    refine Tr.regD [0, 1, 2, 3, 4, 5, 6, 7, 8, 9, 10, 11] [] [] [0, 6, 8, 10, 32] mix (by kernel_rfl) (by
        simp only [↓sxd, sxu, ↓zC, zJ, ↓exq, ↓zK, ↓zD, ↓zR, ↓zA, Nat.reduceBEq, Nat.reduceAdd, Nat.reduceLT, Nat.reduceEqDiff, sxe, tysH8_104, hi3, hj4, wd_hid hw.hl (show i < 3 from Nat.lt_of_lt_of_le hi hw.n3) (show j < 4 from Nat.lt_of_lt_of_le hj hw.m4), wd_hid0 hw.hl (show i < 3 from Nat.lt_of_lt_of_le hi hw.n3) (show j < 4 from Nat.lt_of_lt_of_le hj hw.m4)]
        (all_goals try exact zF)) ?_
    refine Tr.cond rfl (fun h32 => ?_) (fun h32 => ?_)
    · have hh : w.h i j = false := by simpa using h32
      have hr : w.room rows (true, j) (false, i) = 0 := by unfold HW.room ncell; simp [hh]
      rw [hr]
      refine Tr.reg [8, 9] (by
          simp only [↓sxd, sxu, ↓zE, ↓exq, ↓zD, Nat.reduceBEq, Nat.reduceAdd, Nat.reduceLT, Nat.reduceEqDiff, tysH8_104]
          (all_goals try exact zF)) ?_
      refine Tr.imp (Imp.weak (hp' := (nx + 1 + 1, .arr 2 [[I (i : Nat), I (j : Nat)]]) :: hp) (fun _ _ h => h) (.cons_cons _ (.cons _ (.cons _ (.refl _)))) (Nat.le_refl _)) ?_
      refine Tr.ret ?_
      exact ⟨.inr rfl, .tup [.agg [I (i : Nat), I (j : Nat)], I 0], ⟨ldCell, rfl, trivial⟩, rfl, rfl, rfl⟩
    · have hh : w.h i j = true := by simpa using h32
      have hr : w.room rows (true, j) (false, i) = cellAt rows i j := by unfold HW.room ncell; simp [hh]
      rw [hr]
      refine Tr.reg [0, 8, 10, 45] (by
          simp only [↓sxd, sxu, ↓zE, ↓exq, ↓zD, ↓zA, Nat.reduceBEq, Nat.reduceAdd, Nat.reduceLT, Nat.reduceEqDiff, tysH8_104, e01, e02]
          (all_goals try exact zF)) ?_
      refine Tr.cond rfl (fun h45 => ?_) (fun h45 => ?_)
      · refine Tr.reg [8, 9] (by
            simp only [↓sxd, sxu, ↓zE, ↓exq, ↓zD, Nat.reduceBEq, Nat.reduceAdd, Nat.reduceLT, Nat.reduceEqDiff, tysH8_104]
            (all_goals try exact zF)) ?_
        refine Tr.imp (Imp.weak (hp' := (nx + 1 + 1, .arr 2 [[I (i : Nat), I (j : Nat)]]) :: hp) (fun _ _ h => h) (.cons_cons _ (.cons _ (.cons _ (.refl _)))) (Nat.le_refl _)) ?_
        refine Tr.ret ?_
        exact ⟨.inr rfl, .tup [.agg [I (i : Nat), I (j : Nat)], I (cellAt rows i j)], ⟨ldCell, rfl, trivial⟩, rfl, rfl, rfl⟩
      · cases h45
  · cases h17
theorem step_h {w : HW} {n m : Nat} (hw : w.Ok n m) {rows : Rows8} (hf : w.Fit n m rows) {o : Nat} {hp : HpT} {nx : Nat} (hin : RowsIn hp o n m rows) (ho : o + 1 + n ≤ nx) {a : HNode} (ha : vOk n m a) {k : Nat} (hk : k < if a.1 then n else m) : CallH Tryz.prog G0 104 [.dp w.d, .slc o 1 0 n n, nodeS' a, nodeS' (!a.1, k)] hp nx (Det (.tup [.agg [I ((ncell a (!a.1, k)).1 : Nat), I ((ncell a (!a.1, k)).2 : Nat)], I (w.room rows a (!a.1, k))]) ((nx + 2, .arr 2 [[I ((ncell a (!a.1, k)).1 : Nat), I ((ncell a (!a.1, k)).2 : Nat)]]) :: hp) (nx + 3)) := by
  obtain ⟨b, i⟩ := a
  cases b
  · exact stepR_h hw hf hin ho (by simpa [vOk] using ha) (by simpa using hk)
  · exact stepC_h hw hf hin ho (by simpa using hk) (by simpa [vOk] using ha)
end Go.Proofs.YtijechcadlklhaaGreat
