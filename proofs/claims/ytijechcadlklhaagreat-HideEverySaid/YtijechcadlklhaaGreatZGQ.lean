/- Lemmas, part ZGQ. Conditions: none. -/
import Derived.Test.YtijechcadlklhaaGreatZGP
set_option linter.unusedVariables false
namespace Go.Proofs.YtijechcadlklhaaGreat
open Go.Sy
set_option maxRecDepth 8000
theorem move_fit {w : HW} {n m : Nat} (hw : w.Ok n m) {rows : Rows8} (hf : w.Fit n m rows) {a to : HNode} (ha : vOk n m a) (hat : a ≠ to) (skip : Nat × Nat) {most : Int} (h0 : 0 ≤ most) (h1 : most ≤ 1000) :
    w.Fit n m (w.move rows a to skip most).2 ∧ 0 ≤ (w.move rows a to skip most).1 ∧ (w.move rows a to skip most).1 ≤ 1000 := by
  by_cases hm : most = 0
  · have : w.move rows a to skip most = (0, rows) := by
      unfold HW.move
      rw [walkS, if_neg (by simpa using hat), hm, walkL_none hw hf]
    rw [this]
    exact ⟨hf, Int.le_refl _, by simp only; omega⟩
  · rcases walkS_law hw (to := to) (skip := skip) 8 a most [] rows ha (by omega) (by simp) .nil (by simp) (by simp) hf (by simp) with ⟨z1, z2, z3, z4⟩ | hp
    · have e1 : (w.move rows a to skip most).1 = 0 := z1
      have e2 : (w.move rows a to skip most).2 = rows := z2
      rw [e1, e2]
      exact ⟨hf, Int.le_refl _, by omega⟩
    · have a1 := hp.pos
      have a2 := hp.le
      have a3 := hp.fit
      refine ⟨a3, ?_, ?_⟩ <;> (show _; unfold HW.move; simp only; omega)
theorem appR {l m : HpT} : m.Sublist (fr [] ++ (l ++ m)) := List.sublist_append_right _ _
abbrev tysH10_92 := And.intro ty.sz0 <| And.intro ty.agg0 <| And.intro ty.elem0 <| And.intro ty.sz3 <| And.intro ty.agg3 <| And.intro ty.elem3 <| And.intro ty.zero3 <| And.intro ty.und3 <| And.intro ty.sz22 <| And.intro ty.agg22 <| And.intro ty.elem22 <| And.intro ty.by22 <| And.intro ty.ez22 <| And.intro ty.zero22 <| And.intro ty.und22 <| And.intro ty.sz79 <| And.intro ty.agg79 <| And.intro ty.fld79_0 <| And.intro ty.fld79_1 <| And.intro ty.elem79 <| And.intro ty.zero79 <| And.intro ty.pl79 <| And.intro ty.sz83 <| And.intro ty.agg83 <| And.intro ty.elem83 <| And.intro ty.zero83 <| And.intro ty.sz134 <| And.intro ty.agg134 <| And.intro ty.fld134_0 <| And.intro ty.fld134_1 <| And.intro ty.elem134 <| And.intro ty.zero134 <| And.intro ty.pl134 <| And.intro ty.sz141 <| And.intro ty.agg141 <| And.intro ty.elem141 <| And.intro ty.zero141 <| And.intro ty.sz142 <| And.intro ty.agg142 <| And.intro ty.elem142 <| ty.zero142
theorem move_h {w : HW} {n m : Nat} (hw : w.Ok n m) {rows : Rows8} (hf : w.Fit n m rows) {o z : Nat} (hoz : o + 1 + n ≤ z) {hp : HpT} (hfix : TnFix z hp) (a to : HNode) (ha : vOk n m a) (hto : vOk n m to) (skip : Nat × Nat) (most : Int) (h0 : 0 ≤ most) (h1 : most ≤ 1000) :
  CallH Tryz.prog G0 92 [.dp w.d, .slc o 1 0 n n, nodeS' a, nodeS' to, .agg [I (skip.1 : Nat), I (skip.2 : Nat)], I most] (MatH o n m rows hp) z (Det (I (w.move rows a to skip most).1) (MatH o n m (w.move rows a to skip most).2 hp) z) := by
  have e67 : (z + 6 == z + 7) = false := by simp
  have e27 : (z + 2 == z + 7) = false := by simp
  have e26 : (z + 2 == z + 6) = false := by simp
  have e25 : (z + 2 == z + 5) = false := by simp
  have e24 : (z + 2 == z + 4) = false := by simp
  have e23 : (z + 2 == z + 3) = false := by simp
  refine CallH.body 21 [.tmp 12] Tryz.func92 (by kernel_rfl) rfl rfl rfl ?_
  refine Tr.reg [5, 6, 7, 8, 9, 10] (by
      simp only [↓sxd, sxu, ↓zE, ↓exq, ↓zM, Nat.reduceBEq, Nat.reduceAdd, Nat.reduceLT, Nat.reduceEqDiff]
      (all_goals try exact zF)) ?_
  refine Tr.reg [5, 6, 7, 8, 9, 10, 13] (by
      simp only [↓sxd, sxu, ↓zE, ↓exq, ↓zN, Nat.reduceBEq, Nat.reduceLT, Nat.reduceEqDiff, tysH10_92, (show ([] : List (Value × SV)) = sm [] from rfl)]
      (all_goals try exact zF)) ?_
  refine Tr.reg [5, 6, 7, 8, 9, 10, 13, 14] (by
      simp only [↓sxd, sxu, ↓zE, ↓exq, ↓zN, Nat.reduceBEq, Nat.reduceLT, Nat.reduceEqDiff, tysH10_92]
      (all_goals try exact zF)) ?_
  refine Tr.reg [5, 8, 14] (by
      simp only [↓sxd, sxu, ↓zE, ↓exq, Nat.reduceBEq, Nat.reduceLT, Nat.reduceEqDiff, tysH10_92]
      (all_goals try exact zF)) ?_
  refine Tr.reg [12] (by
      simp only [↓sxd, sxu, ↓zE, ↓exq, ↓zD, Nat.reduceBEq, Nat.reduceAdd, Nat.reduceLT, tysH10_92, e27, e26, e25, e24, e23]
      (repeat ((with_reducible refine And.intro ?_ ?_); (focus (exact zS))))
      refine CallH.mono (walk_h (frm := a) (to := to) (skip := skip) (hp := hp) hw hto hoz hfix 8 a most [] rows [] (z + 8) ha h0 h1 (by simp) .nil (by simp) (by simp) hf (by simp) (Nat.le_refl _) (by simp)) ?_
      rintro r hp' nx' ⟨rfl, rfl, rfl⟩
      try simp only [↓sxd, sxu, ↓zE, ↓exq, Nat.reduceLT]
      (all_goals try exact zF)) ?_
  refine Tr.imp (Imp.go (tm' := [(12, I (w.move rows a to skip most).1)]) (nx' := z) (rg z 8) (MatH o n m (w.move rows a to skip most).2 hp) rfl rfl appR (fun id h => rg_lt h) (fun id h => by rw [rg_ge h]; show z + 8 ≤ id + 8; omega) zT ((MatH_fix hoz hfix).f2 fun i hi => rg_lt hi) (fun h => h)) ?_
  refine Tr.ret ?_
  exact ⟨.inr rfl, _, rfl, rfl, rfl, rfl⟩
abbrev tysH10_72 := And.intro ty.sz0 <| And.intro ty.agg0 <| And.intro ty.elem0 <| And.intro ty.sz3 <| And.intro ty.agg3 <| And.intro ty.elem3 <| And.intro ty.zero3 <| And.intro ty.und3 <| And.intro ty.sz22 <| And.intro ty.agg22 <| And.intro ty.elem22 <| And.intro ty.by22 <| And.intro ty.ez22 <| And.intro ty.zero22 <| And.intro ty.und22 <| And.intro ty.sz32 <| And.intro ty.agg32 <| And.intro ty.fld32_0 <| And.intro ty.fld32_1 <| And.intro ty.elem32 <| And.intro ty.zero32 <| And.intro ty.pl32 <| And.intro ty.sz44 <| And.intro ty.agg44 <| And.intro ty.elem44 <| And.intro ty.by44 <| And.intro ty.ez44 <| And.intro ty.zero44 <| And.intro ty.und44 <| And.intro ty.sz79 <| And.intro ty.agg79 <| And.intro ty.fld79_0 <| And.intro ty.fld79_1 <| And.intro ty.elem79 <| And.intro ty.zero79 <| And.intro ty.pl79 <| And.intro ty.sz83 <| And.intro ty.agg83 <| And.intro ty.elem83 <| And.intro ty.zero83 <| And.intro ty.sz110 <| And.intro ty.agg110 <| And.intro ty.fld110_0 <| And.intro ty.fld110_1 <| And.intro ty.elem110 <| And.intro ty.zero110 <| And.intro ty.pl110 <| And.intro ty.sz134 <| And.intro ty.agg134 <| And.intro ty.fld134_0 <| And.intro ty.fld134_1 <| And.intro ty.elem134 <| And.intro ty.zero134 <| ty.pl134
theorem up_h {w : HW} {n m : Nat} (hw : w.Ok n m) {rows : Rows8} (hf : w.Fit n m rows) {o z : Nat} (hoz : o + 1 + n ≤ z) {hp : HpT} (hfix : TnFix z hp) {r c : Nat} (hr : r < n) (hc : c < m) :
  CallH Tryz.prog G0 72 [.dp w.d, .slc o 1 0 n n, .agg [I (r : Nat), I (c : Nat)]] (MatH o n m rows hp) z (Det (I (w.shift true rows r c).1) (MatH o n m (w.shift true rows r c).2 hp) z) := by
  have hbd := hf.cell r c hr hc
  have hcap := hw.cap
  have hlen := hf.dim.2 r hr
  have hfix1 : TnFix (z + 1) ((z, .arr 2 [[I (r : Nat), I (c : Nat)]]) :: hp) := TnFix.cons (by omega) (fun _ _ _ _ => TnO.arr zT) (hfix.mono (by omega))
  have Lz : ∀ rw, (MatH o n m rw ((z, .arr 2 [[I (r : Nat), I (c : Nat)]]) :: hp)).lookup z = some (.arr 2 [[I (r : Nat), I (c : Nat)]]) := fun rw => by
    rw [MatH_skip hoz, List.lookup_cons, beq_self_eq_true]
  have Lo : ∀ rw, (MatH o n m rw ((z, .arr 2 [[I (r : Nat), I (c : Nat)]]) :: hp)).lookup o = some (.arr 1 (refsTo (o + 1) m n)) := fun rw => (MatH_in o n m rw _).out
  have Lr : ∀ rw, (MatH o n m rw ((z, .arr 2 [[I (r : Nat), I (c : Nat)]]) :: hp)).lookup (o + 1 + r) = some (.arr 1 (vI (rw.getD r []))) := fun rw => MatH_look hr
  have hrg := refs_get (o + 1) m n hr
  have hvg := vI_get (show c < (rows.getD r []).length by omega)
  have hws : IntKind.i64.wrap (w.cap - cellAt rows r c) = w.cap - cellAt rows r c := wr (by omega) (by omega)
  have hcv : (rows.getD r []).getD c 0 = cellAt rows r c := rfl
  have hmv := move_h hw hf (o := o) (z := z + 1) (by omega) hfix1 (true, c) (false, r) (by simpa [vOk] using hc) (by simpa [vOk] using hr) (r, c) (w.cap - cellAt rows r c) (by omega) (by omega)
  obtain ⟨mf, m0, m1⟩ := move_fit hw hf (a := (true, c)) (to := (false, r)) (by simpa [vOk] using hc) (by simp) (r, c) (most := (w.cap - cellAt rows r c)) (by omega) (by omega)
  have hsh : w.shift true rows r c = ((w.move rows (true, c) (false, r) (r, c) (w.cap - cellAt rows r c)).1, addAt (w.move rows (true, c) (false, r) (r, c) (w.cap - cellAt rows r c)).2 r c ((w.move rows (true, c) (false, r) (r, c) (w.cap - cellAt rows r c)).1)) := by simp [HW.shift]
  rw [hsh]
  generalize w.move rows (true, c) (false, r) (r, c) (w.cap - cellAt rows r c) = X at hmv mf m0 m1
  obtain ⟨g, rows1⟩ := X
  simp only at hmv mf m0 m1 ⊢
  have hbd1 := mf.cell r c hr hc
  have hlen1 := mf.dim.2 r hr
  have hrl : r < rows1.length := by rw [mf.dim.1]; exact hr
  have hvg1 := vI_get (show c < (rows1.getD r []).length by omega)
  have hwa : IntKind.i64.wrap ((rows1.getD r []).getD c 0 + g) = cellAt rows1 r c + g := by rw [wr (by unfold cellAt at hbd1; omega) (by unfold cellAt at hbd1; omega)]; unfold cellAt; rfl
  have hur := fun x => MatH_upd (o := o) (n := n) (m := m) (rows := rows1) (hp := (z, .arr 2 [[I (r : Nat), I (c : Nat)]]) :: hp) (x := x) hr hrl
  refine CallH.body 46 [.tmp 6] Tryz.func72 (by kernel_rfl) rfl rfl rfl ?_
  refine Tr.reg [0, 1, 5] (by
      simp only [↓sxd, sxu, ↓zE, ↓exq, ↓zM, Nat.reduceBEq, Nat.reduceAdd, Nat.reduceLT, Nat.reduceEqDiff]
      (all_goals try exact zF)) ?_
  refine Tr.imp (Imp.perm MatH_perm) ?_
  refine Tr.regD [0, 1, 2, 3, 4, 5, 6, 7, 8, 9, 10, 11, 12, 13, 14, 15, 16, 17, 18, 19, 20, 21, 22, 23, 24, 25] [24] [] [1, 5, 7] mix (by kernel_rfl) (by
      simp only [↓sxd, sxu, ↓zC, zJ, ↓exq, ↓zD, ↓zR, ↓zO, ↓zA, Nat.reduceBEq, Nat.reduceAdd, Nat.reduceLT, Nat.reduceLeDiff, Nat.reduceEqDiff, sxe, tysH10_72, Lz, Lo, Lr, hrg, refs_len, vI_len, hlen, hr, hc, hvg, hws, hcv]
      (repeat ((with_reducible refine And.intro ?_ ?_); (focus (exact zS))))
      refine CallL.use (hmv) (by simp only [stabOk]; (all_goals try exact zF)) ?_
      try simp only [↓sxd, sxu, ↓zC, ↓exq, Nat.reduceBEq, Nat.reduceLT]
      (all_goals try exact zF)) ?_
  refine Tr.regD [0, 1, 2, 3, 4, 5, 6, 7, 8, 9, 10, 11, 12] [12] [] [7] mix (by kernel_rfl) (by
      simp only [↓sxd, sxu, ↓zC, zJ, ↓exq, ↓zD, ↓zA, Nat.reduceBEq, Nat.reduceAdd, Nat.reduceLT, Nat.reduceEqDiff, sxe, tysH10_72, Lz, Lo, Lr, hrg, refs_len, vI_len, hr, hc, hvg1, hlen1, hwa, hur, vI_set]
      (all_goals try exact zF)) ?_
  refine Tr.reg [6] (by
      simp only [↓sxd, sxu, ↓zE, ↓exq, Nat.reduceLT]
      (all_goals try exact zF)) ?_
  refine Tr.imp (Imp.go (tm' := [(6, I g)]) (nx' := z) (rg z 1) (MatH o n m (addAt rows1 r c (g)) hp) rfl rfl MatH_sub (fun id h => rg_lt h) (fun id h => by rw [rg_ge h]; show z + 1 ≤ id + 1; omega) zT ((MatH_fix hoz hfix).f2 fun i hi => rg_lt hi) (fun h => h)) ?_
  refine Tr.ret ?_
  exact ⟨.inr rfl, _, rfl, rfl, rfl, rfl⟩
abbrev tysH10_73 := And.intro ty.sz0 <| And.intro ty.agg0 <| And.intro ty.elem0 <| And.intro ty.sz3 <| And.intro ty.agg3 <| And.intro ty.elem3 <| And.intro ty.zero3 <| And.intro ty.und3 <| And.intro ty.sz22 <| And.intro ty.agg22 <| And.intro ty.elem22 <| And.intro ty.by22 <| And.intro ty.ez22 <| And.intro ty.zero22 <| And.intro ty.und22 <| And.intro ty.sz44 <| And.intro ty.agg44 <| And.intro ty.elem44 <| And.intro ty.by44 <| And.intro ty.ez44 <| And.intro ty.zero44 <| And.intro ty.und44 <| And.intro ty.sz79 <| And.intro ty.agg79 <| And.intro ty.fld79_0 <| And.intro ty.fld79_1 <| And.intro ty.elem79 <| And.intro ty.zero79 <| And.intro ty.pl79 <| And.intro ty.sz83 <| And.intro ty.agg83 <| And.intro ty.elem83 <| And.intro ty.zero83 <| And.intro ty.sz134 <| And.intro ty.agg134 <| And.intro ty.fld134_0 <| And.intro ty.fld134_1 <| And.intro ty.elem134 <| And.intro ty.zero134 <| ty.pl134
theorem down_h {w : HW} {n m : Nat} (hw : w.Ok n m) {rows : Rows8} (hf : w.Fit n m rows) {o z : Nat} (hoz : o + 1 + n ≤ z) {hp : HpT} (hfix : TnFix z hp) {r c : Nat} (hr : r < n) (hc : c < m) :
  CallH Tryz.prog G0 73 [.dp w.d, .slc o 1 0 n n, .agg [I (r : Nat), I (c : Nat)]] (MatH o n m rows hp) z (Det (I (w.shift false rows r c).1) (MatH o n m (w.shift false rows r c).2 hp) z) := by
  have hbd := hf.cell r c hr hc
  have hcap := hw.cap
  have hlen := hf.dim.2 r hr
  have hfix1 : TnFix (z + 1) ((z, .arr 2 [[I (r : Nat), I (c : Nat)]]) :: hp) := TnFix.cons (by omega) (fun _ _ _ _ => TnO.arr zT) (hfix.mono (by omega))
  have Lz : ∀ rw, (MatH o n m rw ((z, .arr 2 [[I (r : Nat), I (c : Nat)]]) :: hp)).lookup z = some (.arr 2 [[I (r : Nat), I (c : Nat)]]) := fun rw => by
    rw [MatH_skip hoz, List.lookup_cons, beq_self_eq_true]
  have Lo : ∀ rw, (MatH o n m rw ((z, .arr 2 [[I (r : Nat), I (c : Nat)]]) :: hp)).lookup o = some (.arr 1 (refsTo (o + 1) m n)) := fun rw => (MatH_in o n m rw _).out
  have Lr : ∀ rw, (MatH o n m rw ((z, .arr 2 [[I (r : Nat), I (c : Nat)]]) :: hp)).lookup (o + 1 + r) = some (.arr 1 (vI (rw.getD r []))) := fun rw => MatH_look hr
  have hrg := refs_get (o + 1) m n hr
  have hvg := vI_get (show c < (rows.getD r []).length by omega)
  have hws : IntKind.i64.wrap (w.cap - cellAt rows r c) = w.cap - cellAt rows r c := wr (by omega) (by omega)
  have hcv : (rows.getD r []).getD c 0 = cellAt rows r c := rfl
  have hmv := move_h hw hf (o := o) (z := z + 1) (by omega) hfix1 (false, r) (true, c) (by simpa [vOk] using hr) (by simpa [vOk] using hc) (r, c) (cellAt rows r c) (by omega) (by omega)
  obtain ⟨mf, m0, m1⟩ := move_fit hw hf (a := (false, r)) (to := (true, c)) (by simpa [vOk] using hr) (by simp) (r, c) (most := (cellAt rows r c)) (by omega) (by omega)
  have hsh : w.shift false rows r c = ((w.move rows (false, r) (true, c) (r, c) (cellAt rows r c)).1, addAt (w.move rows (false, r) (true, c) (r, c) (cellAt rows r c)).2 r c (-(w.move rows (false, r) (true, c) (r, c) (cellAt rows r c)).1)) := by simp [HW.shift]
  rw [hsh]
  generalize w.move rows (false, r) (true, c) (r, c) (cellAt rows r c) = X at hmv mf m0 m1
  obtain ⟨g, rows1⟩ := X
  simp only at hmv mf m0 m1 ⊢
  have hbd1 := mf.cell r c hr hc
  have hlen1 := mf.dim.2 r hr
  have hrl : r < rows1.length := by rw [mf.dim.1]; exact hr
  have hvg1 := vI_get (show c < (rows1.getD r []).length by omega)
  have hwa : IntKind.i64.wrap ((rows1.getD r []).getD c 0 - g) = cellAt rows1 r c + -g := by rw [wr (by unfold cellAt at hbd1; omega) (by unfold cellAt at hbd1; omega)]; unfold cellAt; omega
  have hur := fun x => MatH_upd (o := o) (n := n) (m := m) (rows := rows1) (hp := (z, .arr 2 [[I (r : Nat), I (c : Nat)]]) :: hp) (x := x) hr hrl
  refine CallH.body 40 [.tmp 6] Tryz.func73 (by kernel_rfl) rfl rfl rfl ?_
  refine Tr.reg [0, 1, 5] (by
      simp only [↓sxd, sxu, ↓zE, ↓exq, ↓zM, Nat.reduceBEq, Nat.reduceAdd, Nat.reduceLT, Nat.reduceEqDiff]
      (all_goals try exact zF)) ?_
  refine Tr.imp (Imp.perm MatH_perm) ?_
  refine Tr.regD [0, 1, 2, 3, 4, 5, 6, 7, 8, 9, 10, 11, 12, 13, 14, 15, 16, 17, 18, 19] [18] [] [1, 5, 7] mix (by kernel_rfl) (by
      simp only [↓sxd, sxu, ↓zC, zJ, ↓exq, ↓zD, ↓zO, ↓zA, Nat.reduceBEq, Nat.reduceAdd, Nat.reduceLT, Nat.reduceLeDiff, Nat.reduceEqDiff, sxe, tysH10_73, Lz, Lo, Lr, hrg, refs_len, vI_len, hlen, hr, hc, hvg, hcv]
      (repeat ((with_reducible refine And.intro ?_ ?_); (focus (exact zS))))
      refine CallL.use (hmv) (by simp only [stabOk]; (all_goals try exact zF)) ?_
      try simp only [↓sxd, sxu, ↓zC, ↓exq, Nat.reduceBEq, Nat.reduceLT]
      (all_goals try exact zF)) ?_
  refine Tr.regD [0, 1, 2, 3, 4, 5, 6, 7, 8, 9, 10, 11, 12] [12] [] [7] mix (by kernel_rfl) (by
      simp only [↓sxd, sxu, ↓zC, zJ, ↓exq, ↓zD, ↓zA, Nat.reduceBEq, Nat.reduceAdd, Nat.reduceLT, Nat.reduceEqDiff, sxe, tysH10_73, Lz, Lo, Lr, hrg, refs_len, vI_len, hr, hc, hvg1, hlen1, hwa, hur, vI_set]
      (all_goals try exact zF)) ?_
  refine Tr.reg [6] (by
      simp only [↓sxd, sxu, ↓zE, ↓exq, Nat.reduceLT]
      (all_goals try exact zF)) ?_
  refine Tr.imp (Imp.go (tm' := [(6, I g)]) (nx' := z) (rg z 1) (MatH o n m (addAt rows1 r c (-g)) hp) rfl rfl MatH_sub (fun id h => rg_lt h) (fun id h => by rw [rg_ge h]; show z + 1 ≤ id + 1; omega) zT ((MatH_fix hoz hfix).f2 fun i hi => rg_lt hi) (fun h => h)) ?_
  refine Tr.ret ?_
  exact ⟨.inr rfl, _, rfl, rfl, rfl, rfl⟩
end Go.Proofs.YtijechcadlklhaaGreat
namespace Go.Proofs.YtijechcadlklhaaGreat
open Go.Sy
set_option maxRecDepth 8000
theorem MatH_below {o n m : Nat} {rows : Rows8} {hp : HpT} {k : Nat} (hk : k < o) : (MatH o n m rows hp).lookup k = hp.lookup k := by
  have : (k == o) = false := beq_eq_false_iff_ne.2 (by omega)
  rw [MatH, List.lookup_cons, this]
  exact rowsD_skip hp n (by omega)
theorem MatH_sub2 {o n m : Nat} {rows : Rows8} {p q : Nat × Sy.Obj} {hp : HpT} : (MatH o n m rows hp).Sublist (MatH o n m rows (p :: q :: hp)) :=
  .cons_cons _ (List.Sublist.append (.refl _) (.cons _ (.cons _ (.refl _))))
abbrev cbx (r c : Nat) : Sy.Obj := .arr 2 [[I (r : Nat), I (c : Nat)]]
abbrev xbx (fu : FuncId) : Sy.Obj := .arr 1 [[.clo (.func fu) [] []]]
def hpR (r c : Nat) (fu : FuncId) (nx : Nat) (hp : HpT) : HpT := (nx + 1, xbx fu) :: (nx, cbx r c) :: hp
theorem hpR_fix {r c : Nat} {fu : FuncId} {nx N : Nat} {hp : HpT} (h : TnFix nx hp) (hN : nx + 2 ≤ N) : TnFix N (hpR r c fu nx hp) :=
  TnFix.cons (by omega) (fun _ _ _ _ => TnO.arr zT) (TnFix.cons (by omega) (fun _ _ _ _ => TnO.arr zT) (h.mono (by omega)))
theorem reach_step {w : HW} {n m : Nat} (hw : w.Ok n m) {r c : Nat} (hh : w.h r c = true) (up : Bool) {f : Nat} {x : Rows8} (hx : w.Cand n m x) (hf : (if up then w.cap - cellAt x r c else cellAt x r c) < f) :
    (0 < (w.shift up x r c).1 → ∃ f', f = f' + 1 ∧ w.reachF up r c f x = w.reachF up r c f' (w.shift up x r c).2 ∧ w.Cand n m (w.shift up x r c).2 ∧ (if up then w.cap - cellAt (w.shift up x r c).2 r c else cellAt (w.shift up x r c).2 r c) < f') ∧
    (¬ 0 < (w.shift up x r c).1 → w.reachF up r c f x = (w.shift up x r c).2) := by
  have hi := hw.hin r c hh
  have hb := hx.fit.cell r c hi.1 hi.2
  cases f with
  | zero => exfalso; cases up <;> simp at hf <;> omega
  | succ f =>
    refine ⟨fun hg => ⟨f, rfl, by rw [HW.reachF, if_pos hh, if_pos hg], ?_⟩, fun hg => by rw [HW.reachF, if_pos hh, if_neg hg]⟩
    rcases shift_law hw hx hh up with ⟨h1, h2, h3⟩ | ⟨h1, h2, h3⟩
    · refine ⟨h2, ?_⟩
      rw [h3]
      cases up <;> simp at hf ⊢ <;> omega
    · omega
abbrev tysH11_71 := And.intro ty.sz0 <| And.intro ty.agg0 <| And.intro ty.elem0 <| And.intro ty.sz3 <| And.intro ty.agg3 <| And.intro ty.elem3 <| And.intro ty.zero3 <| And.intro ty.und3 <| And.intro ty.sz4 <| And.intro ty.agg4 <| And.intro ty.elem4 <| And.intro ty.zero4 <| And.intro ty.und4 <| And.intro ty.sz22 <| And.intro ty.agg22 <| And.intro ty.elem22 <| And.intro ty.by22 <| And.intro ty.ez22 <| And.intro ty.zero22 <| And.intro ty.und22 <| And.intro ty.sz32 <| And.intro ty.agg32 <| And.intro ty.fld32_0 <| And.intro ty.fld32_1 <| And.intro ty.elem32 <| And.intro ty.zero32 <| And.intro ty.pl32 <| And.intro ty.sz79 <| And.intro ty.agg79 <| And.intro ty.fld79_0 <| And.intro ty.fld79_1 <| And.intro ty.elem79 <| And.intro ty.zero79 <| And.intro ty.pl79 <| And.intro ty.sz83 <| And.intro ty.agg83 <| And.intro ty.elem83 <| And.intro ty.zero83 <| And.intro ty.sz106 <| And.intro ty.agg106 <| And.intro ty.elem106 <| And.intro ty.arr106 <| And.intro ty.zero106 <| And.intro ty.und106 <| And.intro ty.sz108 <| And.intro ty.agg108 <| And.intro ty.elem108 <| And.intro ty.arr108 <| And.intro ty.zero108 <| And.intro ty.und108 <| And.intro ty.sz110 <| And.intro ty.agg110 <| And.intro ty.fld110_0 <| And.intro ty.fld110_1 <| And.intro ty.elem110 <| And.intro ty.zero110 <| And.intro ty.pl110 <| And.intro ty.sz117 <| And.intro ty.agg117 <| And.intro ty.elem117 <| And.intro ty.zero117 <| And.intro ty.sz120 <| And.intro ty.agg120 <| And.intro ty.fld120_0 <| And.intro ty.elem120 <| And.intro ty.zero120 <| ty.pl120
theorem reachedY_h {w : HW} {n m : Nat} (hw : w.Ok n m) {nx : Nat} {hp : HpT} (hfix : TnFix nx hp) {r c : Nat} (hh : w.h r c = true) (up : Bool) (fu : FuncId)
    (hfu : ∀ rows, w.Fit n m rows → CallH Tryz.prog G0 fu [.dp w.d, .slc (nx + 2) 1 0 n n, .agg [I (r : Nat), I (c : Nat)]] (MatH (nx + 2) n m rows (hpR r c fu nx hp)) (nx + 2 + 1 + n) (Det (I (w.shift up rows r c).1) (MatH (nx + 2) n m (w.shift up rows r c).2 (hpR r c fu nx hp)) (nx + 2 + 1 + n))) :
  CallH Tryz.prog G0 71 [.dp w.d, .agg [I (r : Nat), I (c : Nat)], .agg [.clo (.func fu) [] []]] hp nx (Det (.slc (nx + 2) 1 0 n n) (MatH (nx + 2) n m (w.reach up r c) hp) (nx + 2 + 1 + n)) := by
  have hi := hw.hin r c hh
  have hi3 := i3 hi.1 hw.n3
  have hj4 := i4 hi.2 hw.m4
  have e01 : (nx == nx + 1) = false := by simp
  have L0 : ∀ rw, (MatH (nx + 2) n m rw (hpR r c fu nx hp)).lookup nx = some (cbx r c) := fun rw => by
    rw [MatH_below (by omega), hpR, List.lookup_cons, e01, List.lookup_cons, beq_self_eq_true]
  have L1 : ∀ rw, (MatH (nx + 2) n m rw (hpR r c fu nx hp)).lookup (nx + 1) = some (xbx fu) := fun rw => by
    rw [MatH_below (by omega), hpR, List.lookup_cons, beq_self_eq_true]
  have hn3 := hw.n3
  have hm4 := hw.m4
  have hw0 := wd_hid hw.hl (show r < 3 by omega) (show c < 4 by omega)
  have hw1 := wd_hid0 hw.hl (show r < 3 by omega) (show c < 4 by omega)
  refine CallH.body 34 [.tmp 6] Tryz.func71 (by kernel_rfl) rfl rfl rfl ?_
  refine Tr.reg [0, 4, 5] (by
      simp only [↓sxd, sxu, ↓zE, ↓exq, ↓zM, Nat.reduceBEq, Nat.reduceAdd, Nat.reduceLT, Nat.reduceEqDiff]
      (all_goals try exact zF)) ?_
  refine Tr.reg [0, 4, 5, 7] (by
      simp only [↓sxd, sxu, ↓zE, ↓exq, ↓zD, ↓zR, ↓zA, Nat.reduceLT, Nat.reduceEqDiff, tysH11_71]
      (repeat ((with_reducible refine And.intro ?_ ?_); (focus (exact zS))))
      refine CallH.mono (copied_h w.rows n m hw.dim (by omega) (by omega) (hpR r c fu nx hp) (nx + 2) (hpR_fix hfix (Nat.le_refl _))) ?_
      rintro r' hp' nx' ⟨rfl, rfl, rfl⟩
      try simp only [↓sxd, sxu, ↓zE, ↓exq, Nat.reduceBEq, Nat.reduceLT]
      (all_goals try exact zF)) ?_
  refine Tr.seq ?_
  refine Tr.imp (st' := ⟨[(0, .dp w.d), (4, .ptr nx 0 0), (5, .ptr (nx + 1) 0 0), (7, .slc (nx + 2) 1 0 n n)], MatH (nx + 2) n m w.rows (hpR r c fu nx hp), nx + 2 + 1 + n, 34, [], nx⟩) (Imp.keepAll) (Tr.block (Tr.loopI (fun mm ss => ∃ (f : Nat) (rows : Rows8), (w.Cand n m rows ∧ w.reach up r c = w.reachF up r c f rows ∧ (if up then w.cap - cellAt rows r c else cellAt rows r c) < f) ∧ f = mm ∧ ss = ⟨[(0, .dp w.d), (4, .ptr nx 0 0), (5, .ptr (nx + 1) 0 0), (7, .slc (nx + 2) 1 0 n n)], MatH (nx + 2) n m rows (hpR r c fu nx hp), nx + 2 + 1 + n, 34, [], nx⟩) _ ⟨1001, w.rows, ?_, rfl, rfl⟩ ?_))
  · have hbd := hw.cell r c hi.1 hi.2
    have hcap := hw.cap
    exact ⟨hw.self, rfl, by cases up <;> simp <;> omega⟩
  rintro mm ss ⟨f, rows, hI, rfl, rfl⟩
  obtain ⟨hx, hrf, hlt⟩ := hI
  have hcall := hfu rows hx.fit
  obtain ⟨hs1, hs2⟩ := reach_step hw hh up hx hlt
  rw [← hrf] at hs1 hs2
  generalize w.shift up rows r c = X at hcall hs1 hs2
  obtain ⟨g, rows1⟩ := X
  simp only at hcall hs1 hs2
  refine Tr.seq ?_
  refine Tr.regD [0, 1, 2, 3, 4, 5, 6, 7, 8, 9, 10, 11, 12, 13, 14, 15, 16, 17, 18] [16] [] [0, 4, 5, 7, 32] mix (by kernel_rfl) (by
      simp only [↓sxd, sxu, ↓zC, zJ, ↓exq, ↓zD, ↓zR, ↓zA, Nat.reduceBEq, Nat.reduceAdd, Nat.reduceLT, Nat.reduceEqDiff, sxe, tysH11_71, L0, hi3, hj4, hw0, hw1, hh]
      iterate 5
        (repeat ((with_reducible refine And.intro ?_ ?_); (focus (exact zS))))
        refine GdD.mk _ (fun hg => by simp only [sxu, ↓exP, ↓exq, ↓zD, ↓zA, Nat.reduceBEq, Nat.reduceAdd, Nat.reduceLT, Nat.reduceEqDiff, tysH11_71, L0, L1]; (all_goals try exact zF)) ?_
        simp only [↓sxd, sxu, ↓zC, zJ, Nat.reduceBEq, Nat.reduceLT]
      (repeat ((with_reducible refine And.intro ?_ ?_); (focus (exact zS))))
      refine GdL.use rfl (by simp only [sxu, ↓exq, ↓zB, Nat.reduceBEq]; exact hcall) (by simp only [stabOk]; (all_goals try exact zF)) ?_
      try simp only [↓sxd, sxu, ↓zC, zJ, Nat.reduceBEq, Nat.reduceLT]
      (repeat ((with_reducible refine And.intro ?_ ?_); (focus (exact zS))))
      refine GdD.mk _ (fun hg => by simp only [↓sxd, sxu, ↓exP, ↓exq]; (all_goals try exact zF)) ?_
      simp only [↓sxd, sxu, ↓zC, ↓exq, ↓zI, Nat.reduceBEq, Nat.reduceLT]
      (all_goals try exact zF)) ?_
  refine Tr.cond rfl (fun h32 => ?_) (fun h32 => ?_)
  · have hg : 0 < g := by simpa using h32
    obtain ⟨f', rfl, g1, g2, g3⟩ := hs1 hg
    refine Tr.skip ?_
    refine Tr.block ?_
    refine Tr.skip ?_
    exact ⟨_, _, Nat.lt_succ_self _, Imp.keep [0, 4, 5, 7], ⟨f', rows1, ⟨g2, g1, g3⟩, rfl, rfl⟩⟩
  · have hg : ¬ 0 < g := by simpa using h32
    have g4 := hs2 hg
    refine Tr.exit ?_
    refine Tr.reg [6] (by
        simp only [↓sxd, sxu, ↓zE, ↓exq, Nat.reduceBEq, Nat.reduceLT]
        (all_goals try exact zF)) ?_
    refine Tr.imp (Imp.go (tm' := [(6, .slc (nx + 2) 1 0 n n)]) (nx' := nx + 2 + 1 + n) (fun i => i) (MatH (nx + 2) n m rows1 hp) rfl rfl MatH_sub2 (fun _ _ => rfl) (fun _ h => h) zT ((MatH_fix (Nat.le_refl _) (hfix.mono (by omega))).f2 fun _ _ => rfl) (fun h => h)) ?_
    refine Tr.ret ?_
    exact ⟨.inr rfl, _, rfl, rfl, by rw [g4], rfl⟩
theorem reachedN_h {w : HW} {n m : Nat} (hw : w.Ok n m) {nx : Nat} {hp : HpT} (hfix : TnFix nx hp) {r c : Nat} (hr : r < n) (hc : c < m) (hh : w.h r c = false) (up : Bool) (fu : FuncId) :
  CallH Tryz.prog G0 71 [.dp w.d, .agg [I (r : Nat), I (c : Nat)], .agg [.clo (.func fu) [] []]] hp nx (Det (.slc (nx + 2) 1 0 n n) (MatH (nx + 2) n m (w.reach up r c) hp) (nx + 2 + 1 + n)) := by
  have hi3 := i3 hr hw.n3
  have hj4 := i4 hc hw.m4
  have e01 : (nx == nx + 1) = false := by simp
  have L0 : ∀ rw, (MatH (nx + 2) n m rw (hpR r c fu nx hp)).lookup nx = some (cbx r c) := fun rw => by
    rw [MatH_below (by omega), hpR, List.lookup_cons, e01, List.lookup_cons, beq_self_eq_true]
  have L1 : ∀ rw, (MatH (nx + 2) n m rw (hpR r c fu nx hp)).lookup (nx + 1) = some (xbx fu) := fun rw => by
    rw [MatH_below (by omega), hpR, List.lookup_cons, beq_self_eq_true]
  have hn3 := hw.n3
  have hm4 := hw.m4
  have hw0 := wd_hid hw.hl (show r < 3 by omega) (show c < 4 by omega)
  have hw1 := wd_hid0 hw.hl (show r < 3 by omega) (show c < 4 by omega)
  have hre : w.reach up r c = w.rows := by unfold HW.reach; rw [HW.reachF_not hh]
  refine CallH.body 34 [.tmp 6] Tryz.func71 (by kernel_rfl) rfl rfl rfl ?_
  refine Tr.reg [0, 4, 5] (by
      simp only [↓sxd, sxu, ↓zE, ↓exq, ↓zM, Nat.reduceBEq, Nat.reduceAdd, Nat.reduceLT, Nat.reduceEqDiff]
      (all_goals try exact zF)) ?_
  refine Tr.reg [0, 4, 5, 7] (by
      simp only [↓sxd, sxu, ↓zE, ↓exq, ↓zD, ↓zR, ↓zA, Nat.reduceLT, Nat.reduceEqDiff, tysH11_71]
      (repeat ((with_reducible refine And.intro ?_ ?_); (focus (exact zS))))
      refine CallH.mono (copied_h w.rows n m hw.dim (by omega) (by omega) (hpR r c fu nx hp) (nx + 2) (hpR_fix hfix (Nat.le_refl _))) ?_
      rintro r' hp' nx' ⟨rfl, rfl, rfl⟩
      try simp only [↓sxd, sxu, ↓zE, ↓exq, Nat.reduceBEq, Nat.reduceLT]
      (all_goals try exact zF)) ?_
  refine Tr.seq ?_
  refine Tr.imp (st' := ⟨[(0, .dp w.d), (4, .ptr nx 0 0), (5, .ptr (nx + 1) 0 0), (7, .slc (nx + 2) 1 0 n n)], MatH (nx + 2) n m w.rows (hpR r c fu nx hp), nx + 2 + 1 + n, 34, [], nx⟩) (Imp.keepAll) (Tr.block (Tr.loopI (fun mm ss => ∃ (f : Nat), (True) ∧ f = mm ∧ ss = ⟨[(0, .dp w.d), (4, .ptr nx 0 0), (5, .ptr (nx + 1) 0 0), (7, .slc (nx + 2) 1 0 n n)], MatH (nx + 2) n m w.rows (hpR r c fu nx hp), nx + 2 + 1 + n, 34, [], nx⟩) _ ⟨0, ?_, rfl, rfl⟩ ?_))
  · (repeat' (first | rfl | exact trivial | exact fun h => h | exact fun h => (by rw [h]; rfl) | apply And.intro | omega | exact Nat.le_of_ble_eq_true rfl))
  rintro mm ss ⟨f, hI, rfl, rfl⟩
  refine Tr.seq ?_
  refine Tr.regD [0, 1, 2, 3, 4, 5, 6, 7, 8, 9, 10, 11, 12, 13, 14, 15, 16, 17, 18] [] [] [0, 4, 5, 7, 32] mix (by kernel_rfl) (by
      simp only [↓sxd, sxu, ↓zC, zJ, ↓exq, ↓zD, ↓zR, ↓zA, Nat.reduceBEq, Nat.reduceAdd, Nat.reduceLT, Nat.reduceEqDiff, sxe, tysH11_71, L0, hi3, hj4, hw0, hw1, hh]
      iterate 7
        (repeat ((with_reducible refine And.intro ?_ ?_); (focus (exact zS))))
        refine GdD.mk .unk (fun hg => by cases hg) ?_
        try simp only [↓sxd, sxu, ↓zC, zJ, ↓exq, ↓zI, Nat.reduceBEq, Nat.reduceLT]
      (all_goals try exact zF)) ?_
  refine Tr.cond rfl (fun h32 => ?_) (fun h32 => ?_)
  · cases h32
  · refine Tr.exit ?_
    refine Tr.reg [6] (by
        simp only [↓sxd, sxu, ↓zE, ↓exq, Nat.reduceBEq, Nat.reduceLT]
        (all_goals try exact zF)) ?_
    refine Tr.imp (Imp.go (tm' := [(6, .slc (nx + 2) 1 0 n n)]) (nx' := nx + 2 + 1 + n) (fun i => i) (MatH (nx + 2) n m w.rows hp) rfl rfl MatH_sub2 (fun _ _ => rfl) (fun _ h => h) zT ((MatH_fix (Nat.le_refl _) (hfix.mono (by omega))).f2 fun _ _ => rfl) (fun h => h)) ?_
    refine Tr.ret ?_
    exact ⟨.inr rfl, _, rfl, rfl, by rw [hre], rfl⟩
theorem reachU_h {w : HW} {n m : Nat} (hw : w.Ok n m) {nx : Nat} {hp : HpT} (hfix : TnFix nx hp) {r c : Nat} (hr : r < n) (hc : c < m) :
    CallH Tryz.prog G0 71 [.dp w.d, .agg [I (r : Nat), I (c : Nat)], .agg [.clo (.func 72) [] []]] hp nx (Det (.slc (nx + 2) 1 0 n n) (MatH (nx + 2) n m (w.reach true r c) hp) (nx + 2 + 1 + n)) := by
  cases hh : w.h r c
  · exact reachedN_h hw hfix hr hc hh true _
  · exact reachedY_h hw hfix hh true _ fun rows hf => up_h hw hf (by omega) (hpR_fix hfix (by omega)) hr hc
theorem reachD_h {w : HW} {n m : Nat} (hw : w.Ok n m) {nx : Nat} {hp : HpT} (hfix : TnFix nx hp) {r c : Nat} (hr : r < n) (hc : c < m) :
    CallH Tryz.prog G0 71 [.dp w.d, .agg [I (r : Nat), I (c : Nat)], .agg [.clo (.func 73) [] []]] hp nx (Det (.slc (nx + 2) 1 0 n n) (MatH (nx + 2) n m (w.reach false r c) hp) (nx + 2 + 1 + n)) := by
  cases hh : w.h r c
  · exact reachedN_h hw hfix hr hc hh false _
  · exact reachedY_h hw hfix hh false _ fun rows hf => down_h hw hf (by omega) (hpR_fix hfix (by omega)) hr hc
theorem MatH_updbelow {o n m : Nat} {rows : Rows8} {hp : HpT} {k : Nat} {x : Sy.Obj} (hk : k < o) : upd (MatH o n m rows hp) k x = MatH o n m rows (upd hp k x) := by
  have key : ∀ b n, k < b → upd (rowsD b rows n ++ hp) k x = rowsD b rows n ++ upd hp k x := by
    intro b n hb
    induction n with
    | zero => rfl
    | succ n ih =>
      have : ¬ b + n = k := by omega
      show upd ((b + n, _) :: (rowsD b rows n ++ hp)) k x = _
      simp only [upd, this, if_false]
      rw [ih]; rfl
  have : ¬ o = k := by omega
  simp only [MatH, upd, this, if_false]
  rw [key _ _ (by omega)]
theorem ldRange {a b : SV} {id : Nat} {hp : HpT} (h : hp.lookup id = some (.arr 2 [[a, b]])) : zD Tryz.prog 60 (.ptr id 0 0) hp fun r => r = .agg [a, b] := by
  unfold zD
  rw [ty.agg60, ty.sz60]
  simp [h]
def bse (r c : Nat) (x y : Int) : HpT := [(1, .arr 2 [[I x, I y]]), (0, cbx r c)]
theorem bse_fix {r c : Nat} {x y : Int} {N : Nat} (hN : 2 ≤ N) : TnFix N (bse r c x y) :=
  TnFix.cons (by omega) (fun _ _ _ _ => TnO.arr zT) (TnFix.cons (by omega) (fun _ _ _ _ => TnO.arr zT) (TnFix.nil _))
abbrev tysH11_57 := And.intro ty.sz0 <| And.intro ty.agg0 <| And.intro ty.elem0 <| And.intro ty.sz3 <| And.intro ty.agg3 <| And.intro ty.elem3 <| And.intro ty.zero3 <| And.intro ty.und3 <| And.intro ty.sz22 <| And.intro ty.agg22 <| And.intro ty.elem22 <| And.intro ty.by22 <| And.intro ty.ez22 <| And.intro ty.zero22 <| And.intro ty.und22 <| And.intro ty.sz44 <| And.intro ty.agg44 <| And.intro ty.elem44 <| And.intro ty.by44 <| And.intro ty.ez44 <| And.intro ty.zero44 <| And.intro ty.und44 <| And.intro ty.sz60 <| And.intro ty.agg60 <| And.intro ty.fld60_0 <| And.intro ty.fld60_1 <| And.intro ty.elem60 <| And.intro ty.zero60 <| And.intro ty.pl60 <| And.intro ty.sz79 <| And.intro ty.agg79 <| And.intro ty.fld79_0 <| And.intro ty.fld79_1 <| And.intro ty.elem79 <| And.intro ty.zero79 <| And.intro ty.pl79 <| And.intro ty.sz83 <| And.intro ty.agg83 <| And.intro ty.elem83 <| And.intro ty.zero83 <| And.intro ty.sz120 <| And.intro ty.agg120 <| And.intro ty.fld120_0 <| And.intro ty.elem120 <| And.intro ty.zero120 <| ty.pl120
theorem bounds_c {w : HW} {n m : Nat} (hw : w.Ok n m) {r c : Nat} (hr : r < n) (hc : c < m) : CallP Tryz.prog G0 57 [.dp w.d, .agg [I (r : Nat), I (c : Nat)]] (Rng.mk (w.lo r c) (w.hi r c)).s := by
  have hdl := (hw.ends false r c).fit.dim
  have hdh := (hw.ends true r c).fit.dim
  have hll := hdl.2 r hr
  have hlh := hdh.2 r hr
  have hc1 := reachD_h hw (nx := 2) (bse_fix (r := r) (c := c) (x := 0) (y := 0) (Nat.le_refl _)) hr hc
  have hc2 := reachU_h hw (nx := 5 + n) (hp := MatH 4 n m (w.reach false r c) (bse r c 0 0)) (MatH_fix (by omega) (bse_fix (by omega))) hr hc
  have L0 : ∀ rl rh x y, (MatH (5 + n + 2) n m rh (MatH 4 n m rl (bse r c x y))).lookup 0 = some (cbx r c) := fun rl rh x y => by
    rw [MatH_below (by omega), MatH_below (by omega)]; rfl
  have L1 : ∀ rl rh x y, (MatH (5 + n + 2) n m rh (MatH 4 n m rl (bse r c x y))).lookup 1 = some (.arr 2 [[I x, I y]]) := fun rl rh x y => by
    rw [MatH_below (by omega), MatH_below (by omega)]; rfl
  have K0 : ∀ rl x y, (MatH 4 n m rl (bse r c x y)).lookup 0 = some (cbx r c) := fun rl x y => by
    rw [MatH_below (by omega)]; rfl
  have L4 : ∀ rl rh x y, (MatH (5 + n + 2) n m rh (MatH 4 n m rl (bse r c x y))).lookup 4 = some (.arr 1 (refsTo (4 + 1) m n)) := fun rl rh x y => by
    rw [MatH_below (by omega)]; exact (MatH_in 4 n m rl _).out
  have L4r : ∀ rl rh x y, (MatH (5 + n + 2) n m rh (MatH 4 n m rl (bse r c x y))).lookup (4 + 1 + r) = some (.arr 1 (vI (rl.getD r []))) := fun rl rh x y => by
    rw [MatH_below (by omega)]; exact MatH_look hr
  have Lo : ∀ rl rh x y, (MatH (5 + n + 2) n m rh (MatH 4 n m rl (bse r c x y))).lookup (5 + n + 2) = some (.arr 1 (refsTo (5 + n + 2 + 1) m n)) := fun rl rh x y => (MatH_in _ n m rh _).out
  have Lor : ∀ rl rh x y, (MatH (5 + n + 2) n m rh (MatH 4 n m rl (bse r c x y))).lookup (5 + n + 2 + 1 + r) = some (.arr 1 (vI (rh.getD r []))) := fun rl rh x y => MatH_look hr
  have U1 : ∀ rl rh x y x' y', upd (MatH (5 + n + 2) n m rh (MatH 4 n m rl (bse r c x y))) 1 (.arr 2 [[I x', I y']]) = MatH (5 + n + 2) n m rh (MatH 4 n m rl (bse r c x' y')) := fun rl rh x y x' y' => by
    rw [MatH_updbelow (by omega), MatH_updbelow (by omega)]; rfl
  have hr1 := refs_get (4 + 1) m n hr
  have hr2 := refs_get (5 + n + 2 + 1) m n hr
  have hv1 := vI_get (show c < ((w.reach false r c).getD r []).length by omega)
  have hv2 := vI_get (show c < ((w.reach true r c).getD r []).length by omega)
  show CallP Tryz.prog G0 57 [.dp w.d, .agg [I (r : Nat), I (c : Nat)]] (.agg [I (((w.reach false r c).getD r []).getD c 0), I (((w.reach true r c).getD r []).getD c 0)])
  generalize w.reach false r c = rl at *
  generalize w.reach true r c = rh at *
  refine CallP.body 34 [.cell 4 60] Tryz.func57 (by kernel_rfl) rfl rfl rfl zP zP ?_
  refine Tr.reg [0, 3, 4] (by
      simp only [↓sxd, sxu, ↓zE, ↓exq, ↓zN, ↓zM, Nat.reduceBEq, Nat.reduceAdd, Nat.reduceLT, Nat.reduceEqDiff, tysH11_57]
      (all_goals try exact zF)) ?_
  refine Tr.regD [5, 0, 1, 2, 3, 4, 6, 7, 8, 9] [3, 7] [5] [3, 4, 5, 6] mix (by kernel_rfl) (by
      simp only [↓sxd, sxu, ↓zC, zJ, ↓exq, ↓zD, ↓zO, Nat.reduceBEq, Nat.reduceAdd, Nat.reduceLT, tysH11_57]
      (repeat ((with_reducible refine And.intro ?_ ?_); (focus (exact zS))))
      refine CallL.use (hc1) (by simp only [stabOk, K0, Nat.reduceAdd]; (all_goals try exact zF)) ?_
      try simp only [↓sxd, sxu, ↓zC, zJ, ↓exq, ↓zO, Nat.reduceBEq, Nat.reduceAdd, Nat.reduceLT, tysH11_57]
      (repeat ((with_reducible refine And.intro ?_ ?_); (focus (exact zS))))
      refine CallL.use (hc2) (by simp only [stabOk, K0, L0]; (all_goals try exact zF)) ?_
      try simp only [↓sxd, sxu, ↓zC, zJ, ↓exq, Nat.reduceBEq, Nat.reduceLT]
      (all_goals try exact zF)) ?_
  refine Tr.regD [0, 1, 2, 3, 4, 5, 6, 7, 8, 9, 10, 11, 12, 13, 14, 15, 16, 17, 18, 19] [19] [] [4] mix (by kernel_rfl) (by
      simp only [↓sxd, sxu, ↓zC, zJ, ↓exq, ↓zD, ↓zO, ↓zA, Nat.reduceBEq, Nat.reduceAdd, Nat.reduceLT, Nat.reduceLeDiff, Nat.reduceEqDiff, sxe, tysH11_57, L0, L1, L4, L4r, Lo, Lor, U1, refs_len, vI_len, hr, hc, hll, hlh, hr1, hr2, hv1, hv2]
      (all_goals try exact zF)) ?_
  refine Tr.ret ?_
  exact ⟨.inr rfl, ldRange (L1 _ _ _ _)⟩
end Go.Proofs.YtijechcadlklhaaGreat
namespace Go.Proofs.YtijechcadlklhaaGreat
open Go.Sy
set_option maxRecDepth 8000
def vC (l : List HC) : List (List SV) := l.map fun c => [I c.row, I c.col]
theorem vC_len (l : List HC) : (vC l).length = l.length := by simp [vC]
theorem vC_snoc (l : List HC) (a b : Int) : vC (l ++ [⟨a, b⟩]) = vC l ++ [[I a, I b]] := by simp [vC]
theorem vC_tn {r : Nat → Nat} {hp hp' : HpT} (l : List HC) : F2 (F2 (TnS r hp hp')) (vC l) (vC l) := F2.map fun _ _ => .cons (TnS.d _) (.cons (TnS.d _) .nil)
theorem vC_fz {r : Nat → Nat} {hp hp' : HpT} (l : List HC) : F2 (F2 fun s x => TnS r hp hp' s (.d x)) (vC l) (dC l) := by
  rw [dC]; exact F2.map fun _ _ => .cons (TnS.d _) (.cons (TnS.d _) .nil)
theorem vC_eq (l : List HC) : ((dC l).map fun e => e.map SV.d) = vC l := by simp [vC, dC]
theorem vC_get {l : List HC} {k : Nat} (h : k < l.length) : (vC l).getD k [] = [I (l.getD k default).row, I (l.getD k default).col] := by simp [vC, List.getD_eq_getElem?_getD, h]
theorem grid_succ (n m : Nat) : gridC (n + 1) m = gridC n m ++ (List.range m).map fun c => (⟨(n : Nat), (c : Nat)⟩ : HC) := by
  simp [gridC, List.range_succ, List.flatMap_append]
theorem grid_len (m : Nat) : ∀ n, (gridC n m).length = n * m
  | 0 => by simp [gridC]
  | n + 1 => by rw [grid_succ, List.length_append, grid_len m n, List.length_map, List.length_range, Nat.succ_mul]
theorem grid_get {m r c : Nat} (hc : c < m) : ∀ n, r < n → (gridC n m)[r * m + c]? = some ⟨(r : Nat), (c : Nat)⟩
  | 0, h => by omega
  | n + 1, h => by
    rw [grid_succ]
    by_cases e : r < n
    · have : r * m + c < n * m := Nat.lt_of_lt_of_le (Nat.add_lt_add_left hc _) (by rw [← Nat.succ_mul]; exact Nat.mul_le_mul_right m e)
      rw [List.getElem?_append_left (by rw [grid_len]; exact this)]
      exact grid_get hc n e
    · have e' : r = n := by omega
      subst e'
      rw [List.getElem?_append_right (by rw [grid_len]; omega), grid_len]
      simp [hc]
def selC (p : HC → Bool) (n m k : Nat) : List HC := ((gridC n m).drop k).filter p
theorem sel_yes {p : HC → Bool} {n m r c : Nat} (hr : r < n) (hc : c < m) (h : p ⟨(r : Nat), (c : Nat)⟩ = true) : selC p n m (r * m + c) = ⟨(r : Nat), (c : Nat)⟩ :: selC p n m (r * m + (c + 1)) := by
  obtain ⟨h1, h2⟩ := List.getElem?_eq_some_iff.1 (grid_get hc n hr)
  unfold selC
  rw [List.drop_eq_getElem_cons h1, h2, List.filter_cons_of_pos h]
  rfl
theorem sel_no {p : HC → Bool} {n m r c : Nat} (hr : r < n) (hc : c < m) (h : p ⟨(r : Nat), (c : Nat)⟩ = false) : selC p n m (r * m + c) = selC p n m (r * m + (c + 1)) := by
  obtain ⟨h1, h2⟩ := List.getElem?_eq_some_iff.1 (grid_get hc n hr)
  unfold selC
  rw [List.drop_eq_getElem_cons h1, h2, List.filter_cons_of_neg (by rw [h]; decide)]
  rfl
theorem sel_end (p : HC → Bool) (n m : Nat) : selC p n m (n * m) = [] := by
  unfold selC
  rw [List.drop_eq_nil_of_le (by rw [grid_len]; exact Nat.le_refl _)]
  rfl
theorem sel_zero (p : HC → Bool) (n m : Nat) : selC p n m (0 * m) = (gridC n m).filter p := by simp [selC]
theorem sel_len {p : HC → Bool} {n m k : Nat} (hn : n ≤ 3) (hm : m ≤ 4) : (selC p n m k).length ≤ 12 := by
  unfold selC
  have h1 := List.length_filter_le p ((gridC n m).drop k)
  rw [List.length_drop, grid_len] at h1
  have : n * m ≤ 3 * 4 := Nat.mul_le_mul hn hm
  omega
theorem HW.Ok.dims {w : HW} {n m : Nat} (h : w.Ok n m) : w.rows.length = n ∧ (w.rows.getD 0 []).length = m := ⟨h.dim.1, h.dim.2 0 h.n0⟩
theorem free_sel {w : HW} {n m : Nat} (h : w.Ok n m) : w.free = selC (fun c => !w.h c.row.toNat c.col.toNat) n m (0 * m) := by
  rw [sel_zero, HW.free, h.dims.1, h.dims.2]
theorem cells_sel {w : HW} {n m : Nat} (h : w.Ok n m) : w.cells = selC (fun c => w.h c.row.toNat c.col.toNat) n m (0 * m) := by
  rw [sel_zero, HW.cells, h.dims.1, h.dims.2]
end Go.Proofs.YtijechcadlklhaaGreat
