/- Lemmas, part ZGP. Conditions: none. -/
import Derived.Test.YtijechcadlklhaaGreatZGO
set_option linter.unusedVariables false
namespace Go.Proofs.YtijechcadlklhaaGreat
open Go.Sy
set_option maxRecDepth 8000
def fr (F : List (Nat × List Value)) : HpT := F.map fun e => (e.1, .arr e.2.length [e.2.map fun v => .d (.lit v)])
abbrev capsW (z : Nat) : List SV := [.ptr (z + 3) 0 0, .ptr (z + 6) 0 0, .ptr z 0 0, .ptr (z + 1) 0 0, .ptr (z + 4) 0 0, .ptr (z + 7) 0 0]
def HBs (w : HW) (z o n : Nat) (frm to : HNode) (skip : Nat × Nat) (seen : List HNode) : HpT :=
  [(z + 7, .arr 1 [[.clo (.func 103) [] (capsW z)]]), (z + 6, .arr 1 [[.mapr (z + 5)]]), (z + 5, .map (sm seen)), (z + 4, .arr 2 [[I (skip.1 : Nat), I (skip.2 : Nat)]]), (z + 3, .arr 2 [[B to.1, I (to.2 : Nat)]]), (z + 2, .arr 2 [[B frm.1, I (frm.2 : Nat)]]), (z + 1, .arr 1 [[.slc o 1 0 n n]]), (z, .arr 1 [[.dp w.d]])]
def HB (w : HW) (z o n m : Nat) (frm to : HNode) (skip : Nat × Nat) (hp : HpT) (seen : List HNode) (rows : Rows8) : HpT := HBs w z o n frm to skip seen ++ MatH o n m rows hp
theorem fr_look {F : List (Nat × List Value)} {k : Nat} (h : ∀ e ∈ F, k ≠ e.1) (l : HpT) : (fr F ++ l).lookup k = l.lookup k := by
  induction F with
  | nil => rfl
  | cons e F ih =>
    show List.lookup k ((e.1, _) :: (fr F ++ l)) = _
    have : (k == e.1) = false := by simpa using h e List.mem_cons_self
    rw [List.lookup_cons, this]
    exact ih fun x hx => h x (List.mem_cons_of_mem _ hx)
theorem fr_upd {F : List (Nat × List Value)} {k : Nat} {o : Sy.Obj} (h : ∀ e ∈ F, k ≠ e.1) (l : HpT) : upd (fr F ++ l) k o = fr F ++ upd l k o := by
  induction F with
  | nil => rfl
  | cons e F ih =>
    have hne : ¬ e.1 = k := fun hc => h e List.mem_cons_self hc.symm
    show upd ((e.1, _) :: (fr F ++ l)) k o = _
    simp only [upd, hne, if_false]
    rw [ih fun x hx => h x (List.mem_cons_of_mem _ hx)]; rfl
theorem fr_fix {F : List (Nat × List Value)} {n : Nat} (h : ∀ e ∈ F, e.1 < n) : TnFix n (fr F) := by
  induction F with
  | nil => exact TnFix.nil _
  | cons e F ih => exact TnFix.cons (h e List.mem_cons_self) (fun r h1 h2 _ => TnO.arr (.cons (F2.map fun _ _ => TnS.d _) .nil)) (ih fun x hx => h x (List.mem_cons_of_mem _ hx))
theorem HBs_fix (w : HW) (z o n : Nat) (frm to : HNode) (skip : Nat × Nat) (seen : List HNode) (ho : o < z) : TnFix (z + 8) (HBs w z o n frm to skip seen) := by
  refine .cons (by omega) (fun r h1 h2 hr => TnO.arr (.cons (.cons (TnS.clo .nil (.cons (TnS.ptr (hr _ (by omega))) (.cons (TnS.ptr (hr _ (by omega))) (.cons (TnS.ptr (hr _ (by omega))) (.cons (TnS.ptr (hr _ (by omega))) (.cons (TnS.ptr (hr _ (by omega))) (.cons (TnS.ptr (hr _ (by omega))) .nil))))))) .nil) .nil)) ?_
  refine .cons (by omega) (fun r h1 h2 hr => TnO.arr (.cons (.cons (TnS.mapr (hr _ (by omega))) .nil) .nil)) ?_
  refine .cons (by omega) (fun r h1 h2 hr => TnO.map (F2.map fun _ _ => ⟨rfl, TnS.d _⟩)) ?_
  refine .cons (by omega) (fun r h1 h2 hr => TnO.arr (.cons (.cons (TnS.d _) (.cons (TnS.d _) .nil)) .nil)) ?_
  refine .cons (by omega) (fun r h1 h2 hr => TnO.arr (.cons (.cons (TnS.d _) (.cons (TnS.d _) .nil)) .nil)) ?_
  refine .cons (by omega) (fun r h1 h2 hr => TnO.arr (.cons (.cons (TnS.d _) (.cons (TnS.d _) .nil)) .nil)) ?_
  refine .cons (by omega) (fun r h1 h2 hr => TnO.arr (.cons (.cons (TnS.slc (hr _ (by omega))) .nil) .nil)) ?_
  exact .cons (by omega) (fun r h1 h2 hr => TnO.arr (.cons (.cons (TnS.dp _) .nil) .nil)) (.nil _)
theorem HBs_skip (w : HW) (z o n : Nat) (frm to : HNode) (skip : Nat × Nat) (seen : List HNode) {k : Nat} (hk : k < z) (l : HpT) : (HBs w z o n frm to skip seen ++ l).lookup k = l.lookup k := by
  have e : ∀ i, (k == z + i) = false := fun i => beq_eq_false_iff_ne.2 (by omega)
  have e0 : (k == z) = false := beq_eq_false_iff_ne.2 (by omega)
  simp only [HBs, List.cons_append, List.nil_append, List.lookup_cons, e, e0]
theorem HBs_updskip (w : HW) (z o n : Nat) (frm to : HNode) (skip : Nat × Nat) (seen : List HNode) {k : Nat} (hk : k < z) (x : Sy.Obj) (l : HpT) : upd (HBs w z o n frm to skip seen ++ l) k x = HBs w z o n frm to skip seen ++ upd l k x := by
  have e : ∀ i, ¬ z + i = k := fun i => by omega
  have e0 : ¬ z = k := by omega
  simp only [HBs, List.cons_append, List.nil_append, upd, e, e0, if_false]
theorem HB_upd (w : HW) (z o n m : Nat) (frm to : HNode) (skip : Nat × Nat) (hp : HpT) (seen seen' : List HNode) (rows : Rows8) : upd (HB w z o n m frm to skip hp seen rows) (z + 5) (.map (sm seen')) = HB w z o n m frm to skip hp seen' rows := by
  have e7 : ¬ z + 7 = z + 5 := by omega
  have e6 : ¬ z + 6 = z + 5 := by omega
  simp only [HB, HBs, List.cons_append, List.nil_append, upd, e7, e6, if_false, if_true]
theorem MatH_look {o n m : Nat} {rows : Rows8} {hp : HpT} {r : Nat} (hr : r < n) : (MatH o n m rows hp).lookup (o + 1 + r) = some (.arr 1 (vI (rows.getD r []))) := by
  have : (o + 1 + r == o) = false := beq_eq_false_iff_ne.2 (by omega)
  rw [MatH, List.lookup_cons, this]
  exact rowsD_look hp n hr
theorem MatH_upd {o n m : Nat} {rows : Rows8} {hp : HpT} {r : Nat} {x : List Int} (hr : r < n) (hl : r < rows.length) : upd (MatH o n m rows hp) (o + 1 + r) (.arr 1 (vI x)) = MatH o n m (rows.set r x) hp := by
  have : ¬ o = o + 1 + r := by omega
  rw [MatH, upd, if_neg this, rowsD_upd hl hp n hr]
  rfl
theorem MatH_in (o n m : Nat) (rows : Rows8) (hp : HpT) : RowsIn (MatH o n m rows hp) o n m rows :=
  ⟨by rw [MatH, List.lookup_cons, beq_self_eq_true], fun r hr => MatH_look hr⟩
theorem cellEq (c1 c2 s1 s2 : Nat) : ([((c1 : Nat) : Int), (c2 : Nat)] == [((s1 : Nat) : Int), (s2 : Nat)]) = (((c1, c2) : Nat × Nat) == (s1, s2)) := by
  by_cases h : c1 = s1 ∧ c2 = s2
  · obtain ⟨rfl, rfl⟩ := h; simp
  · have h1 : (((c1, c2) : Nat × Nat) == (s1, s2)) = false := beq_eq_false_iff_ne.2 fun e => h (by simpa using e)
    rw [h1]
    refine beq_eq_false_iff_ne.2 fun e => h ?_
    simp only [List.cons.injEq, and_true] at e
    omega
def WalkP (w : HW) (n m z o : Nat) (frm to : HNode) (skip : Nat × Nat) (hp : HpT) (f : Nat) : Prop := ∀ (a : HNode) (mo : Int) (seen : List HNode) (rows : Rows8) (F : List (Nat × List Value)) (nx : Nat), vOk n m a → 0 ≤ mo → mo ≤ 1000 → a ∉ seen → seen.Nodup → (∀ v ∈ seen, vOk n m v) → to ∉ seen → w.Fit n m rows → 8 ≤ f + seen.length → z + 8 ≤ nx → (∀ e ∈ F, z + 8 ≤ e.1 ∧ e.1 < nx) →
  CallH Tryz.prog G0 103 (nodeS' a :: I mo :: capsW z) (fr F ++ HB w z o n m frm to skip hp seen rows) nx (Det (I (walkS w to skip f a mo seen rows).1) (fr F ++ HB w z o n m frm to skip hp (walkS w to skip f a mo seen rows).2.1 (walkS w to skip f a mo seen rows).2.2) nx)
abbrev tysH9_103 := And.intro ty.sz0 <| And.intro ty.agg0 <| And.intro ty.elem0 <| And.intro ty.sz3 <| And.intro ty.agg3 <| And.intro ty.elem3 <| And.intro ty.zero3 <| And.intro ty.und3 <| And.intro ty.sz4 <| And.intro ty.agg4 <| And.intro ty.elem4 <| And.intro ty.zero4 <| And.intro ty.und4 <| And.intro ty.sz22 <| And.intro ty.agg22 <| And.intro ty.elem22 <| And.intro ty.by22 <| And.intro ty.ez22 <| And.intro ty.zero22 <| And.intro ty.und22 <| And.intro ty.sz32 <| And.intro ty.agg32 <| And.intro ty.fld32_0 <| And.intro ty.fld32_1 <| And.intro ty.elem32 <| And.intro ty.zero32 <| And.intro ty.pl32 <| And.intro ty.sz44 <| And.intro ty.agg44 <| And.intro ty.elem44 <| And.intro ty.by44 <| And.intro ty.ez44 <| And.intro ty.zero44 <| And.intro ty.und44 <| And.intro ty.sz79 <| And.intro ty.agg79 <| And.intro ty.fld79_0 <| And.intro ty.fld79_1 <| And.intro ty.elem79 <| And.intro ty.zero79 <| And.intro ty.pl79 <| And.intro ty.sz83 <| And.intro ty.agg83 <| And.intro ty.elem83 <| And.intro ty.zero83 <| And.intro ty.sz110 <| And.intro ty.agg110 <| And.intro ty.fld110_0 <| And.intro ty.fld110_1 <| And.intro ty.elem110 <| And.intro ty.zero110 <| And.intro ty.pl110 <| And.intro ty.sz134 <| And.intro ty.agg134 <| And.intro ty.fld134_0 <| And.intro ty.fld134_1 <| And.intro ty.elem134 <| And.intro ty.zero134 <| And.intro ty.pl134 <| And.intro ty.sz141 <| And.intro ty.agg141 <| And.intro ty.elem141 <| And.intro ty.zero141 <| And.intro ty.sz142 <| And.intro ty.agg142 <| And.intro ty.elem142 <| And.intro ty.zero142 <| And.intro ty.sz143 <| And.intro ty.agg143 <| ty.elem143
set_option maxHeartbeats 8000000 in
theorem walk_step {w : HW} {n m z o : Nat} {frm to : HNode} {skip : Nat × Nat} {hp : HpT} (hw : w.Ok n m) (hto : vOk n m to) (hoz : o + 1 + n ≤ z) (hfix : TnFix z hp) (f : Nat) (ih : WalkP w n m z o frm to skip hp f) : WalkP w n m z o frm to skip hp (f + 1) := by
  rintro ⟨ab, ai⟩ mo seen rows F nx ha hmo0 hmo1 hns hnd hok htn hfit hfu hzx hF
  have hl0 := fun k (hk : k < z + 8) (l : HpT) => fr_look (F := F) (k := k) (fun e he => by have := (hF e he).1; omega) l
  have hu0 := fun k (hk : k < z + 8) (x : Sy.Obj) (l : HpT) => fr_upd (F := F) (k := k) (o := x) (fun e he => by have := (hF e he).1; omega) l
  have Lz : ∀ sn rw, (fr F ++ HB w z o n m frm to skip hp sn rw).lookup z = some (.arr 1 [[.dp w.d]]) := fun sn rw => by
    have e : ∀ i, (z == z + (i + 1)) = false := fun i => beq_eq_false_iff_ne.2 (by omega)
    rw [hl0 z (by omega)]; simp only [HB, HBs, List.cons_append, List.lookup_cons, e 6, e 5, e 4, e 3, e 2, e 1, e 0, beq_self_eq_true]
  have L1 : ∀ sn rw, (fr F ++ HB w z o n m frm to skip hp sn rw).lookup (z + 1) = some (.arr 1 [[.slc o 1 0 n n]]) := fun sn rw => by
    have e : ∀ i, (z + 1 == z + (i + 2)) = false := fun i => beq_eq_false_iff_ne.2 (by omega)
    rw [hl0 _ (by omega)]; simp only [HB, HBs, List.cons_append, List.lookup_cons, e 5, e 4, e 3, e 2, e 1, e 0, beq_self_eq_true]
  have L3 : ∀ sn rw, (fr F ++ HB w z o n m frm to skip hp sn rw).lookup (z + 3) = some (.arr 2 [[B to.1, I (to.2 : Nat)]]) := fun sn rw => by
    have e : ∀ i, (z + 3 == z + (i + 4)) = false := fun i => beq_eq_false_iff_ne.2 (by omega)
    rw [hl0 _ (by omega)]; simp only [HB, HBs, List.cons_append, List.lookup_cons, e 3, e 2, e 1, e 0, beq_self_eq_true]
  have L4 : ∀ sn rw, (fr F ++ HB w z o n m frm to skip hp sn rw).lookup (z + 4) = some (.arr 2 [[I (skip.1 : Nat), I (skip.2 : Nat)]]) := fun sn rw => by
    have e : ∀ i, (z + 4 == z + (i + 5)) = false := fun i => beq_eq_false_iff_ne.2 (by omega)
    rw [hl0 _ (by omega)]; simp only [HB, HBs, List.cons_append, List.lookup_cons, e 2, e 1, e 0, beq_self_eq_true]
  have L5 : ∀ sn rw, (fr F ++ HB w z o n m frm to skip hp sn rw).lookup (z + 5) = some (.map (sm sn)) := fun sn rw => by
    have e : ∀ i, (z + 5 == z + (i + 6)) = false := fun i => beq_eq_false_iff_ne.2 (by omega)
    rw [hl0 _ (by omega)]; simp only [HB, HBs, List.cons_append, List.lookup_cons, e 1, e 0, beq_self_eq_true]
  have L6 : ∀ sn rw, (fr F ++ HB w z o n m frm to skip hp sn rw).lookup (z + 6) = some (.arr 1 [[.mapr (z + 5)]]) := fun sn rw => by
    have e : ∀ i, (z + 6 == z + (i + 7)) = false := fun i => beq_eq_false_iff_ne.2 (by omega)
    rw [hl0 _ (by omega)]; simp only [HB, HBs, List.cons_append, List.lookup_cons, e 0, beq_self_eq_true]
  have L7 : ∀ sn rw, (fr F ++ HB w z o n m frm to skip hp sn rw).lookup (z + 7) = some (.arr 1 [[.clo (.func 103) [] (capsW z)]]) := fun sn rw => by
    rw [hl0 _ (by omega)]; simp only [HB, HBs, List.cons_append, List.lookup_cons, beq_self_eq_true]
  have Lo : ∀ sn rw, (fr F ++ HB w z o n m frm to skip hp sn rw).lookup o = some (.arr 1 (refsTo (o + 1) m n)) := fun sn rw => by
    rw [hl0 _ (by omega), HB, HBs_skip _ _ _ _ _ _ _ _ (by omega)]; exact (MatH_in o n m rw hp).out
  have Lr : ∀ sn rw r, r < n → (fr F ++ HB w z o n m frm to skip hp sn rw).lookup (o + 1 + r) = some (.arr 1 (vI (rw.getD r []))) := fun sn rw r hr => by
    rw [hl0 _ (by omega), HB, HBs_skip _ _ _ _ _ _ _ _ (by omega)]; exact MatH_look hr
  have U5 : ∀ sn sn' rw, upd (fr F ++ HB w z o n m frm to skip hp sn rw) (z + 5) (.map (sm sn')) = fr F ++ HB w z o n m frm to skip hp sn' rw := fun sn sn' rw => by
    rw [hu0 _ (by omega), HB_upd]
  have Ur : ∀ sn rw r x, r < n → r < rw.length → upd (fr F ++ HB w z o n m frm to skip hp sn rw) (o + 1 + r) (.arr 1 (vI x)) = fr F ++ HB w z o n m frm to skip hp sn (rw.set r x) := fun sn rw r x hr hl => by
    rw [hu0 _ (by omega), HB, HBs_updskip _ _ _ _ _ _ _ _ (by omega), MatH_upd hr hl]; rfl
  have hA : ∀ sn rw, TnFix nx (fr F ++ HB w z o n m frm to skip hp sn rw) := fun sn rw =>
    TnFix.append (fr_fix fun e he => (hF e he).2) (TnFix.append ((HBs_fix w z o n frm to skip sn (by omega)).mono (by omega)) ((MatH_fix hoz hfix).mono (by omega)))
  have q00 : (z == nx) = false := beq_eq_false_iff_ne.2 (by omega)
  have q10 : (z + 1 == nx) = false := beq_eq_false_iff_ne.2 (by omega)
  have q20 : (z + 3 == nx) = false := beq_eq_false_iff_ne.2 (by omega)
  have q30 : (z + 4 == nx) = false := beq_eq_false_iff_ne.2 (by omega)
  have q40 : (z + 5 == nx) = false := beq_eq_false_iff_ne.2 (by omega)
  have q50 : (z + 6 == nx) = false := beq_eq_false_iff_ne.2 (by omega)
  have q60 : (z + 7 == nx) = false := beq_eq_false_iff_ne.2 (by omega)
  have q70 : (o == nx) = false := beq_eq_false_iff_ne.2 (by omega)
  have u0 : (nx = z + 5) = False := by simp; omega
  have q01 : (z == nx + 1) = false := beq_eq_false_iff_ne.2 (by omega)
  have q11 : (z + 1 == nx + 1) = false := beq_eq_false_iff_ne.2 (by omega)
  have q21 : (z + 3 == nx + 1) = false := beq_eq_false_iff_ne.2 (by omega)
  have q31 : (z + 4 == nx + 1) = false := beq_eq_false_iff_ne.2 (by omega)
  have q41 : (z + 5 == nx + 1) = false := beq_eq_false_iff_ne.2 (by omega)
  have q51 : (z + 6 == nx + 1) = false := beq_eq_false_iff_ne.2 (by omega)
  have q61 : (z + 7 == nx + 1) = false := beq_eq_false_iff_ne.2 (by omega)
  have q71 : (o == nx + 1) = false := beq_eq_false_iff_ne.2 (by omega)
  have u1 : (nx + 1 = z + 5) = False := by simp; omega
  have q02 : (z == nx + 4) = false := beq_eq_false_iff_ne.2 (by omega)
  have q12 : (z + 1 == nx + 4) = false := beq_eq_false_iff_ne.2 (by omega)
  have q22 : (z + 3 == nx + 4) = false := beq_eq_false_iff_ne.2 (by omega)
  have q32 : (z + 4 == nx + 4) = false := beq_eq_false_iff_ne.2 (by omega)
  have q42 : (z + 5 == nx + 4) = false := beq_eq_false_iff_ne.2 (by omega)
  have q52 : (z + 6 == nx + 4) = false := beq_eq_false_iff_ne.2 (by omega)
  have q62 : (z + 7 == nx + 4) = false := beq_eq_false_iff_ne.2 (by omega)
  have q72 : (o == nx + 4) = false := beq_eq_false_iff_ne.2 (by omega)
  have u2 : (nx + 4 = z + 5) = False := by simp; omega
  have q03 : (z == nx + 5) = false := beq_eq_false_iff_ne.2 (by omega)
  have q13 : (z + 1 == nx + 5) = false := beq_eq_false_iff_ne.2 (by omega)
  have q23 : (z + 3 == nx + 5) = false := beq_eq_false_iff_ne.2 (by omega)
  have q33 : (z + 4 == nx + 5) = false := beq_eq_false_iff_ne.2 (by omega)
  have q43 : (z + 5 == nx + 5) = false := beq_eq_false_iff_ne.2 (by omega)
  have q53 : (z + 6 == nx + 5) = false := beq_eq_false_iff_ne.2 (by omega)
  have q63 : (z + 7 == nx + 5) = false := beq_eq_false_iff_ne.2 (by omega)
  have q73 : (o == nx + 5) = false := beq_eq_false_iff_ne.2 (by omega)
  have u3 : (nx + 5 = z + 5) = False := by simp; omega
  have w01 : (nx == nx + 1) = false := beq_eq_false_iff_ne.2 (by omega)
  have w04 : (nx == nx + 4) = false := beq_eq_false_iff_ne.2 (by omega)
  have w05 : (nx == nx + 5) = false := beq_eq_false_iff_ne.2 (by omega)
  have w14 : (nx + 1 == nx + 4) = false := beq_eq_false_iff_ne.2 (by omega)
  have w15 : (nx + 1 == nx + 5) = false := beq_eq_false_iff_ne.2 (by omega)
  have w45 : (nx + 4 == nx + 5) = false := beq_eq_false_iff_ne.2 (by omega)
  have hn1 : w.rows.length = n := hw.dim.1
  have hm1 : (w.rows.getD 0 []).length = m := hw.dim.2 0 hw.n0
  have hp1 : 0 < w.rows.length := by rw [hn1]; exact hw.n0
  have hcap := hw.cap
  have hN : w.others (ab, ai) = if ab = true then n else m := hw.others (ab, ai)
  have hsp : mput (sm seen) (.agg #[.bool ab, .int .i64 (ai : Nat)]) (B true) = sm (seen ++ [(ab, ai)]) := sm_put (ab, ai) seen hns
  have hmk : MapOk Tryz.prog 141 (.agg #[.bool ab, .int .i64 (ai : Nat)] :: (sm seen).map (·.1)) := sm_ok seen (ab, ai)
  refine CallH.body 109 [.tmp 10] Tryz.func103 (by kernel_rfl) rfl rfl rfl ?_
  refine Tr.reg [1, 2, 3, 4, 5, 6, 7, 8] (by
      simp only [↓sxd, sxu, ↓zE, ↓exq, ↓zM, Nat.reduceBEq, Nat.reduceAdd, Nat.reduceLT, Nat.reduceEqDiff]
      (all_goals try exact zF)) ?_
  refine Tr.seq ?_
  refine Tr.regTs 3 [1, 3, 4, 5, 6, 7, 8, 19] rfl (RegT.cut 2 1 [1, 3, 4, 5, 6, 7, 8, 17, 18] (by decide) (by
    simp only [List.drop_zero, List.take_succ_cons, List.take_zero]
    simp only [↓sxd, sxu, ↓zE, ↓exq, ↓zD, Nat.reduceBEq, Nat.reduceAdd, Nat.reduceLT, tysH9_103, q20, L3]
    (repeat' (first | rfl | exact trivial | exact fun h => h | exact fun h => (by rw [h]; rfl) | apply And.intro | omega | exact Nat.le_of_ble_eq_true rfl))) (RegT.eqB (k := 2) rfl rfl rfl rfl (show 19 < 109 by decide) rfl rfl rfl rfl (eqNode (ab, ai) to) (RegT.nil rfl))) ?_
  refine Tr.cond rfl (fun h19 => ?_) (fun h19 => ?_)
  · have hto2 : (ab, ai) = to := by simpa using h19
    have hgo : walkS w to skip (f + 1) (ab, ai) mo seen rows = (mo, seen, rows) := by rw [walkS, if_pos (by simpa using hto2)]
    rw [hgo]
    refine Tr.reg [10] (by
        simp only [↓sxd, sxu, ↓zE, ↓exq, Nat.reduceBEq, Nat.reduceLT]
        (all_goals try exact zF)) ?_
    refine Tr.imp (Imp.go (tm' := [(10, I mo)]) (nx' := nx) (rg nx 1) (fr F ++ HB w z o n m frm to skip hp seen rows) rfl rfl (.cons _ (.refl _)) (fun id h => rg_lt h) (fun id h => by rw [rg_ge h]; show nx + 1 ≤ id + 1; omega) zT ((hA seen rows).f2 fun i hi => rg_lt hi) (fun h => h)) ?_
    refine Tr.ret ?_
    exact ⟨.inr rfl, I mo, rfl, rfl, rfl, rfl⟩
  · have hto2 : (ab, ai) ≠ to := by simpa using h19
    have hgo : walkS w to skip (f + 1) (ab, ai) mo seen rows = walkL w (walkS w to skip f) skip (ab, ai) mo 0 (if ab = true then n else m) (seen ++ [(ab, ai)]) rows := by rw [walkS, if_neg (by simpa using hto2), hN]
    rw [hgo]
    obtain ⟨fin, hfin⟩ : ∃ fin, fin = walkL w (walkS w to skip f) skip (ab, ai) mo 0 (if ab = true then n else m) (seen ++ [(ab, ai)]) rows := ⟨_, rfl⟩
    rw [← hfin]
    refine Tr.skip ?_
    refine Tr.reg [1, 3, 4, 5, 6, 7, 8] (by
        simp only [↓sxd, sxu, ↓zE, ↓exq, ↓zD, ↓zU, Nat.reduceBEq, Nat.reduceAdd, Nat.reduceLT, tysH9_103, q40, q50, u0, L5, L6, hsp, hmk, U5]
        (all_goals try exact zF)) ?_
    refine Tr.reg [1, 3, 4, 5, 6, 7, 8, 11] (by
        simp only [↓sxd, sxu, ↓zE, ↓exq, ↓zB, ↓zL, ↓zD, ↓zR, ↓zA, Nat.reduceBEq, Nat.reduceLT, Nat.reduceEqDiff, sxe, tysH9_103, q00, Lz, hn1]
        (all_goals try exact zF)) ?_
    refine Tr.seq ?_
    refine Tr.reg [1, 3, 4, 5, 6, 7, 8, 11, 31] (by
        simp only [↓sxd, sxu, ↓zE, ↓exq, ↓zK, ↓zD, ↓zA, Nat.reduceBEq, Nat.reduceAdd, Nat.reduceLT, Nat.reduceEqDiff, tysH9_103]
        (all_goals try exact zF)) ?_
    refine Tr.join2 (st' := ⟨[(1, I mo), (3, .ptr (z + 6) 0 0), (4, .ptr z 0 0), (5, .ptr (z + 1) 0 0), (6, .ptr (z + 4) 0 0), (7, .ptr (z + 7) 0 0), (8, .ptr nx 0 0), (11, I ((if ab = true then n else m : Nat) : Int))], (nx, .arr 2 [[B ab, I (ai : Nat)]]) :: (fr F ++ HB w z o n m frm to skip hp (seen ++ [(ab, ai)]) rows), nx + 1, 109, [], nx⟩) ?_ ?_
    ·
      refine Tr.cond rfl (fun h31 => ?_) (fun h31 => ?_)
      · obtain rfl : ab = false := by simpa using h31
        refine Tr.reg1 [1, 3, 4, 5, 6, 7, 8, 11] (by
            simp only [↓sxd, sxu, ↓zE, ↓exq, ↓zB, ↓zL, ↓zD, ↓zR, ↓zA, Nat.reduceBEq, Nat.reduceLT, Nat.reduceEqDiff, Int.reduceLE, sxe, tysH9_103, q00, Lz, hp1, hm1]
            (all_goals try exact zF)) ?_
        exact ⟨_, Imp.keep [1, 3, 4, 5, 6, 7, 8, 11], rfl⟩
      · obtain rfl : ab = true := by simpa using h31
        refine Tr.skip ?_
        exact ⟨_, Imp.keep [1, 3, 4, 5, 6, 7, 8, 11], rfl⟩
    refine Tr.seq ?_
    refine Tr.reg [1, 3, 4, 5, 6, 7, 8, 40, 41] (by
        simp only [↓sxd, sxu, ↓zE, ↓exq, Nat.reduceBEq, Nat.reduceLT]
        (all_goals try exact zF)) ?_
    refine Tr.imp (st' := ⟨[(1, I mo), (3, .ptr (z + 6) 0 0), (4, .ptr z 0 0), (5, .ptr (z + 1) 0 0), (6, .ptr (z + 4) 0 0), (7, .ptr (z + 7) 0 0), (8, .ptr nx 0 0), (40, I ((if ab = true then n else m : Nat) : Int)), (41, I 0)], (nx, .arr 2 [[B ab, I (ai : Nat)]]) :: (fr F ++ HB w z o n m frm to skip hp ((seen ++ [(ab, ai)])) rows), nx + 1, 109, [], nx⟩) (Imp.keepAll) (Tr.block (Tr.loopI (fun mm ss => ∃ (k : Nat) (sn : List HNode), (k ≤ (if ab = true then n else m) ∧ fin = walkL w (walkS w to skip f) skip (ab, ai) mo k ((if ab = true then n else m) - k) sn rows ∧ sn.Nodup ∧ (∀ v ∈ sn, vOk n m v) ∧ to ∉ sn ∧ (ab, ai) ∈ sn ∧ 8 ≤ f + sn.length) ∧ (if ab = true then n else m) - k = mm ∧ ss = ⟨[(1, I mo), (3, .ptr (z + 6) 0 0), (4, .ptr z 0 0), (5, .ptr (z + 1) 0 0), (6, .ptr (z + 4) 0 0), (7, .ptr (z + 7) 0 0), (8, .ptr nx 0 0), (40, I ((if ab = true then n else m : Nat) : Int)), (41, I k)], (nx, .arr 2 [[B ab, I (ai : Nat)]]) :: (fr F ++ HB w z o n m frm to skip hp sn rows), nx + 1, 109, [], nx⟩) _ ⟨0, (seen ++ [(ab, ai)]), ?_, rfl, rfl⟩ ?_))
    · refine ⟨Nat.zero_le _, hfin, ?_, ?_, ?_, by simp, by simp; omega⟩
      · rw [List.nodup_append]
        refine ⟨hnd, by simp, fun x hx y hy => ?_⟩
        rw [List.mem_singleton] at hy
        subst hy
        exact fun h => hns (h ▸ hx)
      · intro v hv
        rcases List.mem_append.1 hv with h | h
        · exact hok v h
        · rw [List.mem_singleton] at h; subst h; exact ha
      · intro h
        rcases List.mem_append.1 h with h | h
        · exact htn h
        · rw [List.mem_singleton] at h; exact hto2 h.symm
    rintro mm ss ⟨k, sn, hI, rfl, rfl⟩
    obtain ⟨hk, hfk, knd, kok, kto, kin, kfu⟩ := hI
    refine Tr.reg [1, 3, 4, 5, 6, 7, 8, 40, 41, 42] (by
        simp only [↓sxd, sxu, ↓zE, ↓exq, Nat.reduceBEq, Nat.reduceLT, sxe]
        (all_goals try exact zF)) ?_
    refine Tr.seq ?_
    refine Tr.cond rfl (fun h42 => ?_) (fun h42 => ?_)
    · have hlt : k < if ab = true then n else m := by have := of_decide_eq_true h42; omega
      have hfk2 : fin = walkL w (walkS w to skip f) skip (ab, ai) mo k ((if ab = true then n else m) - (k + 1) + 1) sn rows := by rw [hfk]; congr 1; omega
      rw [walkL] at hfk2
      have hk5 : k < 5 := by
        have := hw.n3
        have := hw.m4
        split at hlt <;> omega
      have hvk : vOk n m (!ab, k) := by cases ab <;> simpa [vOk] using hlt
      have hcok := ncell_ok (a := (ab, ai)) ha hlt
      have hrm0 := hw.room_nonneg hfit (ab, ai) (!ab, k)
      have hST : ∀ F', (∀ e ∈ F', z + 8 ≤ e.1 ∧ e.1 < nx + 2) → CallH Tryz.prog G0 104 [.dp w.d, .slc o 1 0 n n, .agg [B ab, I (ai : Nat)], .agg [B (!ab), I (k : Nat)]] (fr F' ++ HB w z o n m frm to skip hp sn rows) (nx + 2) (Det (.tup [.agg [I ((ncell (ab, ai) (!ab, k)).1 : Nat), I ((ncell (ab, ai) (!ab, k)).2 : Nat)], I (w.room rows (ab, ai) (!ab, k))]) ((nx + 2 + 2, .arr 2 [[I ((ncell (ab, ai) (!ab, k)).1 : Nat), I ((ncell (ab, ai) (!ab, k)).2 : Nat)]]) :: (fr F' ++ HB w z o n m frm to skip hp sn rows)) (nx + 2 + 3)) := fun F' hF' =>
        step_h (hp := fr F' ++ HB w z o n m frm to skip hp sn rows) (nx := nx + 2) hw hfit (o := o) ⟨by rw [fr_look (fun e he => by have := (hF' e he).1; omega), HB, HBs_skip _ _ _ _ _ _ _ _ (by omega)]; exact (MatH_in o n m rows hp).out, fun r hr => by rw [fr_look (fun e he => by have := (hF' e he).1; omega), HB, HBs_skip _ _ _ _ _ _ _ _ (by omega)]; exact MatH_look hr⟩ (by omega) (a := (ab, ai)) ha (k := k) hlt
      have hST2 : CallH Tryz.prog G0 104 [.dp w.d, .slc o 1 0 n n, .agg [B ab, I (ai : Nat)], .agg [B (!ab), I (k : Nat)]] ((nx + 1, .arr 2 [[B (!ab), I (k : Nat)]]) :: (nx, .arr 2 [[B ab, I (ai : Nat)]]) :: (fr F ++ HB w z o n m frm to skip hp sn rows)) (nx + 2) (Det (.tup [.agg [I ((ncell (ab, ai) (!ab, k)).1 : Nat), I ((ncell (ab, ai) (!ab, k)).2 : Nat)], I (w.room rows (ab, ai) (!ab, k))]) ((nx + 4, .arr 2 [[I ((ncell (ab, ai) (!ab, k)).1 : Nat), I ((ncell (ab, ai) (!ab, k)).2 : Nat)]]) :: (nx + 1, .arr 2 [[B (!ab), I (k : Nat)]]) :: (nx, .arr 2 [[B ab, I (ai : Nat)]]) :: (fr F ++ HB w z o n m frm to skip hp sn rows)) (nx + 5)) := hST ((nx + 1, [.bool (!ab), .int .i64 (k : Nat)]) :: (nx, [.bool ab, .int .i64 (ai : Nat)]) :: F) (fun e he => by
        rcases List.mem_cons.1 he with rfl | he
        · exact ⟨by show z + 8 ≤ nx + 1; omega, by show nx + 1 < nx + 2; omega⟩
        · rcases List.mem_cons.1 he with rfl | he
          · exact ⟨hzx, by show nx < nx + 2; omega⟩
          · have := hF e he; omega)
      have hsf : (mfind (sm sn) (.agg #[.bool (!ab), .int .i64 (k : Nat)])).getD (B false) = B (sn.contains (!ab, k)) := sm_find (!ab, k) sn
      have hmk2 : MapOk Tryz.prog 141 (.agg #[.bool (!ab), .int .i64 (k : Nat)] :: (sm sn).map (·.1)) := sm_ok sn (!ab, k)
      obtain ⟨s1, s2⟩ := skip
      have hlaw := fun hpos => walkS_law hw (to := to) (skip := (s1, s2)) f (!ab, k) (min (w.room rows (ab, ai) (!ab, k)) mo) sn rows hvk hpos
      have hIH := ih (!ab, k) (min (w.room rows (ab, ai) (!ab, k)) mo) sn rows
      simp only at hfk2
      generalize hcc : ncell (ab, ai) (!ab, k) = cc at hST2 hcok hfk2
      obtain ⟨c1, c2⟩ := cc
      simp only at hST2 hcok hfk2
      have p0 : (o + 1 + c1 == nx) = false := beq_eq_false_iff_ne.2 (by omega)
      have v0 : (nx = o + 1 + c1) = False := by simp; omega
      have p1 : (o + 1 + c1 == nx + 1) = false := beq_eq_false_iff_ne.2 (by omega)
      have v1 : (nx + 1 = o + 1 + c1) = False := by simp; omega
      have p2 : (o + 1 + c1 == nx + 4) = false := beq_eq_false_iff_ne.2 (by omega)
      have v2 : (nx + 4 = o + 1 + c1) = False := by simp; omega
      have p3 : (o + 1 + c1 == nx + 5) = false := beq_eq_false_iff_ne.2 (by omega)
      have v3 : (nx + 5 = o + 1 + c1) = False := by simp; omega
      refine Tr.skip ?_
      refine Tr.seq ?_
      refine Tr.block ?_
      refine Tr.reg [1, 3, 4, 5, 6, 7, 8, 12, 40, 41] (by
          simp only [↓sxd, sxu, ↓zE, ↓exq, Nat.reduceBEq, Nat.reduceLT]
          (all_goals try exact zF)) ?_
      refine Tr.reg [1, 3, 4, 5, 6, 7, 8, 13, 40, 41] (by
          simp only [↓sxd, sxu, ↓zE, ↓exq, ↓zK, ↓zD, ↓zN, ↓zO, ↓zA, Nat.reduceBEq, Nat.reduceAdd, Nat.reduceLT, Nat.reduceLeDiff, Nat.reduceEqDiff, tysH9_103]
          (all_goals try exact zF)) ?_
      refine Tr.reg [1, 3, 4, 5, 6, 7, 8, 13, 14, 15, 40, 41] (by
          simp only [↓sxd, sxu, ↓zE, ↓exq, ↓zD, Nat.reduceBEq, Nat.reduceAdd, Nat.reduceLT, tysH9_103, q00, q10, q01, q11, w01, Lz, L1]
          (repeat ((with_reducible refine And.intro ?_ ?_); (focus (exact zS))))
          refine CallH.mono hST2 ?_
          rintro r hp' nx' ⟨rfl, rfl, rfl⟩
          try simp only [↓sxd, sxu, ↓zE, ↓exq, ↓zH, ↓zN, Nat.reduceBEq, Nat.reduceAdd, Nat.reduceLT, Nat.reduceEqDiff, tysH9_103]
          (all_goals try exact zF)) ?_
      refine Tr.seq ?_
      refine Tr.reg [1, 3, 4, 5, 6, 7, 8, 13, 14, 15, 40, 41, 71] (by
          simp only [↓sxd, sxu, ↓zE, ↓exq, ↓zD, ↓zW, Nat.reduceBEq, Nat.reduceAdd, Nat.reduceLT, tysH9_103, q40, q50, q41, q51, q42, q52, q43, q53, w14, w15, L5, L6, hsf, hmk2, mzN]
          iterate 2
            (repeat ((with_reducible refine And.intro ?_ ?_); (focus (exact zS))))
            refine GdO.mk _ (fun hg => by simp only [sxu, ↓exq, ↓zD, Nat.reduceBEq, Nat.reduceAdd, Nat.reduceLT, tysH9_103, q30, q31, q32, q33, L4, hg]; (all_goals try exact zF)) ?_
            simp only [↓sxd, sxu, ↓zE, Nat.reduceBEq, Nat.reduceLT]
          (repeat ((with_reducible refine And.intro ?_ ?_); (focus (exact zS))))
          refine GdO.mk (B ([((c1 : Nat) : Int), (c2 : Nat)] == [((s1 : Nat) : Int), (s2 : Nat)])) (fun hg => by
            simp only [↓sxd, sxu, ↓exq, Nat.reduceBEq, hg, svInts]
            exact ⟨_, _, rfl, rfl, rfl, eqCell, rfl, trivial⟩) ?_
          try simp only [↓sxd, sxu, ↓zE, ↓exq, ↓zI, Nat.reduceBEq, Nat.reduceLT]
          iterate 3
            (repeat ((with_reducible refine And.intro ?_ ?_); (focus (exact zS))))
            refine GdO.mk _ (fun hg => by simp only [sxu, ↓exq, ↓zG, Nat.reduceBEq, Nat.reduceLeDiff, Nat.reduceEqDiff, tysH9_103, hg]; (all_goals try exact zF)) ?_
            simp only [↓sxd, sxu, ↓zE, Nat.reduceBEq, Nat.reduceLT]
          (repeat ((with_reducible refine And.intro ?_ ?_); (focus (exact zS))))
          refine GdO.mk _ (fun hg => by simp only [sxu, ↓exq, ↓zB, hg]; (repeat ((with_reducible refine And.intro ?_ ?_); (focus (exact zS)))); exact CallP.use (min2_c _ _) ⟨rfl, rfl, rfl⟩) ?_
          simp only [↓sxd, sxu, ↓zE, Nat.reduceBEq, Nat.reduceLT]
          (repeat ((with_reducible refine And.intro ?_ ?_); (focus (exact zS))))
          refine GdO.mk _ (fun hg => by simp only [↓sxd, sxu, ↓exq, hg]; (all_goals try exact zF)) ?_
          simp only [↓sxd, sxu, ↓zE, ↓exq, ↓zI, Nat.reduceBEq, Nat.reduceLT]
          (all_goals try exact zF)) ?_
      refine Tr.cond rfl (fun h71 => ?_) (fun h71 => ?_)
      · have hcd : (sn.contains (!ab, k) || ((c1, c2) : Nat × Nat) == (s1, s2) || min (w.room rows (ab, ai) (!ab, k)) mo == 0) = true := by rw [← cellEq]; exact h71
        rw [if_pos hcd] at hfk2
        have hnext : k + 1 ≤ (if ab = true then n else m) ∧ fin = walkL w (walkS w to (s1, s2) f) (s1, s2) (ab, ai) mo (k + 1) ((if ab = true then n else m) - (k + 1)) sn rows ∧ sn.Nodup ∧ (∀ v ∈ sn, vOk n m v) ∧ to ∉ sn ∧ (ab, ai) ∈ sn ∧ 8 ≤ f + sn.length := ⟨hlt, hfk2, knd, kok, kto, kin, kfu⟩
        refine Tr.exit ?_
        have w1 : IntKind.i64.wrap ((k : Int) + 1) = ((k + 1 : Nat) : Int) := by rw [wr (by omega) (by omega)]; rfl
        refine Tr.reg1 [1, 3, 4, 5, 6, 7, 8, 40, 41] (by
            simp only [↓sxd, sxu, ↓zE, ↓exq, Nat.reduceBEq, Nat.reduceLT, w1]
            (all_goals try exact zF)) ?_
        refine ⟨_, _, ?_, Imp.go (rg (nx + 1) 5) ((nx, .arr 2 [[B ab, I (ai : Nat)]]) :: (fr F ++ HB w z o n m frm to (s1, s2) hp _ _)) rfl rfl (.cons _ (.cons _ (.cons _ (.refl _)))) (fun id h => rg_lt (by have : id < nx := h; omega)) (fun id h => by rw [rg_ge h]; show nx + 6 ≤ id + 5; omega) ?_ (.cons ⟨(rg_lt (by show nx < nx + 1; omega)).symm, TnO.arr (.cons (.cons (TnS.d _) (.cons (TnS.d _) .nil)) .nil)⟩ ((hA _ _).f2 fun i hi => rg_lt (by omega))) (fun h => h), ⟨k + 1, _, hnext, rfl, rfl⟩⟩
        · omega
        · exact .cons rfl (TnS.d _) (.cons rfl (TnS.ptr (rg_lt (by omega))) (.cons rfl (TnS.ptr (rg_lt (by omega))) (.cons rfl (TnS.ptr (rg_lt (by omega))) (.cons rfl (TnS.ptr (rg_lt (by omega))) (.cons rfl (TnS.ptr (rg_lt (by omega))) (.cons rfl (TnS.ptr (rg_lt (by omega))) (.cons rfl (TnS.d _) (.cons rfl (TnS.d _) trivial))))))))
      · have hcd : (sn.contains (!ab, k) || ((c1, c2) : Nat × Nat) == (s1, s2) || min (w.room rows (ab, ai) (!ab, k)) mo == 0) = false := by rw [← cellEq]; exact h71
        rw [hcd] at hfk2
        simp only [Bool.false_eq_true, if_false] at hfk2
        simp only [Bool.or_eq_false_iff, beq_eq_false_iff_ne] at hcd
        obtain ⟨⟨hcd1, hcd2⟩, hcd3⟩ := hcd
        have hnc : (!ab, k) ∉ sn := fun hc => by rw [List.contains_iff_mem.2 hc] at hcd1; cases hcd1
        have hmp : 0 < min (w.room rows (ab, ai) (!ab, k)) mo := by omega
        have hlaw2 := hlaw hmp hnc knd kok kto hfit kfu
        have hIH2 : CallH Tryz.prog G0 103 (.agg [B (!ab), I (k : Nat)] :: I (min (w.room rows (ab, ai) (!ab, k)) mo) :: capsW z) ((nx + 5, .arr 2 [[I (c1 : Nat), I (c2 : Nat)]]) :: (nx + 4, .arr 2 [[I (c1 : Nat), I (c2 : Nat)]]) :: (nx + 1, .arr 2 [[B (!ab), I (k : Nat)]]) :: (nx, .arr 2 [[B ab, I (ai : Nat)]]) :: (fr F ++ HB w z o n m frm to (s1, s2) hp sn rows)) (nx + 6)
            (Det (I (walkS w to (s1, s2) f (!ab, k) (min (w.room rows (ab, ai) (!ab, k)) mo) sn rows).1) ((nx + 5, .arr 2 [[I (c1 : Nat), I (c2 : Nat)]]) :: (nx + 4, .arr 2 [[I (c1 : Nat), I (c2 : Nat)]]) :: (nx + 1, .arr 2 [[B (!ab), I (k : Nat)]]) :: (nx, .arr 2 [[B ab, I (ai : Nat)]]) :: (fr F ++ HB w z o n m frm to (s1, s2) hp (walkS w to (s1, s2) f (!ab, k) (min (w.room rows (ab, ai) (!ab, k)) mo) sn rows).2.1 (walkS w to (s1, s2) f (!ab, k) (min (w.room rows (ab, ai) (!ab, k)) mo) sn rows).2.2)) (nx + 6)) :=
          hIH ((nx + 5, [.int .i64 (c1 : Nat), .int .i64 (c2 : Nat)]) :: (nx + 4, [.int .i64 (c1 : Nat), .int .i64 (c2 : Nat)]) :: (nx + 1, [.bool (!ab), .int .i64 (k : Nat)]) :: (nx, [.bool ab, .int .i64 (ai : Nat)]) :: F) (nx + 6) hvk (by omega) (by omega) hnc knd kok kto hfit kfu (by omega) (fun e he => by
            rcases List.mem_cons.1 he with rfl | he
            · exact ⟨by show z + 8 ≤ nx + 5; omega, by show nx + 5 < nx + 6; omega⟩
            rcases List.mem_cons.1 he with rfl | he
            · exact ⟨by show z + 8 ≤ nx + 4; omega, by show nx + 4 < nx + 6; omega⟩
            rcases List.mem_cons.1 he with rfl | he
            · exact ⟨by show z + 8 ≤ nx + 1; omega, by show nx + 1 < nx + 6; omega⟩
            rcases List.mem_cons.1 he with rfl | he
            · exact ⟨by show z + 8 ≤ nx; omega, by show nx < nx + 6; omega⟩
            have := hF e he; omega)
        generalize walkS w to (s1, s2) f (!ab, k) (min (w.room rows (ab, ai) (!ab, k)) mo) sn rows = X at hlaw2 hIH2 hfk2
        obtain ⟨x1, sx, rx⟩ := X
        simp only at hIH2 hfk2
        refine Tr.skip ?_
        refine Tr.regD [0, 1, 2, 3, 4, 5, 6, 7] [6] [] [1, 3, 4, 5, 6, 7, 8, 14, 16, 40, 41] mix (by kernel_rfl) (by
            simp only [↓sxd, sxu, ↓zC, zJ, ↓exq, ↓zD, ↓zG, Nat.reduceBEq, Nat.reduceAdd, Nat.reduceLT, Nat.reduceLeDiff, Nat.reduceEqDiff, tysH9_103, q60, q61, q62, q63, w14, w15, L7]
            (repeat ((with_reducible refine And.intro ?_ ?_); (focus (exact zS))))
            refine CallD.use (min2_c _ _) ?_
            try simp only [↓sxd, sxu, ↓zC, Nat.reduceBEq, Nat.reduceLT]
            (repeat ((with_reducible refine And.intro ?_ ?_); (focus (exact zS))))
            refine CallL.use (hIH2) (by simp only [stabOk]; (all_goals try exact zF)) ?_
            try simp only [↓sxd, sxu, ↓zC, ↓exq, Nat.reduceBEq, Nat.reduceLT]
            (all_goals try exact zF)) ?_
        refine Tr.seq ?_
        refine Tr.reg [1, 3, 4, 5, 6, 7, 8, 14, 16, 40, 41, 80] (by
            simp only [↓sxd, sxu, ↓zE, ↓exq, Nat.reduceBEq, Nat.reduceLT]
            (all_goals try exact zF)) ?_
        refine Tr.cond rfl (fun h80 => ?_) (fun h80 => ?_)
        · have hx0 : x1 = 0 := by simpa using h80
          obtain ⟨z1, z2, z3, z4⟩ := hlaw2.resolve_right (fun hp2 => by have := hp2.pos; simp only at this; omega)
          obtain rfl : rx = rows := z2
          rw [if_pos (by simpa using hx0)] at hfk2
          have hln := nodup_len sn sx knd z4.sub
          have hnext : k + 1 ≤ (if ab = true then n else m) ∧ fin = walkL w (walkS w to (s1, s2) f) (s1, s2) (ab, ai) mo (k + 1) ((if ab = true then n else m) - (k + 1)) sx rx ∧ sx.Nodup ∧ (∀ v ∈ sx, vOk n m v) ∧ to ∉ sx ∧ (ab, ai) ∈ sx ∧ 8 ≤ f + sx.length := ⟨hlt, hfk2, z4.nd, z4.ok, z4.notto, z4.sub _ kin, by omega⟩
          refine Tr.exit ?_
          have w1 : IntKind.i64.wrap ((k : Int) + 1) = ((k + 1 : Nat) : Int) := by rw [wr (by omega) (by omega)]; rfl
          refine Tr.reg1 [1, 3, 4, 5, 6, 7, 8, 40, 41] (by
              simp only [↓sxd, sxu, ↓zE, ↓exq, Nat.reduceBEq, Nat.reduceLT, w1]
              (all_goals try exact zF)) ?_
          refine ⟨_, _, ?_, Imp.go (rg (nx + 1) 5) ((nx, .arr 2 [[B ab, I (ai : Nat)]]) :: (fr F ++ HB w z o n m frm to (s1, s2) hp _ _)) rfl rfl (.cons _ (.cons _ (.cons _ (.refl _)))) (fun id h => rg_lt (by have : id < nx := h; omega)) (fun id h => by rw [rg_ge h]; show nx + 6 ≤ id + 5; omega) ?_ (.cons ⟨(rg_lt (by show nx < nx + 1; omega)).symm, TnO.arr (.cons (.cons (TnS.d _) (.cons (TnS.d _) .nil)) .nil)⟩ ((hA _ _).f2 fun i hi => rg_lt (by omega))) (fun h => h), ⟨k + 1, _, hnext, rfl, rfl⟩⟩
          · omega
          · exact .cons rfl (TnS.d _) (.cons rfl (TnS.ptr (rg_lt (by omega))) (.cons rfl (TnS.ptr (rg_lt (by omega))) (.cons rfl (TnS.ptr (rg_lt (by omega))) (.cons rfl (TnS.ptr (rg_lt (by omega))) (.cons rfl (TnS.ptr (rg_lt (by omega))) (.cons rfl (TnS.ptr (rg_lt (by omega))) (.cons rfl (TnS.d _) (.cons rfl (TnS.d _) trivial))))))))
        · have hx0 : ¬ x1 = 0 := by simpa using h80
          rcases hlaw2 with ⟨z1, z2, z3, z4⟩ | hp2
          · exact absurd z1 hx0
          rw [if_neg (by simpa using hx0)] at hfk2
          have hxp := hp2.pos
          have hxl := hp2.le
          have hxf := hp2.fit
          simp only at hxp hxl hxf
          have hbd := hxf.cell c1 c2 hcok.1 hcok.2
          have hrlen : (rx.getD c1 []).length = m := hxf.dim.2 c1 hcok.1
          have hrl : c1 < rx.length := by rw [hxf.dim.1]; exact hcok.1
          have hwa : IntKind.i64.wrap ((rx.getD c1 []).getD c2 0 + x1) = cellAt rx c1 c2 + x1 := wr (by unfold cellAt at hbd; omega) (by unfold cellAt at hbd; omega)
          have hws : IntKind.i64.wrap ((rx.getD c1 []).getD c2 0 - x1) = cellAt rx c1 c2 + -x1 := by rw [wr (by unfold cellAt at hbd; omega) (by unfold cellAt at hbd; omega)]; unfold cellAt; omega
          have hrg := refs_get (o + 1) m n hcok.1
          have hvg := vI_get (show c2 < (rx.getD c1 []).length by rw [hrlen]; exact hcok.2)
          have hlr := Lr sx rx c1 hcok.1
          have hur := fun x => Ur sx rx c1 x hcok.1 hrl
          refine Tr.skip ?_
          refine Tr.seq ?_
          refine Tr.reg [5, 14, 16, 82] (by
              simp only [↓sxd, sxu, ↓zE, ↓exq, ↓zD, ↓zA, Nat.reduceBEq, Nat.reduceAdd, Nat.reduceLT, Nat.reduceEqDiff, tysH9_103, w01, w04, w05]
              (all_goals try exact zF)) ?_
          refine Tr.cond rfl (fun h82 => ?_) (fun h82 => ?_)
          · refine Tr.regD1 [0, 1, 2, 3, 4, 5, 6, 7, 8, 9, 10, 11, 12] [12] [] [16] mix (by kernel_rfl) (by
                simp only [↓sxd, sxu, ↓zC, zJ, ↓exq, ↓zD, ↓zA, Nat.reduceBEq, Nat.reduceAdd, Nat.reduceLT, Nat.reduceEqDiff, sxe, tysH9_103, q10, q70, q11, q71, q12, q72, q13, q73, L1, Lo, p0, v0, p1, v1, p2, v2, p3, v3, hrg, hvg, hlr, hur, refs_len, vI_len, hrlen, hcok.1, hcok.2, hws, vI_set]
                (all_goals try exact zF)) ?_
            refine Tr.reg [10] (by
                simp only [↓sxd, sxu, ↓zE, ↓exq, Nat.reduceLT]
                (all_goals try exact zF)) ?_
            subst hfk2
            refine Tr.imp (Imp.go (tm' := [(10, I x1)]) (nx' := nx) (rg nx 6) (fr F ++ HB w z o n m frm to (s1, s2) hp sx _) rfl rfl (.cons _ (.cons _ (.cons _ (.cons _ (.refl _))))) (fun id h => rg_lt h) (fun id h => by rw [rg_ge h]; show nx + 6 ≤ id + 6; omega) zT ((hA sx _).f2 fun i hi => rg_lt hi) (fun h => h)) ?_
            refine Tr.ret ?_
            exact ⟨.inr rfl, I x1, rfl, rfl, by simp only [h82, if_true]; rfl, rfl⟩
          · refine Tr.regD1 [0, 1, 2, 3, 4, 5, 6, 7, 8, 9, 10, 11, 12] [12] [] [16] mix (by kernel_rfl) (by
                simp only [↓sxd, sxu, ↓zC, zJ, ↓exq, ↓zD, ↓zA, Nat.reduceBEq, Nat.reduceAdd, Nat.reduceLT, Nat.reduceEqDiff, sxe, tysH9_103, q10, q70, q11, q71, q12, q72, q13, q73, L1, Lo, p0, v0, p1, v1, p2, v2, p3, v3, hrg, hvg, hlr, hur, refs_len, vI_len, hrlen, hcok.1, hcok.2, hwa, vI_set]
                (all_goals try exact zF)) ?_
            refine Tr.reg [10] (by
                simp only [↓sxd, sxu, ↓zE, ↓exq, Nat.reduceLT]
                (all_goals try exact zF)) ?_
            subst hfk2
            refine Tr.imp (Imp.go (tm' := [(10, I x1)]) (nx' := nx) (rg nx 6) (fr F ++ HB w z o n m frm to (s1, s2) hp sx _) rfl rfl (.cons _ (.cons _ (.cons _ (.cons _ (.refl _))))) (fun id h => rg_lt h) (fun id h => by rw [rg_ge h]; show nx + 6 ≤ id + 6; omega) zT ((hA sx _).f2 fun i hi => rg_lt hi) (fun h => h)) ?_
            refine Tr.ret ?_
            exact ⟨.inr rfl, I x1, rfl, rfl, by simp only [h82, Bool.false_eq_true, if_false]; rfl, rfl⟩
    · have hge : k = if ab = true then n else m := by have := of_decide_eq_false h42; omega
      refine Tr.exit ?_
      refine Tr.reg [10] (by
          simp only [↓sxd, sxu, ↓zE, ↓exq, Nat.reduceLT]
          (all_goals try exact zF)) ?_
      subst hge
      rw [Nat.sub_self, walkL] at hfk
      subst hfk
      refine Tr.imp (Imp.go (tm' := [(10, I 0)]) (nx' := nx) (rg nx 1) (fr F ++ HB w z o n m frm to skip hp sn rows) rfl rfl (.cons _ (.refl _)) (fun id h => rg_lt h) (fun id h => by rw [rg_ge h]; show nx + 1 ≤ id + 1; omega) zT ((hA sn rows).f2 fun i hi => rg_lt hi) (fun h => h)) ?_
      refine Tr.ret ?_
      exact ⟨.inr rfl, I 0, rfl, rfl, rfl, rfl⟩
theorem walk_h {w : HW} {n m z o : Nat} {frm to : HNode} {skip : Nat × Nat} {hp : HpT} (hw : w.Ok n m) (hto : vOk n m to) (hoz : o + 1 + n ≤ z) (hfix : TnFix z hp) : ∀ f, WalkP w n m z o frm to skip hp f
  | 0 => fun a mo seen rows F nx ha h0 h1 hns hnd hok htn hfit hfu _ _ => by
    exfalso
    have := seen_len (n := n) (m := m) (l := a :: seen) (List.nodup_cons.2 ⟨hns, hnd⟩) (fun v hv => by
      rcases List.mem_cons.1 hv with rfl | h
      · exact ha
      · exact hok v h)
    have h3 := hw.n3
    have h4 := hw.m4
    simp only [List.length_cons] at this
    omega
  | f + 1 => walk_step hw hto hoz hfix f (walk_h hw hto hoz hfix f)
end Go.Proofs.YtijechcadlklhaaGreat
namespace Go.Sy
theorem Imp.perm {st : St} {hp' : HpT} (h : hp'.Perm st.hp) : Imp st ⟨st.tm, hp', st.nx, st.nt, st.df, st.nb⟩ := by
  intro G O₀ M pb pl a w hR
  have own : ownOf pl hp' = ownOf pl st.hp := funext fun B => propext ⟨fun ⟨p, h1, h2⟩ => ⟨p, h.mem_iff.1 h1, h2⟩, fun ⟨p, h1, h2⟩ => ⟨p, h.mem_iff.2 h1, h2⟩⟩
  have ok : okOf (Ox O₀ a) pl hp' = okOf (Ox O₀ a) pl st.hp := by funext B; simp only [okOf, own]
  refine ⟨pl, ⟨⟨fun p hp => ?_, ?_, hR.hs.fresh, hR.hs.old, hR.hs.base, fun g cs hg => ?_⟩, ?_, hR.nt, hR.df, hR.bd⟩, fun B hB => ?_⟩
  · rw [ok]; exact hR.hs.obj p (h.mem_iff.1 hp)
  · refine (List.Perm.pairwise_iff ?_ h).2 hR.hs.apart
    intro p p' hpp
    exact ⟨hpp.1.symm, fun q q' h1 h2 t1 t2 => (hpp.2 q' q h2 h1 t2 t1).symm⟩
  · rw [ok]; exact hR.hs.glob g cs hg
  · show TmR pl (okOf (Ox O₀ a) pl hp') w st.tm a.tmps
    rw [ok]; exact hR.tm
  · show ownOf pl st.hp B
    rw [← own]; exact hB
end Go.Sy
