/- Lemmas, part ZGBA. Conditions: none. -/
import Derived.Test.YtijechcadlklhaaGreatZGW
import Derived.Test.YtijechcadlklhaaGreatZGY
set_option linter.unusedVariables false
namespace Go.Proofs.YtijechcadlklhaaGreat
open Go.Sy
set_option maxRecDepth 8000
abbrev tysZ9_32 := And.intro ty.sz0 <| And.intro ty.agg0 <| And.intro ty.elem0 <| And.intro ty.sz3 <| And.intro ty.agg3 <| And.intro ty.elem3 <| And.intro ty.zero3 <| And.intro ty.und3 <| And.intro ty.sz4 <| And.intro ty.agg4 <| And.intro ty.elem4 <| And.intro ty.zero4 <| And.intro ty.und4 <| And.intro ty.sz22 <| And.intro ty.agg22 <| And.intro ty.elem22 <| And.intro ty.by22 <| And.intro ty.ez22 <| And.intro ty.zero22 <| And.intro ty.und22 <| And.intro ty.sz44 <| And.intro ty.agg44 <| And.intro ty.elem44 <| And.intro ty.by44 <| And.intro ty.ez44 <| And.intro ty.zero44 <| ty.und44
theorem lrows_h (rows : Rows8) (n m : Nat) (hd : Dim n m rows) (hn : n ≤ 1000) (hm : m ≤ 1000) (hp : HpT) (nx : Nat) (hfix : TnFix nx hp) : CallH Tryz.prog G0 32 [SL rows] hp nx (Det (.slc nx 1 0 n n) (MatH nx n m rows hp) (nx + 1 + n)) := by
  refine CallH.body 21 [.tmp 2] Tryz.func32 (by kernel_rfl) rfl rfl rfl ?_
  refine Tr.reg [0] (by
      simp only [↓sxd, sxu, ↓zE, ↓exq, Nat.reduceBEq, Nat.reduceLT]
      (all_goals try exact zF)) ?_
  refine Tr.reg [0, 3] (by
      simp only [↓sxd, sxu, ↓zE, ↓exq, Nat.reduceBEq, Nat.reduceLT]
      (all_goals try exact zF)) ?_
  refine Tr.seq ?_
  refine Tr.reg [0, 3, 4] (by
      simp only [↓sxd, sxu, ↓zE, ↓exq, Nat.reduceBEq, Nat.reduceLT]
      (all_goals try exact zF)) ?_
  refine Tr.imp (st' := ⟨[(0, SL rows), (3, .slc nx 1 0 0 0), (4, I 0)], MatH nx 0 m rows hp, nx + 1 + 0, 21, [], nx⟩) (Imp.goV 1 rfl rfl rfl rfl (by repeat' (first | exact trivial | exact F2.nil | refine F2.cons ?_ ?_ | refine TmV.cons rfl VnS.nil ?_ | refine TmV.cons rfl VnS.same ?_ | refine ⟨rfl, ?_⟩ | exact VnO.same _ | refine VnO.arr ?_ | exact VnS.nil | exact VnS.same | exact F2.refl fun _ _ => VnS.same)) (F2.refl fun _ _ => ⟨rfl, VnO.same _⟩)) (Tr.block (Tr.loopI (fun mm ss => ∃ (k : Nat), (k ≤ n) ∧ n - k = mm ∧ ss = ⟨[(0, SL rows), (3, .slc nx 1 0 k k), (4, I k)], MatH nx k m rows hp, nx + 1 + k, 21, [], nx⟩) _ ⟨0, ?_, rfl, rfl⟩ ?_))
  · exact Nat.zero_le _
  rintro mm ss ⟨k, hI, rfl, rfl⟩
  refine Tr.seq ?_
  refine Tr.reg [0, 3, 4, 8] (by
      simp only [↓sxd, sxu, ↓zE, ↓exq, ↓zB, ↓zL, Nat.reduceBEq, Nat.reduceLT, sxe, tysZ9_32]
      (all_goals try exact zF)) ?_
  refine Tr.cond rfl (fun h8 => ?_) (fun h8 => ?_)
  · have hlt : k < rows.length := by simpa using h8
    have hkl : k < n := by have := hd.1; omega
    have hrl := hd.2 k hkl
    have a1 : (nx == nx + 1 + k + 1) = false := beq_eq_false_iff_ne.2 (by omega)
    have a2 : (nx == nx + 1 + k) = false := beq_eq_false_iff_ne.2 (by omega)
    have a3 : (nx + 1 + k + 1 = nx) = False := by simp; omega
    have a4 : (nx + 1 + k = nx) = False := by simp; omega
    have a6 : (nx == nx + 1 + k + 1 + 1) = false := beq_eq_false_iff_ne.2 (by omega)
    have a7 : (nx + 1 + k + 1 + 1 = nx) = False := by simp; omega
    have a5 := le_refs (nx + 1) m k (by omega)
    have hm2 : (m ≤ 1073741824) = True := eq_true (by omega)
    refine Tr.skip ?_
    refine Tr.seq ?_
    refine Tr.block ?_
    refine Tr.reg1 [0, 3, 4] (by
        simp only [↓sxd, sxu, ↓zE, ↓exq, ↓zB, ↓zD, ↓zG, ↓zQ, Nat.reduceBEq, Nat.reduceLT, Nat.reduceLeDiff, Nat.reduceEqDiff, sxe, tysZ9_32, hlt, src_vI, vI_all, vI_len, hrl, hm2, MatH, a1, a2, a3, a4, k_refs, a5]
        (all_goals try exact zF)) ?_
    have w1 : IntKind.i64.wrap ((k : Int) + 1) = ((k + 1 : Nat) : Int) := by rw [wr (by omega) (by omega)]; rfl
    refine Tr.reg1 [0, 3, 4] (by
        simp only [↓sxd, sxu, ↓zE, ↓exq, Nat.reduceBEq, Nat.reduceLT, w1]
        (all_goals try exact zF)) ?_
    have hro : ∀ i, i < nx + 2 + k → i ≠ nx → (if i = nx then nx + 1 + k + 1 + 1 else if i < nx + 2 + k then i else i + 2) = i := fun i h1 h2 => by rw [if_neg h2, if_pos h1]
    refine ⟨_, _, ?_, Imp.go (tm' := [(0, SL rows), (3, .slc nx 1 0 (k + 1) (k + 1)), (4, I ((k + 1 : Nat) : Int))]) (hp'' := MatH nx (k + 1) m rows hp) (nx' := nx + 1 + (k + 1)) (fun i => if i = nx then nx + 1 + k + 1 + 1 else if i < nx + 2 + k then i else i + 2) ((nx + 1 + k + 1 + 1, .arr 1 (refsTo (nx + 1) m k ++ [[.slc (nx + 1 + k) 1 0 m m]])) :: (nx + 1 + k, .arr 1 (vI (rows.getD k []))) :: (rowsD (nx + 1) rows k ++ hp)) rfl rfl (.cons_cons _ (.cons _ (.refl _))) (fun id h => hro id (by have : id < nx := h; omega) (by have : id < nx := h; omega)) (fun id h => by
        have e : (if id = nx then nx + 1 + k + 1 + 1 else if id < nx + 2 + k then id else id + 2) = id + 2 := by rw [if_neg (by omega), if_neg (by omega)]
        simp only [e]
        show nx + 1 + k + 1 + 1 + 1 ≤ id + 2
        omega) ?_ ?_ (fun h => h), ⟨k + 1, by omega, rfl, rfl⟩⟩
    · omega
    · exact .cons rfl (TnS.d _) (.cons rfl (TnS.slc (if_pos rfl)) (.cons rfl (TnS.d _) trivial))
    · refine .cons ⟨(if_pos rfl).symm, TnO.arr (F2.append (refs_tn k fun i h0 hi => hro i (by omega) (by omega)) (.cons (.cons (TnS.slc (hro _ (by omega) (by omega))) .nil) .nil))⟩ (.cons ⟨(hro _ (by omega) (by omega)).symm, TnO.arr (F2.map fun _ _ => .cons (TnS.d _) .nil)⟩ (F2.append (rowsD_f2 k fun i h0 hi => hro i (by omega) (by omega)) (hfix.f2 fun i hi => hro i (by omega) (by omega))))
  · have hge : k = n := by have := hd.1; simp at h8; omega
    refine Tr.exit ?_
    refine Tr.reg [2] (by
        simp only [↓sxd, sxu, ↓zE, ↓exq, Nat.reduceBEq, Nat.reduceLT]
        (all_goals try exact zF)) ?_
    refine Tr.ret ?_
    subst hge
    exact ⟨.inr rfl, _, rfl, rfl, rfl, rfl⟩
theorem MatH_low {o n m : Nat} {rows : Rows8} {hp : HpT} {k : Nat} (hk : k < o) : (MatH o n m rows hp).lookup k = hp.lookup k := by
  have : (k == o) = false := beq_eq_false_iff_ne.2 (by omega)
  rw [MatH, List.lookup_cons, this]
  exact rowsD_skip hp n (by omega)
theorem upd_step {n m : Nat} {R : Rows8} {hp : HpT} (hd : Dim n m R) {r : Nat} (c : Nat) (hr : r < n) (g : Int) : upd (MatH 1 n m R hp) (2 + r) (.arr 1 (vI ((R.getD r []).set c (cellAt R r c + g)))) = MatH 1 n m (addAt R r c g) hp := MatH_upd (o := 1) hr (by rw [hd.1]; exact hr)
theorem addAt_bnd {n m : Nat} {R : Rows8} (hd : Dim n m R) {r c : Nat} (hr : r < n) (hc : c < m) {g lo hi : Int} (h : ∀ i j, i < n → j < m → lo ≤ cellAt R i j ∧ cellAt R i j ≤ hi) (hg : -255 ≤ g ∧ g ≤ 255) : ∀ i j, i < n → j < m → lo - 255 ≤ cellAt (addAt R r c g) i j ∧ cellAt (addAt R r c g) i j ≤ hi + 255 := fun i j h1 h2 => by
  have := h i j h1 h2
  have h3 := h r c hr hc
  rw [cellAt_add hd hr hc]
  split <;> omega
abbrev tysZ9_35 := And.intro ty.sz0 <| And.intro ty.agg0 <| And.intro ty.elem0 <| And.intro ty.sz3 <| And.intro ty.agg3 <| And.intro ty.elem3 <| And.intro ty.zero3 <| And.intro ty.und3 <| And.intro ty.sz4 <| And.intro ty.agg4 <| And.intro ty.elem4 <| And.intro ty.zero4 <| And.intro ty.und4 <| And.intro ty.sz22 <| And.intro ty.agg22 <| And.intro ty.elem22 <| And.intro ty.by22 <| And.intro ty.ez22 <| And.intro ty.zero22 <| And.intro ty.und22 <| And.intro ty.sz24 <| And.intro ty.agg24 <| And.intro ty.fld24_0 <| And.intro ty.fld24_1 <| And.intro ty.elem24 <| And.intro ty.zero24 <| And.intro ty.pl24 <| And.intro ty.sz25 <| And.intro ty.agg25 <| And.intro ty.elem25 <| And.intro ty.by25 <| And.intro ty.ez25 <| And.intro ty.zero25 <| And.intro ty.und25 <| And.intro ty.sz41 <| And.intro ty.agg41 <| And.intro ty.fld41_0 <| And.intro ty.fld41_1 <| And.intro ty.elem41 <| And.intro ty.zero41 <| And.intro ty.pl41 <| And.intro ty.sz44 <| And.intro ty.agg44 <| And.intro ty.elem44 <| And.intro ty.by44 <| And.intro ty.ez44 <| And.intro ty.zero44 <| And.intro ty.und44 <| And.intro ty.sz64 <| And.intro ty.agg64 <| And.intro ty.elem64 <| And.intro ty.zero64 <| And.intro ty.und64 <| And.intro ty.sz72 <| And.intro ty.agg72 <| And.intro ty.elem72 <| And.intro ty.by72 <| And.intro ty.ez72 <| And.intro ty.zero72 <| ty.und72
set_option maxHeartbeats 4000000 in
theorem Moved_c (t : HT) (l : List HC) (ws : List Nat) (hws : ∀ n ∈ ws, n < 65536) (hl : l.length ≤ 1000) (hpub : t.pub l = 0) : CallP Tryz.prog G0 35 [t.s, SC l, SW ws] (SL (movedTo t l ws (min ws.length 30))) := by
  obtain ⟨hn3, hm4, hlo, h0⟩ := pub_dims hpub
  have ho : t.Ok t.n t.m := HT.check_ok h0
  have hn0 : 0 < t.rows.length := ho.n0
  have hnp : 0 < t.n := ho.n0
  have hmp : 0 < t.m := ho.m0
  have hcap := ho.cap
  have hnn : t.rows.length = t.n := rfl
  have hmm : (t.rows.getD 0 []).length = t.m := rfl
  have hz : ((0 : Int) < (t.rows.length : Int)) = True := eq_true (by omega)
  have zn : ((t.rows.length : Int) = 0) = False := eq_false (by omega)
  have zm : ((t.m : Int) = 0) = False := eq_false (by omega)
  have hcand := movedTo_law hpub ws
  have hL0 : ∀ R : Rows8, (MatH 1 t.n t.m R [(0, tbx t)]).lookup 0 = some (tbx t) := fun R => MatH_low (by decide)
  have hLo : ∀ R : Rows8, (MatH 1 t.n t.m R [(0, tbx t)]).lookup 1 = some (.arr 1 (refsTo 2 t.m t.n)) := fun R => (MatH_in 1 t.n t.m R _).out
  have hLr : ∀ (R : Rows8) (r : Nat), r < t.n → (MatH 1 t.n t.m R [(0, tbx t)]).lookup (2 + r) = some (.arr 1 (vI (R.getD r []))) := fun R r hr => MatH_look (o := 1) hr
  have hfx : TnFix 1 [(0, tbx t)] := TnFix.cons (show 0 < 1 by decide) (fun _ _ _ _ => TnO.arr zT) (TnFix.nil _)
  refine CallP.body 177 [.tmp 6] Tryz.func35 (by kernel_rfl) rfl rfl rfl zP zP ?_
  refine Tr.reg [1, 2, 3] (by
      simp only [↓sxd, sxu, ↓zE, ↓exq, ↓zM, Nat.reduceBEq, Nat.reduceAdd, Nat.reduceLT, Nat.reduceEqDiff]
      (all_goals try exact zF)) ?_
  refine Tr.reg [1, 2, 3, 7] (by
      simp only [↓sxd, sxu, ↓zE, ↓exq, ↓zD, ↓zA, Nat.reduceBEq, Nat.reduceAdd, Nat.reduceLT, Nat.reduceEqDiff, tysZ9_35]
      (repeat ((with_reducible refine And.intro ?_ ?_); (focus (exact zS))))
      refine CallH.mono (lrows_h t.rows t.n t.m ho.dim (by omega) (by omega) _ _ hfx) ?_
      rintro r' hp' nx' ⟨rfl, rfl, rfl⟩
      try simp only [↓sxd, sxu, ↓zE, ↓exq, Nat.reduceBEq, Nat.reduceAdd, Nat.reduceLT]
      (all_goals try exact zF)) ?_
  refine Tr.seq ?_
  refine Tr.reg [1, 2, 3, 7, 8] (by
      simp only [↓sxd, sxu, ↓zE, ↓exq, Nat.reduceBEq, Nat.reduceLT]
      (all_goals try exact zF)) ?_
  refine Tr.imp (st' := ⟨[(1, SC l), (2, SW ws), (3, .ptr 0 0 0), (7, .slc 1 1 0 t.n t.n), (8, I 0)], MatH 1 t.n t.m (movedTo t l ws 0) [(0, tbx t)], 1 + 1 + t.n, 177, [], 0⟩) (Imp.keepAll) (Tr.block (Tr.loopI (fun mm ss => ∃ (k : Nat), (k ≤ ws.length ∧ k ≤ 30) ∧ ws.length - k = mm ∧ ss = ⟨[(1, SC l), (2, SW ws), (3, .ptr 0 0 0), (7, .slc 1 1 0 t.n t.n), (8, I k)], MatH 1 t.n t.m (movedTo t l ws k) [(0, tbx t)], 1 + 1 + t.n, 177, [], 0⟩) _ ⟨0, ?_, rfl, rfl⟩ ?_))
  · exact ⟨Nat.zero_le _, by omega⟩
  rintro mm ss ⟨k, hI, rfl, rfl⟩
  obtain ⟨hk, hk30⟩ := hI
  refine Tr.seq ?_
  refine Tr.reg [1, 2, 3, 7, 8, 28] (by
      simp only [↓sxd, sxu, ↓zE, ↓exq, ↓zB, ↓zL, Nat.reduceBEq, Nat.reduceAdd, Nat.reduceLT, sxe, tysZ9_35]
      iterate 2
        (repeat ((with_reducible refine And.intro ?_ ?_); (focus (exact zS))))
        refine GdO.mk _ (fun hg => by simp only [↓sxd, sxu, ↓exq, Nat.reduceBEq, hg]; (all_goals try exact zF)) ?_
        simp only [↓sxd, sxu, ↓zE, ↓exq, ↓zI, Nat.reduceBEq, Nat.reduceLT]
      (all_goals try exact zF)) ?_
  refine Tr.cond rfl (fun h28 => ?_) (fun h28 => ?_)
  · have hk1 : k < ws.length := by rw [Bool.and_eq_true, decide_eq_true_eq, decide_eq_true_eq] at h28; omega
    have hk2 : k < 30 := by rw [Bool.and_eq_true, decide_eq_true_eq, decide_eq_true_eq] at h28; omega
    have hw16 := hws _ (getD_mem' 0 hk1)
    have hR := hcand k
    have hnext : movedTo t l ws (k + 1) = movedOne t l (movedTo t l ws k) (ws.getD k 0) := rfl
    generalize movedTo t l ws k = R at hR hnext ⊢
    obtain ⟨w, hw⟩ : ∃ w, w = ws.getD k 0 := ⟨_, rfl⟩
    rw [← hw] at hw16 hnext
    have u1 : IntKind.i64.wrap ((ws.getD k 0 : Nat) : Int) = (w : Int) := by rw [← hw]; exact wr (by omega) (by omega)
    obtain ⟨a, ha⟩ : ∃ a, a = w % t.n := ⟨_, rfl⟩
    obtain ⟨b, hb⟩ : ∃ b, b = w / 4 % t.n := ⟨_, rfl⟩
    obtain ⟨c, hc⟩ : ∃ c, c = w / 16 % t.m := ⟨_, rfl⟩
    obtain ⟨d, hd⟩ : ∃ d, d = w / 64 % t.m := ⟨_, rfl⟩
    have han : a < t.n := by rw [ha]; exact Nat.mod_lt _ hnp
    have hbn : b < t.n := by rw [hb]; exact Nat.mod_lt _ hnp
    have hcm : c < t.m := by rw [hc]; exact Nat.mod_lt _ hmp
    have hdm : d < t.m := by rw [hd]; exact Nat.mod_lt _ hmp
    have ea : ((w : Nat) : Int).tmod (t.rows.length : Int) = ((a : Nat) : Int) := by rw [ha]; exact tmod_nat' w t.n
    have e4 : ((w : Nat) : Int).tdiv 4 = ((w / 4 : Nat) : Int) := tdiv_nat' w 4
    have eb : ((w / 4 : Nat) : Int).tmod (t.rows.length : Int) = ((b : Nat) : Int) := by rw [hb]; exact tmod_nat' (w / 4) t.n
    have e16 : ((w : Nat) : Int).tdiv 16 = ((w / 16 : Nat) : Int) := tdiv_nat' w 16
    have ec : ((w / 16 : Nat) : Int).tmod (t.m : Int) = ((c : Nat) : Int) := by rw [hc]; exact tmod_nat' (w / 16) t.m
    have e64 : ((w : Nat) : Int).tdiv 64 = ((w / 64 : Nat) : Int) := tdiv_nat' w 64
    have ed : ((w / 64 : Nat) : Int).tmod (t.m : Int) = ((d : Nat) : Int) := by rw [hd]; exact tmod_nat' (w / 64) t.m
    have q4 : IntKind.i64.wrap ((w / 4 : Nat) : Int) = ((w / 4 : Nat) : Int) := wr (by omega) (by omega)
    have q16 : IntKind.i64.wrap ((w / 16 : Nat) : Int) = ((w / 16 : Nat) : Int) := wr (by omega) (by omega)
    have q64 : IntKind.i64.wrap ((w / 64 : Nat) : Int) = ((w / 64 : Nat) : Int) := wr (by omega) (by omega)
    have L0 := hL0 R
    obtain ⟨F, hF⟩ : ∃ F : List HC, F = [⟨(a : Nat), (c : Nat)⟩, ⟨(b : Nat), (d : Nat)⟩, ⟨(a : Nat), (d : Nat)⟩, ⟨(b : Nat), (c : Nat)⟩] := ⟨_, rfl⟩
    have hFl : F.length = 4 := by rw [hF]; rfl
    refine Tr.skip ?_
    refine Tr.seq ?_
    refine Tr.block ?_
    refine Tr.reg [1, 2, 3, 7, 8, 9] (by
        simp only [↓sxd, sxu, ↓zE, ↓exq, ↓zX, ↓zD, Nat.reduceBEq, Nat.reduceLT, sxe, tysZ9_35, hk1, u1]
        (all_goals try exact zF)) ?_
    refine Tr.regD [0, 1, 2, 3, 4, 5, 6, 7, 8, 9, 10, 11, 12] [] [] [1, 2, 3, 7, 8, 9, 10, 11] mix (by kernel_rfl) (by
        simp (maxSteps := 2000000) only [↓sxd, sxu, ↓zC, zJ, ↓exq, ↓zB, ↓zL, ↓zD, ↓zA, Nat.reduceBEq, Nat.reduceAdd, Nat.reduceLT, Nat.reduceEqDiff, sxe, tysZ9_35, L0, ea, e4, q4, eb, zn]
        (all_goals try exact zF)) ?_
    refine Tr.regD [0, 1, 2, 3, 4, 5, 6, 7, 8, 9, 10, 11, 12, 13, 14, 15, 16, 17] [] [] [1, 2, 3, 7, 8, 9, 10, 11, 12, 13] mix (by kernel_rfl) (by
        simp (maxSteps := 2000000) only [↓sxd, sxu, ↓zC, zJ, ↓exq, ↓zB, ↓zL, ↓zD, ↓zA, Nat.reduceBEq, Nat.reduceAdd, Nat.reduceLT, Nat.reduceEqDiff, Int.reduceLE, sxe, tysZ9_35, L0, hn0, hz, hmm, e16, q16, ec, e64, q64, ed, zm]
        (all_goals try exact zF)) ?_
    refine Tr.reg [1, 2, 3, 7, 8, 9, 10, 11, 12, 13, 14] (by
        simp only [↓sxd, sxu, ↓zE, ↓exq, ↓zO, ↓zG, Nat.reduceBEq, Nat.reduceAdd, Nat.reduceLT, Nat.reduceMul, Nat.reduceLeDiff, Nat.reduceEqDiff, tysZ9_35]
        (all_goals try exact zF)) ?_
    refine Tr.reg [1, 2, 3, 7, 8, 9, 10, 11, 12, 13, 14, 15] (by
        simp only [↓sxd, sxu, ↓zE, ↓exq, Nat.reduceBEq, Nat.reduceLT]
        iterate 3
          (repeat ((with_reducible refine And.intro ?_ ?_); (focus (exact zS))))
          refine GdO.mk _ (fun hg => by simp only [↓sxd, sxu, ↓exq, Nat.reduceBEq, hg]; (all_goals try exact zF)) ?_
          simp only [↓sxd, sxu, ↓zE, ↓exq, ↓zI, Nat.reduceBEq, Nat.reduceLT]
        (all_goals try exact zF)) ?_
    refine Tr.seq ?_
    refine Tr.reg [1, 2, 3, 7, 8, 9, 10, 11, 12, 13, 14, 15, 16] (by
        simp only [↓sxd, sxu, ↓zE, ↓exq, Nat.reduceBEq, Nat.reduceLT]
        (all_goals try exact zF)) ?_
    refine Tr.imp (st' := ⟨[(1, SC l), (2, SW ws), (3, .ptr 0 0 0), (7, .slc 1 1 0 t.n t.n), (8, I k), (9, I w), (10, I a), (11, I b), (12, I c), (13, I d), (14, SC F), (15, B (((a : Int) != (b : Int) && (c : Int) != (d : Int)))), (16, I 0)], MatH 1 t.n t.m R [(0, tbx t)], 1 + 1 + t.n, 177, [], 0⟩) (Imp.go (fun i => i) _ rfl rfl (.refl _) (fun _ h => absurd h (Nat.not_lt_zero _)) (fun _ h => h) (.cons rfl (TnS.d _) (.cons rfl (TnS.d _) (.cons rfl (TnS.ptr rfl) (.cons rfl (TnS.slc rfl) (.cons rfl (TnS.d _) (.cons rfl (TnS.d _) (.cons rfl (TnS.d _) (.cons rfl (TnS.d _) (.cons rfl (TnS.d _) (.cons rfl (TnS.d _) (.cons rfl (by rw [hF]; exact TnS.dxd _) (.cons rfl (TnS.d _) (.cons rfl (TnS.d _) trivial))))))))))))) ((MatH_fix (N := 1 + 1 + t.n) (Nat.le_refl _) (hfx.mono (by omega))).f2 fun _ _ => rfl) (fun h => h)) (Tr.block (Tr.loopI (fun mm ss => ∃ (j : Nat) (is : Bool), (j ≤ 4 ∧ is = (((a : Int) != (b : Int) && (c : Int) != (d : Int)) && (F.take j).all l.contains)) ∧ 4 - j = mm ∧ ss = ⟨[(1, SC l), (2, SW ws), (3, .ptr 0 0 0), (7, .slc 1 1 0 t.n t.n), (8, I k), (9, I w), (10, I a), (11, I b), (12, I c), (13, I d), (14, SC F), (15, B is), (16, I j)], MatH 1 t.n t.m R [(0, tbx t)], 1 + 1 + t.n, 177, [], 0⟩) _ ⟨0, ((a : Int) != (b : Int) && (c : Int) != (d : Int)), ?_, rfl, rfl⟩ ?_))
    · exact ⟨Nat.zero_le _, by simp⟩
    rintro mm ss ⟨j, is, hI, rfl, rfl⟩
    obtain ⟨hj4, his⟩ := hI
    refine Tr.seq ?_
    refine Tr.reg [1, 2, 3, 7, 8, 9, 10, 11, 12, 13, 14, 15, 16, 85] (by
        simp only [↓sxd, sxu, ↓zE, ↓exq, Nat.reduceBEq, Nat.reduceAdd, Nat.reduceLT]
        (all_goals try exact zF)) ?_
    refine Tr.cond rfl (fun h85 => ?_) (fun h85 => ?_)
    · have hj : j < 4 := by have := of_decide_eq_true h85; omega
      have hjF : j < F.length := by omega
      refine Tr.skip ?_
      refine Tr.seq ?_
      refine Tr.block ?_
      refine Tr.reg1 [1, 2, 3, 7, 8, 9, 10, 11, 12, 13, 14, 15, 16] (by
          simp only [↓sxd, sxu, ↓zE, ↓exq, Nat.reduceBEq, Nat.reduceLT]
          iterate 5
            (repeat ((with_reducible refine And.intro ?_ ?_); (focus (exact zS))))
            refine GdO.mk _ (fun hg => by simp only [↓sxd, sxu, ↓exq, ↓zD, Nat.reduceBEq, Nat.reduceAdd, sxe, tysZ9_35, hjF, hg]; (all_goals try exact zF)) ?_
            simp only [↓sxd, sxu, ↓zE, Nat.reduceBEq, Nat.reduceLT]
          (repeat ((with_reducible refine And.intro ?_ ?_); (focus (exact zS))))
          refine GdO.mk _ (fun hg => by simp only [sxu, ↓exq, ↓zB, Nat.reduceBEq, hg]; (repeat ((with_reducible refine And.intro ?_ ?_); (focus (exact zS)))); exact CallP.use (Has_c l (F.getD j default) hl) ⟨rfl, rfl, rfl⟩) ?_
          simp only [↓sxd, sxu, ↓zE, ↓exq, ↓zI, Nat.reduceBEq, Nat.reduceLT]
          (all_goals try exact zF)) ?_
      have w1 := add1 (show j < 4611686018427387904 by omega)
      refine Tr.reg1 [1, 2, 3, 7, 8, 9, 10, 11, 12, 13, 14, 15, 16] (by
          simp only [↓sxd, sxu, ↓zE, ↓exq, Nat.reduceBEq, Nat.reduceLT, w1]
          (all_goals try exact zF)) ?_
      refine ⟨_, _, ?_, Imp.keepAll, ⟨j + 1, is && l.contains (F.getD j default), ⟨hj, ?_⟩, rfl, rfl⟩⟩
      · omega
      · rw [his, List.take_succ_eq_append_getElem hjF, List.all_append, show F[j] = F.getD j default by simp [List.getD_eq_getElem?_getD, hjF]]
        simp [Bool.and_assoc]
    · have hj : j = 4 := by have := of_decide_eq_false h85; omega
      subst hj
      rw [List.take_of_length_le (by omega)] at his
      have hisw : is = true ↔ (a ≠ b ∧ c ≠ d ∧ l.contains ⟨(a : Nat), (c : Nat)⟩ = true ∧ l.contains ⟨(b : Nat), (d : Nat)⟩ = true ∧ l.contains ⟨(a : Nat), (d : Nat)⟩ = true ∧ l.contains ⟨(b : Nat), (c : Nat)⟩ = true) := by
        rw [his, hF]
        simp only [List.all_cons, List.all_nil, Bool.and_eq_true, Bool.and_true, bne_iff_ne]
        constructor
        · rintro ⟨⟨e1, e2⟩, e3, e4, e5, e6⟩
          exact ⟨fun e => e1 (by rw [e]), fun e => e2 (by rw [e]), e3, e4, e5, e6⟩
        · rintro ⟨e1, e2, e3, e4, e5, e6⟩
          exact ⟨⟨fun e => e1 (by omega), fun e => e2 (by omega)⟩, e3, e4, e5, e6⟩
      refine Tr.exit ?_
      refine Tr.seq ?_
      refine Tr.reg [1, 2, 3, 7, 8, 9, 10, 11, 12, 13, 98] (by
          simp only [↓sxd, sxu, ↓zE, ↓exq, ↓zK, Nat.reduceBEq, Nat.reduceLT]
          (all_goals try exact zF)) ?_
      refine Tr.cond rfl (fun h98 => ?_) (fun h98 => ?_)
      · have hmo : movedOne t l R w = R := by
          unfold movedOne
          simp only
          rw [← ha, ← hb, ← hc, ← hd, if_neg]
          intro h
          rw [hisw.2 h] at h98
          cases h98
        refine Tr.exit ?_
        have w1 := add1 (show k < 4611686018427387904 by omega)
        refine Tr.reg1 [1, 2, 3, 7, 8] (by
            simp only [↓sxd, sxu, ↓zE, ↓exq, Nat.reduceBEq, Nat.reduceLT, w1]
            (all_goals try exact zF)) ?_
        refine ⟨_, _, ?_, ?_, ⟨k + 1, ⟨hk1, hk2⟩, rfl, rfl⟩⟩
        · omega
        · rw [hnext, hmo]; exact Imp.keepAll
      · have hcond := hisw.1 (by simpa using h98)
        obtain ⟨g, hg⟩ : ∃ g, g = movedBy t R w a b c d := ⟨_, rfl⟩
        have x1 := hR.fit.cell a c han hcm
        have x2 := hR.fit.cell b d hbn hdm
        have x3 := hR.fit.cell a d han hdm
        have x4 := hR.fit.cell b c hbn hcm
        have hcw : (t.w l).cap = t.cap := rfl
        rw [hcw] at x1 x2 x3 x4
        have hgb : 0 ≤ g ∧ g ≤ 255 := by
          rw [hg]
          unfold movedBy
          omega
        have d0 := hR.fit.dim
        have b0 : ∀ i j, i < t.n → j < t.m → 0 ≤ cellAt R i j ∧ cellAt R i j ≤ 1000 := fun i j h1 h2 => by
          have := hR.fit.cell i j h1 h2
          rw [hcw] at this
          omega
        obtain ⟨R1, hR1⟩ : ∃ R1, R1 = addAt R a c g := ⟨_, rfl⟩
        have d1 : Dim t.n t.m R1 := by rw [hR1]; exact d0.add a c g
        have b1 := addAt_bnd d0 han hcm b0 (g := g) (by omega)
        rw [← hR1] at b1
        obtain ⟨R2, hR2⟩ : ∃ R2, R2 = addAt R1 b d g := ⟨_, rfl⟩
        have d2 : Dim t.n t.m R2 := by rw [hR2]; exact d1.add b d g
        have b2 := addAt_bnd d1 hbn hdm b1 (g := g) (by omega)
        rw [← hR2] at b2
        obtain ⟨R3, hR3⟩ : ∃ R3, R3 = addAt R2 a d (-g) := ⟨_, rfl⟩
        have d3 : Dim t.n t.m R3 := by rw [hR3]; exact d2.add a d (-g)
        have b3 := addAt_bnd d2 han hdm b2 (g := -g) (by omega)
        rw [← hR3] at b3
        obtain ⟨R4, hR4⟩ : ∃ R4, R4 = addAt R3 b c (-g) := ⟨_, rfl⟩
        have hmo : movedOne t l R w = R4 := by
          unfold movedOne
          simp only
          rw [← ha, ← hb, ← hc, ← hd, if_pos hcond, ← hg, ← hR1, ← hR2, ← hR3, ← hR4]
        have hra := refs_get 2 t.m t.n han
        have hrb := refs_get 2 t.m t.n hbn
        have s1 := upd_step (hp := [(0, tbx t)]) d0 c han g
        have s2 := upd_step (hp := [(0, tbx t)]) d1 d hbn g
        have s3 := upd_step (hp := [(0, tbx t)]) d2 d han (-g)
        have s4 := upd_step (hp := [(0, tbx t)]) d3 c hbn (-g)
        rw [← hR1] at s1
        rw [← hR2] at s2
        rw [← hR3] at s3
        rw [← hR4] at s4
        have k1 := b0 a c han hcm
        have k2 := b1 b d hbn hdm
        have k3 := b2 a d han hdm
        have k4 := b3 b c hbn hcm
        have v1 : IntKind.i64.wrap ((R.getD a []).getD c 0 + g) = cellAt R a c + g := by unfold cellAt at k1; rw [wr (by omega) (by omega)]; rfl
        have v2 : IntKind.i64.wrap ((R1.getD b []).getD d 0 + g) = cellAt R1 b d + g := by unfold cellAt at k2; rw [wr (by omega) (by omega)]; rfl
        have v3 : IntKind.i64.wrap ((R2.getD a []).getD d 0 - g) = cellAt R2 a d + -g := by unfold cellAt at k3; rw [wr (by omega) (by omega)]; unfold cellAt; omega
        have v4 : IntKind.i64.wrap ((R3.getD b []).getD c 0 - g) = cellAt R3 b c + -g := by unfold cellAt at k4; rw [wr (by omega) (by omega)]; unfold cellAt; omega
        have ac := show c < (R.getD a []).length by rw [d0.2 a han]; exact hcm
        have ad := show d < (R.getD a []).length by rw [d0.2 a han]; exact hdm
        have bc := show c < (R.getD b []).length by rw [d0.2 b hbn]; exact hcm
        have bd := show d < (R.getD b []).length by rw [d0.2 b hbn]; exact hdm
        have bd1 := show d < (R1.getD b []).length by rw [d1.2 b hbn]; exact hdm
        have ad2 := show d < (R2.getD a []).length by rw [d2.2 a han]; exact hdm
        have bc3 := show c < (R3.getD b []).length by rw [d3.2 b hbn]; exact hcm
        have e256 : ((w : Nat) : Int).tdiv 256 = ((w / 256 : Nat) : Int) := tdiv_nat' w 256
        have q256 : IntKind.i64.wrap ((w / 256 : Nat) : Int) = ((w / 256 : Nat) : Int) := wr (by omega) (by omega)
        have z1 : IntKind.i64.wrap (t.cap - (R.getD a []).getD c 0) = t.cap - cellAt R a c := wr (by unfold cellAt at x1; omega) (by unfold cellAt at x1; omega)
        have z2 : IntKind.i64.wrap (t.cap - (R.getD b []).getD d 0) = t.cap - cellAt R b d := wr (by unfold cellAt at x2; omega) (by unfold cellAt at x2; omega)
        have hgm : min (min (min (min ((w / 256 : Nat) : Int) (t.cap - cellAt R a c)) (t.cap - cellAt R b d)) ((R.getD a []).getD d 0)) ((R.getD b []).getD c 0) = g := by rw [hg]; rfl
        refine Tr.skip ?_
        obtain ⟨q2, hq2⟩ : ∃ q2 : List Nat, q2 = [21, 22, 23, 24, 25, 26, 27, 28, 29, 30, 31, 32, 33, 34, 35, 36, 37] := ⟨_, rfl⟩
        refine Tr.regD2 [0, 1, 2, 3, 4, 5, 6, 7, 8, 9, 10, 11, 12, 13, 14, 15, 16, 17, 18, 19, 20] [21, 22, 23, 24, 25, 26, 27, 28, 29, 30, 31, 32, 33, 34, 35, 36, 37] [] [] [1, 2, 3, 7, 8, 10, 11, 12, 13, 17] mix (by kernel_rfl) (by
          rw [← hq2]
          simp (maxSteps := 2000000) only [↓sxd, sxu, ↓zC, zJ, ↓exq, ↓zD, ↓zA, Nat.reduceBEq, Nat.reduceAdd, Nat.reduceLT, Nat.reduceEqDiff, sxe, tysZ9_35, L0, hLo R, hLr R a han, hLr R b hbn, hra, hrb, refs_len, vI_len, han, hbn, ac, bd, vI_get ac, vI_get bd, e256, q256, z1]
          (repeat ((with_reducible refine And.intro ?_ ?_); (focus (exact zS))))
          rw [hq2]
          simp (maxSteps := 2000000) only [↓sxd, sxu, ↓zC, zJ, ↓exq, ↓zB, ↓zD, Nat.reduceBEq, Nat.reduceLT, sxe, tysZ9_35, hLo R, hLr R a han, hLr R b hbn, hra, hrb, refs_len, vI_len, han, hbn, ad, bc, vI_get ad, vI_get bc, z2, hgm]
          (all_goals try exact zF)) ?_
        refine Tr.reg [1, 2, 3, 7, 8, 10, 11, 12, 13, 17] (by
            simp only [↓sxd, sxu, ↓zE, ↓exq, ↓zD, Nat.reduceBEq, Nat.reduceLT, sxe, tysZ9_35, hLo R, hLr R a han, hra, refs_len, vI_len, han, ac, vI_get ac, v1, vI_set, s1]
            (all_goals try exact zF)) ?_
        refine Tr.reg [1, 2, 3, 7, 8, 10, 11, 12, 13, 17] (by
            simp only [↓sxd, sxu, ↓zE, ↓exq, ↓zD, Nat.reduceBEq, Nat.reduceLT, sxe, tysZ9_35, hLo R1, hLr R1 b hbn, hrb, refs_len, vI_len, hbn, bd1, vI_get bd1, v2, vI_set, s2]
            (all_goals try exact zF)) ?_
        refine Tr.reg [1, 2, 3, 7, 8, 11, 12, 17] (by
            simp only [↓sxd, sxu, ↓zE, ↓exq, ↓zD, Nat.reduceBEq, Nat.reduceLT, sxe, tysZ9_35, hLo R2, hLr R2 a han, hra, refs_len, vI_len, han, ad2, vI_get ad2, v3, vI_set, s3]
            (all_goals try exact zF)) ?_
        refine Tr.reg1 [1, 2, 3, 7, 8] (by
            simp only [↓sxd, sxu, ↓zE, ↓exq, ↓zD, Nat.reduceBEq, Nat.reduceLT, sxe, tysZ9_35, hLo R3, hLr R3 b hbn, hrb, refs_len, vI_len, hbn, bc3, vI_get bc3, v4, vI_set, s4]
            (all_goals try exact zF)) ?_
        have w1 := add1 (show k < 4611686018427387904 by omega)
        refine Tr.reg1 [1, 2, 3, 7, 8] (by
            simp only [↓sxd, sxu, ↓zE, ↓exq, Nat.reduceBEq, Nat.reduceLT, w1]
            (all_goals try exact zF)) ?_
        refine ⟨_, _, ?_, ?_, ⟨k + 1, ⟨hk1, hk2⟩, rfl, rfl⟩⟩
        · omega
        · rw [hnext, hmo]; exact Imp.keepAll
  · have hke : k = min ws.length 30 := by
      rw [Bool.and_eq_false_iff, decide_eq_false_iff_not, decide_eq_false_iff_not] at h28
      omega
    subst hke
    refine Tr.exit ?_
    refine Tr.reg [6] (by
        simp only [↓sxd, sxu, ↓zE, ↓exq, Nat.reduceBEq, Nat.reduceLT]
        (all_goals try exact zF)) ?_
    refine Tr.imp (Imp.fin (tm' := [(6, SL (movedTo t l ws (min ws.length 30)))]) (.cons rfl (mat_fz (hcand _).fit.dim _) trivial)) ?_
    refine Tr.ret ?_
    (refine ⟨.inr rfl, ?_⟩; first | rfl | exact ⟨rfl, rfl, trivial⟩ | exact ⟨rfl, rfl, rfl, trivial⟩ | (simp only [Res, ResL, ResOK, ↓sxd, sxu, ↓zE, ↓zC, zJ, ↓exP, ↓exq, ↓zB, ↓zI, ↓zX, ↓zK, ↓zL, ↓zD, ↓zM, ↓zO, ↓zG, ↓zA, Nat.reduceBEq, Nat.reduceAdd, Nat.reduceLT, Nat.reduceMul, Nat.reduceSub, Nat.reduceLeDiff, Nat.reduceEqDiff, Int.reduceLE, Int.reduceLT, Int.reduceToNat, reduceIte, sxe, tysZ9_35]; (repeat' (first | rfl | exact trivial | exact fun h => h | exact fun h => (by rw [h]; rfl) | apply And.intro | omega | exact Nat.le_of_ble_eq_true rfl))))
end Go.Proofs.YtijechcadlklhaaGreat
