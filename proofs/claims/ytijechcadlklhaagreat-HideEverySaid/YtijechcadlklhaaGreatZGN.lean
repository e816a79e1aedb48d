/- Lemmas, part ZGN. Conditions: none. -/
import Derived.Test.YtijechcadlklhaaGreatZGM
set_option linter.unusedVariables false
namespace Go.Proofs.YtijechcadlklhaaGreat
open Go.Sy
set_option maxRecDepth 8000
abbrev nilp : SV := .d (.lit (.pointer none))
abbrev tbx (t : HT) : Sy.Obj := .arr 2 [[SL t.rows, I t.cap]]
abbrev wbx (t : HT) (hid : List Bool) : Sy.Obj := .arr 14 [SL t.rows :: I t.cap :: hid.map B]
abbrev HW.d (w : HW) : List D := .sl (dL w.rows) :: cI w.cap :: w.hid.map cB
theorem sorted_false {l : List HC} {k : Nat} (h : sortedTo l k = false) : ∀ d, sortedTo l (k + d) = false
  | 0 => h
  | d + 1 => by show (sortedTo l (k + d) && _) = false; rw [sorted_false h d]; rfl
theorem set2 {a b : SV} {l : List Bool} {j : Nat} : (a :: b :: l.map B).set (j + 2) (B true) = a :: b :: (l.set j true).map B := by
  simp [List.set, List.map_set]
abbrev tysH5_55 := And.intro ty.sz0 <| And.intro ty.agg0 <| And.intro ty.elem0 <| And.intro ty.sz3 <| And.intro ty.agg3 <| And.intro ty.elem3 <| And.intro ty.zero3 <| And.intro ty.und3 <| And.intro ty.sz4 <| And.intro ty.agg4 <| And.intro ty.elem4 <| And.intro ty.zero4 <| And.intro ty.und4 <| And.intro ty.sz29 <| And.intro ty.agg29 <| And.intro ty.elem29 <| And.intro ty.zero29 <| And.intro ty.und29 <| And.intro ty.sz32 <| And.intro ty.agg32 <| And.intro ty.fld32_0 <| And.intro ty.fld32_1 <| And.intro ty.elem32 <| And.intro ty.zero32 <| And.intro ty.pl32 <| And.intro ty.sz34 <| And.intro ty.agg34 <| And.intro ty.elem34 <| And.intro ty.by34 <| And.intro ty.ez34 <| And.intro ty.zero34 <| And.intro ty.und34 <| And.intro ty.sz79 <| And.intro ty.agg79 <| And.intro ty.fld79_0 <| And.intro ty.fld79_1 <| And.intro ty.elem79 <| And.intro ty.zero79 <| And.intro ty.pl79 <| And.intro ty.sz83 <| And.intro ty.agg83 <| And.intro ty.elem83 <| And.intro ty.zero83 <| And.intro ty.sz106 <| And.intro ty.agg106 <| And.intro ty.elem106 <| And.intro ty.arr106 <| And.intro ty.zero106 <| And.intro ty.und106 <| And.intro ty.sz108 <| And.intro ty.agg108 <| And.intro ty.elem108 <| And.intro ty.arr108 <| And.intro ty.zero108 <| And.intro ty.und108 <| And.intro ty.sz110 <| And.intro ty.agg110 <| And.intro ty.fld110_0 <| And.intro ty.fld110_1 <| And.intro ty.elem110 <| And.intro ty.zero110 <| And.intro ty.pl110 <| And.intro ty.sz115 <| And.intro ty.agg115 <| And.intro ty.elem115 <| ty.zero115
set_option maxHeartbeats 1000000 in
theorem work_h (t : HT) (l : List HC) (hs : small8 t.rows) (hl : l.length ≤ 1000) (hp : HpT) (nx : Nat) (hfix : TnFix nx hp) (K : KT) (hok : t.pub l = 0 → K (.tup [.ptr nx 0 0, I 0]) ((nx, wbx t (t.w l).hid) :: hp) (nx + 1)) (herr : t.pub l ≠ 0 → K (.tup [nilp, I (t.pub l)]) hp nx) : CallH Tryz.prog G0 55 [t.s, SC l] hp nx K := by
  have e01 : (nx == nx + 1) = false := by simp
  have e02 : (nx == nx + 2) = false := by simp
  have e12 : (nx + 1 == nx + 2) = false := by simp
  have n21 : (nx + 2 = nx + 1) = False := by simp
  refine CallH.body 55 [.tmp 4, .tmp 5] Tryz.func55 (by kernel_rfl) rfl rfl rfl ?_
  refine Tr.reg [1, 2] (by
      simp only [↓sxd, sxu, ↓zE, ↓exq, ↓zM, Nat.reduceBEq, Nat.reduceAdd, Nat.reduceLT, Nat.reduceEqDiff]
      (all_goals try exact zF)) ?_
  refine Tr.seq ?_
  refine Tr.reg [1, 2, 6] (by
      simp only [↓sxd, sxu, ↓zE, ↓exq, ↓zD, Nat.reduceBEq, Nat.reduceAdd, Nat.reduceLT, tysH5_55]
      (repeat ((with_reducible refine And.intro ?_ ?_); (focus (exact zS))))
      refine CallO.use (CheckTable_c t hs) ?_
      try simp only [↓sxd, sxu, ↓zE, ↓exq, Nat.reduceBEq, Nat.reduceLT]
      (all_goals try exact zF)) ?_
  refine Tr.reg [1, 2, 6, 14] (by
      simp only [↓sxd, sxu, ↓zE, ↓exq, Nat.reduceBEq, Nat.reduceLT]
      (all_goals try exact zF)) ?_
  refine Tr.cond rfl (fun h14 => ?_) (fun h14 => ?_)
  · have hc : t.check ≠ 0 := by simpa using h14
    have hpub : t.pub l = t.check := by unfold HT.pub; rw [if_pos hc]
    refine Tr.reg [4, 5] (by
        simp only [↓sxd, sxu, ↓zE, ↓exq, Nat.reduceBEq, Nat.reduceLT]
        (all_goals try exact zF)) ?_
    refine Tr.imp (Imp.go (tm' := [(4, nilp), (5, I t.check)]) (nx' := nx) (rg nx 1) hp rfl rfl (.cons _ (.refl _)) (fun id h => rg_lt h) (fun id h => by rw [rg_ge h]; show nx + 1 ≤ id + 1; omega) zT (hfix.f2 fun i hi => rg_lt hi) (fun h => h)) ?_
    refine Tr.ret ?_
    exact ⟨.inr rfl, .tup [nilp, I t.check], ⟨rfl, rfl, trivial⟩, by rw [← hpub]; exact herr (by rw [hpub]; exact hc)⟩
  · have hc : t.check = 0 := by simpa using h14
    have ho := HT.check_ok hc
    have h0 : 0 < t.rows.length := ho.n0
    refine Tr.skip ?_
    refine Tr.reg [1, 2, 7] (by
        simp only [↓sxd, sxu, ↓zE, ↓exq, ↓zD, Nat.reduceBEq, Nat.reduceAdd, Nat.reduceLT, tysH5_55]
        (all_goals try exact zF)) ?_
    refine Tr.seq ?_
    refine Tr.reg [1, 2, 21] (by
        simp only [↓sxd, sxu, ↓zE, ↓exq, Nat.reduceBEq, Nat.reduceLT]
        (repeat ((with_reducible refine And.intro ?_ ?_); (focus (exact zS))))
        refine CallO.use (allC_c t.isCell l (by omega) 70 [t.s] [] zP zP (fun x _ => cell_c t x hs h0)) ?_
        try simp only [↓sxd, sxu, ↓zE, ↓exq, ↓zK, Nat.reduceBEq, Nat.reduceLT]
        (all_goals try exact zF)) ?_
    refine Tr.cond rfl (fun h21 => ?_) (fun h21 => ?_)
    · have hcells : l.all t.isCell = false := by simpa using h21
      have hpub : t.pub l = 2 := by unfold HT.pub; rw [if_neg (by simp [hc]), if_neg (by rw [hcells]; simp)]
      refine Tr.reg [4, 5] (by
          simp only [↓sxd, sxu, ↓zE, ↓exq, Nat.reduceBEq, Nat.reduceLT]
          (all_goals try exact zF)) ?_
      refine Tr.imp (Imp.go (tm' := [(4, nilp), (5, I 2)]) (nx' := nx) (rg nx 1) hp rfl rfl (.cons _ (.refl _)) (fun id h => rg_lt h) (fun id h => by rw [rg_ge h]; show nx + 1 ≤ id + 1; omega) zT (hfix.f2 fun i hi => rg_lt hi) (fun h => h)) ?_
      refine Tr.ret ?_
      exact ⟨.inr rfl, .tup [nilp, I 2], ⟨rfl, rfl, trivial⟩, by have := herr (by rw [hpub]; decide); rwa [hpub] at this⟩
    · have hcells : l.all t.isCell = true := by simpa using h21
      have hin : ∀ k, k < l.length → 0 ≤ (l.getD k default).row ∧ (l.getD k default).row < 3 ∧ 0 ≤ (l.getD k default).col ∧ (l.getD k default).col < 4 := fun k hk => by
        have := (HT.isCell_iff (t := t) rfl rfl).1 (List.all_eq_true.1 hcells _ (getD_mem' default hk))
        have h3 := ho.n3
        have h4 := ho.m4
        omega
      refine Tr.skip ?_
      refine Tr.reg [1, 8] (by
          simp only [↓sxd, sxu, ↓zE, ↓exq, ↓zD, ↓zM, ↓zO, Nat.reduceBEq, Nat.reduceAdd, Nat.reduceLT, Nat.reduceLeDiff, Nat.reduceEqDiff, tysH5_55]
          (all_goals try exact zF)) ?_
      refine Tr.seq ?_
      refine Tr.reg [1, 8, 25, 26, 27] (by
          simp only [↓sxd, sxu, ↓zE, ↓exq, ↓zB, ↓zL, Nat.reduceBEq, Nat.reduceLT, sxe, tysH5_55]
          (all_goals try exact zF)) ?_
      refine Tr.imp (st' := ⟨[(1, SC l), (8, .ptr (nx + 1) 0 0), (25, SC l), (26, I l.length), (27, I 0)], (nx + 1, wbx t (marksTo l 0)) :: (nx, tbx t) :: hp, nx + 2, 55, [], nx⟩) (Imp.keepAll) (Tr.block (Tr.loopI (fun mm ss => ∃ (k : Nat), (k ≤ l.length ∧ sortedTo l k = true) ∧ l.length - k = mm ∧ ss = ⟨[(1, SC l), (8, .ptr (nx + 1) 0 0), (25, SC l), (26, I l.length), (27, I k)], (nx + 1, wbx t (marksTo l k)) :: (nx, tbx t) :: hp, nx + 2, 55, [], nx⟩) _ ⟨0, ?_, rfl, rfl⟩ ?_))
      · exact ⟨Nat.zero_le _, rfl⟩
      rintro mm ss ⟨k, hI, rfl, rfl⟩
      obtain ⟨hk, hsort⟩ := hI
      refine Tr.reg [1, 8, 25, 26, 27, 28] (by
          simp only [↓sxd, sxu, ↓zE, ↓exq, Nat.reduceBEq, Nat.reduceLT, sxe]
          (all_goals try exact zF)) ?_
      refine Tr.seq ?_
      refine Tr.cond rfl (fun h28 => ?_) (fun h28 => ?_)
      · have hlt : k < l.length := by simpa using h28
        obtain ⟨b1, b2, b3, b4⟩ := hin k hlt
        have hk1 : k - 1 < l.length := by omega
        refine Tr.skip ?_
        refine Tr.seq ?_
        refine Tr.block ?_
        refine Tr.reg [1, 8, 9, 10, 25, 26, 27] (by
            simp only [↓sxd, sxu, ↓zE, ↓exq, ↓zD, ↓zN, Nat.reduceBEq, Nat.reduceAdd, Nat.reduceLT, Nat.reduceEqDiff, sxe, tysH5_55, hlt]
            (all_goals try exact zF)) ?_
        refine Tr.seq ?_
        refine Tr.regD [0, 1, 2, 3, 4, 5, 6, 7, 8, 9, 10, 11] [] [] [1, 8, 10, 25, 26, 27, 43] mix (by kernel_rfl) (by
            simp only [↓sxd, sxu, ↓zC, zJ, ↓exq, Nat.reduceBEq, Nat.reduceLT]
            iterate 2
              (repeat ((with_reducible refine And.intro ?_ ?_); (focus (exact zS))))
              refine GdD.mk _ (fun hg => by simp only [sxu, ↓exP, ↓exq, Nat.reduceBEq, hg]; (all_goals try exact zF)) ?_
              simp only [↓sxd, sxu, ↓zC, zJ, Nat.reduceBEq, Nat.reduceLT]
            (repeat ((with_reducible refine And.intro ?_ ?_); (focus (exact zS))))
            refine GdD.mk (I ((k - 1 : Nat) : Int)) (fun hg => by
              have h0 : 0 < k := by simpa using hg
              have hw : IntKind.i64.wrap ((k : Int) - 1) = ((k - 1 : Nat) : Int) := by rw [wr (by omega) (by omega)]; omega
              simp only [↓sxd, sxu, ↓exP, ↓exq, hg, hw]
              (all_goals try exact zF)) ?_
            try simp only [↓sxd, sxu, ↓zC, zJ, Nat.reduceBEq, Nat.reduceLT]
            iterate 3
              (repeat ((with_reducible refine And.intro ?_ ?_); (focus (exact zS))))
              refine GdD.mk _ (fun hg => by simp only [↓sxd, sxu, ↓exP, ↓exq, ↓zD, Nat.reduceBEq, Nat.reduceAdd, Nat.reduceLT, sxe, tysH5_55, hk1, hg]; (all_goals try exact zF)) ?_
              simp only [↓sxd, sxu, ↓zC, zJ, Nat.reduceBEq, Nat.reduceLT]
            (repeat ((with_reducible refine And.intro ?_ ?_); (focus (exact zS))))
            refine GdD.mk _ (fun hg => by simp only [sxu, ↓exP, Nat.reduceBEq, hg]; first | exact compare_c (l.getD (k - 1) default) (l.getD k default) | exact ⟨compare_c (l.getD (k - 1) default) (l.getD k default), rfl, rfl⟩ | exact ⟨compare_c (l.getD (k - 1) default) (l.getD k default), trivial⟩ | exact ⟨compare_c (l.getD (k - 1) default) (l.getD k default), trivial, trivial⟩) ?_
            simp only [↓sxd, sxu, ↓zC, zJ, Nat.reduceBEq, Nat.reduceLT]
            (repeat ((with_reducible refine And.intro ?_ ?_); (focus (exact zS))))
            refine GdD.mk _ (fun hg => by simp only [↓sxd, sxu, ↓exP, ↓exq, hg]; (all_goals try exact zF)) ?_
            simp only [↓sxd, sxu, ↓zC, ↓exq, ↓zI, Nat.reduceBEq, Nat.reduceLT]
            (all_goals try exact zF)) ?_
        refine Tr.cond rfl (fun h43 => ?_) (fun h43 => ?_)
        · have hbad : sortedTo l (k + 1) = false := by
            rw [sortedTo, Bool.and_eq_false_iff]
            right
            rw [Bool.and_eq_true, decide_eq_true_eq, decide_eq_true_eq] at h43
            rw [Bool.or_eq_false_iff, decide_eq_false_iff_not, decide_eq_false_iff_not]
            omega
          have hbad2 : sortedTo l l.length = false := by
            have := sorted_false hbad (l.length - (k + 1))
            rwa [show k + 1 + (l.length - (k + 1)) = l.length by omega] at this
          have hpub : t.pub l = 2 := by unfold HT.pub; rw [if_neg (by simp [hc]), if_neg (by rw [hbad2]; simp)]
          refine Tr.reg [4, 5] (by
              simp only [↓sxd, sxu, ↓zE, ↓exq, Nat.reduceBEq, Nat.reduceLT]
              (all_goals try exact zF)) ?_
          refine Tr.imp (Imp.go (tm' := [(4, nilp), (5, I 2)]) (nx' := nx) (rg nx 3) hp rfl rfl (.cons _ (.cons _ (.cons _ (.refl _)))) (fun id h => rg_lt h) (fun id h => by rw [rg_ge h]; show nx + 3 ≤ id + 3; omega) zT (hfix.f2 fun i hi => rg_lt hi) (fun h => h)) ?_
          refine Tr.ret ?_
          exact ⟨.inr rfl, .tup [nilp, I 2], ⟨rfl, rfl, trivial⟩, by have := herr (by rw [hpub]; decide); rwa [hpub] at this⟩
        · have hgood : sortedTo l (k + 1) = true := by
            rw [sortedTo, hsort, Bool.true_and, Bool.or_eq_true, decide_eq_true_eq, decide_eq_true_eq]
            rw [Bool.and_eq_false_iff, decide_eq_false_iff_not, decide_eq_false_iff_not] at h43
            omega
          refine Tr.skip ?_
          refine Tr.regD1 [0, 1, 2, 3, 4, 5, 6, 7, 8, 9] [9] [] [1, 8, 25, 26, 27] mix (by kernel_rfl) (by
              simp only [↓sxd, sxu, ↓zC, zJ, ↓exq, ↓zD, ↓zR, ↓zA, Nat.reduceBEq, Nat.reduceAdd, Nat.reduceLT, Nat.reduceLeDiff, Nat.reduceEqDiff, tysH5_55, e12, n21, marks_len]
              (all_goals try exact zF)) ?_
          have w1 : IntKind.i64.wrap ((k : Int) + 1) = ((k + 1 : Nat) : Int) := by rw [wr (by omega) (by omega)]; rfl
          refine Tr.reg1 [1, 8, 25, 26, 27] (by
              simp only [↓sxd, sxu, ↓zE, ↓exq, Nat.reduceBEq, Nat.reduceLT, w1]
              (all_goals try exact zF)) ?_
          have hset : (SL t.rows :: I t.cap :: (marksTo l k).map B).set (2 + (l.getD k default).row.toNat * 4 + (l.getD k default).col.toNat) (B true) = SL t.rows :: I t.cap :: (marksTo l (k + 1)).map B := by
            rw [show 2 + (l.getD k default).row.toNat * 4 + (l.getD k default).col.toNat = (4 * (l.getD k default).row.toNat + (l.getD k default).col.toNat) + 2 by omega, set2]; rfl
          rw [hset]
          refine ⟨_, _, ?_, Imp.go (rg (nx + 2) 1) ((nx + 1, wbx t (marksTo l (k + 1))) :: (nx, tbx t) :: hp) rfl rfl (.cons _ (.refl _)) (fun id h => rg_lt (by show id < nx + 2; have : id < nx := h; omega)) (fun id h => by rw [rg_ge h]; show nx + 2 + 1 ≤ id + 1; omega) ?_ ?_ (fun h => h), ⟨k + 1, ⟨hlt, hgood⟩, rfl, rfl⟩⟩
          · omega
          · exact .cons rfl (TnS.d _) (.cons rfl (TnS.ptr (rg_lt (by omega))) (.cons rfl (TnS.d _) (.cons rfl (TnS.d _) (.cons rfl (TnS.d _) trivial))))
          · exact .cons ⟨(rg_lt (by show nx + 1 < nx + 2; omega)).symm, TnO.arr (.cons (.cons (TnS.d _) (.cons (TnS.d _) (F2.map fun _ _ => TnS.d _))) .nil)⟩ (.cons ⟨(rg_lt (by show nx < nx + 2; omega)).symm, TnO.arr zT⟩ (hfix.f2 fun i hi => rg_lt (by omega)))
      · have hge : k = l.length := by simp at h28; omega
        refine Tr.exit ?_
        refine Tr.reg [4, 5] (by
            simp only [↓sxd, sxu, ↓zE, ↓exq, Nat.reduceBEq, Nat.reduceLT]
            (all_goals try exact zF)) ?_
        have hpub : t.pub l = 0 := by
          subst hge
          unfold HT.pub; rw [if_neg (by simp [hc]), if_pos (by rw [hcells, hsort]; rfl)]
        refine Tr.imp (Imp.go (tm' := [(4, .ptr nx 0 0), (5, I 0)]) (nx' := nx + 1) (rg nx 1) ((nx + 1, wbx t (marksTo l k)) :: hp) (hp'' := (nx, wbx t (marksTo l k)) :: hp) rfl rfl (.cons_cons _ (.cons _ (.refl _))) (fun id h => rg_lt h) (fun id h => by rw [rg_ge (by omega)]; show nx + 2 ≤ id + 1; omega) (.cons rfl (TnS.ptr (rg_ge (Nat.le_refl _))) (.cons rfl (TnS.d _) trivial)) (.cons ⟨(rg_ge (Nat.le_refl _)).symm, TnO.arr (.cons (.cons (TnS.d _) (.cons (TnS.d _) (F2.map fun _ _ => TnS.d _))) .nil)⟩ (hfix.f2 fun i hi => rg_lt hi)) (fun h => h)) ?_
        refine Tr.ret ?_
        exact ⟨.inr rfl, .tup [.ptr nx 0 0, I 0], ⟨rfl, rfl, trivial⟩, by subst hge; exact hok hpub⟩
end Go.Proofs.YtijechcadlklhaaGreat
namespace Go.Sy
section
variable {P : Program} {G : Nat → Option (List D)} {ro : Option Nat} {M : Nat}
def EqVal (P : Program) (t : TypeId) (xs ys : List Value) (r : Bool) : Prop := ∀ w : World,
  (∀ op x y, (eqGuard op t x y (.agg xs.toArray) (.agg ys.toArray)).run P w = .ok () w) ∧ (Op.equal t (.agg xs.toArray) (.agg ys.toArray)).run P w = .ok r w
theorem RegT.eqB {ops : Array Oper} {k m d : Nat} {st : St} {Q : St → Prop} {o : Oper} {t t' : TypeId} {a b : Operand} {xs ys : List SV} {vx vy : List Value} {r : Bool} (ho : ops[k]? = some o) (hop : o.op = .binOp .eql t a b t') (hd : o.dst = some d) (hg : o.guard = none) (hdn : d < st.nt)
    (hx : ev G st.tm a = .agg xs) (hy : ev G st.tm b = .agg ys) (lx : litL xs = some vx) (ly : litL ys = some vy) (heq : EqVal P t vx vy r)
    (h : RegT P G ro ops (k + 1) m ⟨(d, .d (.lit (.bool r))) :: st.tm, st.hp, st.nx, st.nt, st.df, st.nb⟩ Q) : RegT P G ro ops k (m + 1) st Q := by
  intro O M pb pl ac w X hR hX
  simp only [List.range'_succ, wpOpsIn, ho]
  have hwt : Region.wanted o (yielded ops ac.tmps) = true := by simp [Region.wanted, hg]
  rw [if_pos hwt]
  have hev := ev_sound hR.hs hR.tm
  have hxa := hev a
  have hya := hev b
  rw [hx] at hxa
  rw [hy] at hya
  generalize hva : ac.eval a = va at hxa
  generalize hvb : ac.eval b = vb at hya
  cases hxa with | agg _ us hul hur =>
  cases hya with | agg _ vs hvl hvr =>
  have e1 := litL_sound lx hul hur
  have e2 := litL_sound ly hvl hvr
  subst e1 e2
  obtain ⟨g1, g2⟩ := heq w
  refine RunOp.wpIn (K := fun u' w' => u' = .bool r ∧ w' = w) (fun c hc => by rw [hop] at hc; cases hc) (RunOp.value (v := .bool r) (by
    simp only [execOp, hop, hva, hvb, Sem.run_bind, g1, Result.andThen_ok]
    simp [binOp, g2]) ⟨rfl, rfl⟩) ?_
  rintro u2 w3 ⟨rfl, rfl⟩
  have hR2 := hR.put (dst := o.dst) (r := .d (.lit (.bool r))) (v := .bool r) (by rw [hd]; exact hdn) hR.hs (.refl _ _) (fun _ _ h => h) (.d _ _ (.lit _ rfl))
  rw [hd] at hR2
  rw [hd]
  exact h O M pb pl _ w3 X hR2 hX
end
end Go.Sy
namespace Go.Proofs.YtijechcadlklhaaGreat
open Go.Sy
set_option maxRecDepth 8000
theorem eq_int (d : Nat) (w : World) (a b : Int) : (Op.equalIn (d + 1) 3 (.int .i64 a) (.int .i64 b)).run Tryz.prog w = .ok (a == b) w := by
  simp [Op.equalIn, run_underlying ty.und3]
theorem eq_boo (d : Nat) (w : World) (a b : Bool) : (Op.equalIn (d + 1) 4 (.bool a) (.bool b)).run Tryz.prog w = .ok (a == b) w :=
  by simp [Op.equalIn, run_underlying ty.und4]
noncomputable def fieldsOf (t : TypeId) : List (Bool × TypeId × Nat) := match Tryz.prog.underlying t with | some (.struct fs) => fs.toList.map (fun f => (f.name == "_", f.type, f.offset)) | _ => []
theorem two_fields {t a : TypeId} (h : fieldsOf t = [(false, a, 0), (false, 3, 1)]) : ∃ f0 f1 : Field, Tryz.prog.underlying t = some (.struct #[f0, f1]) ∧ f0.name ≠ "_" ∧ f0.type = a ∧ f0.offset = 0 ∧ f1.name ≠ "_" ∧ f1.type = 3 ∧ f1.offset = 1 := by
  unfold fieldsOf at h
  split at h
  · rename_i fs hu
    obtain ⟨l⟩ := fs
    rcases l with _ | ⟨f0, _ | ⟨f1, _ | ⟨f2, l⟩⟩⟩
    · simp at h
    · simp at h
    · simp only [List.map_cons, List.map_nil, List.cons.injEq, Prod.mk.injEq, and_true] at h
      exact ⟨f0, f1, hu, by simpa using h.1.1, h.1.2.1, h.1.2.2, by simpa using h.2.1, h.2.2.1, h.2.2.2⟩
    · simp at h
  · cases h
theorem rng_0 (w : World) (a b : Int) : (part 3 #[.int .i64 a, .int .i64 b] 0).run Tryz.prog w = .ok (.int .i64 a) w := by kernel_rfl
theorem rng_1 (w : World) (a b : Int) : (part 3 #[.int .i64 a, .int .i64 b] 1).run Tryz.prog w = .ok (.int .i64 b) w := by kernel_rfl
theorem eq_two {t : TypeId} (h : fieldsOf t = [(false, 3, 0), (false, 3, 1)]) (hs : Tryz.prog.stoodInHeld t = false) (w : World) (a b a' b' : Int) : (Op.equal t (.agg #[.int .i64 a, .int .i64 b]) (.agg #[.int .i64 a', .int .i64 b'])).run Tryz.prog w = .ok (a == a' && b == b') w := by
  obtain ⟨f0, f1, hu, n0, t0, o0, n1, t1, o1⟩ := two_fields h
  show (Op.equalIn (9998 + 2) t _ _).run Tryz.prog w = _
  rw [Op.equalIn]
  have p0 := rng_0 w a b
  have p1 := rng_1 w a b
  have q0 := rng_0 w a' b'
  have q1 := rng_1 w a' b'
  have e0 := eq_int 9998 w a a'
  have e1 := eq_int 9998 w b b'
  cases h0 : (a == a') <;> cases h1 : (b == b') <;> rw [h0] at e0 <;> rw [h1] at e1 <;>
    simp [run_underlying hu, hs, n0, n1, t0, t1, o0, o1, p0, p1, q0, q1, e0, e1]
theorem eqAgg_two {t : TypeId} (hf : fieldsOf t = [(false, 3, 0), (false, 3, 1)]) (hs : Tryz.prog.stoodInHeld t = false)
    (hg : ∀ (op : BinOp) (x y : Operand) (w : World) (a b a' b' : Int), (eqGuard op t x y (.agg #[.int .i64 a, .int .i64 b]) (.agg #[.int .i64 a', .int .i64 b'])).run Tryz.prog w = .ok () w) : EqAgg Tryz.prog t 2 := by
  intro w xs ys l l' ha hb hx hy
  match l, l', ha, hb with
  | [a, b], [a', b'], _, _ =>
    subst hx hy
    refine ⟨fun op x y => hg op x y w a b a' b', ?_⟩
    have h := eq_two hf hs w a b a' b'
    have e : ([a, b] == [a', b']) = (a == a' && (b == b' && true)) := rfl
    rw [e, Bool.and_true]
    exact h
theorem eqCell : EqAgg Tryz.prog 79 2 := eqAgg_two (by kernel_rfl) (by kernel_rfl) (fun op x y w a b a' b' => by cases op <;> kernel_rfl)
theorem eqRange : EqAgg Tryz.prog 60 2 := eqAgg_two (by kernel_rfl) (by kernel_rfl) (fun op x y w a b a' b' => by cases op <;> kernel_rfl)
abbrev kn (v : HNode) : Value := .agg #[.bool v.1, .int .i64 (v.2 : Nat)]
theorem nodeF : fieldsOf 134 = [(false, 4, 0), (false, 3, 1)] := by kernel_rfl
theorem nd_0 (w : World) (a : Bool) (b : Int) : (part 4 #[.bool a, .int .i64 b] 0).run Tryz.prog w = .ok (.bool a) w := by kernel_rfl
theorem nd_1 (w : World) (a : Bool) (b : Int) : (part 3 #[.bool a, .int .i64 b] 1).run Tryz.prog w = .ok (.int .i64 b) w := by kernel_rfl
theorem nodeS : Tryz.prog.stoodInHeld 134 = false := by kernel_rfl
theorem eq_node (w : World) (a : Bool) (b : Int) (a' : Bool) (b' : Int) : (Op.equal 134 (.agg #[.bool a, .int .i64 b]) (.agg #[.bool a', .int .i64 b'])).run Tryz.prog w = .ok (a == a' && b == b') w := by
  obtain ⟨f0, f1, hu, n0, t0, o0, n1, t1, o1⟩ := two_fields nodeF
  show (Op.equalIn (9998 + 2) 134 _ _).run Tryz.prog w = _
  rw [Op.equalIn]
  have p0 := nd_0 w a b
  have p1 := nd_1 w a b
  have q0 := nd_0 w a' b'
  have q1 := nd_1 w a' b'
  have e0 := eq_boo 9998 w a a'
  have e1 := eq_int 9998 w b b'
  have hs := nodeS
  cases h0 : (a == a') <;> cases h1 : (b == b') <;> rw [h0] at e0 <;> rw [h1] at e1 <;>
    simp [run_underlying hu, hs, n0, n1, t0, t1, o0, o1, p0, p1, q0, q1, e0, e1]
theorem node_guard (op : BinOp) (x y : Operand) (w : World) (a : Bool) (b : Int) (a' : Bool) (b' : Int) : (eqGuard op 134 x y (.agg #[.bool a, .int .i64 b]) (.agg #[.bool a', .int .i64 b'])).run Tryz.prog w = .ok () w := by
  cases op <;> kernel_rfl
theorem kn_beq (u v : HNode) : ((u.1 == v.1) && (((u.2 : Nat) : Int) == ((v.2 : Nat) : Int))) = (u == v) := by
  obtain ⟨a, b⟩ := u
  obtain ⟨a', b'⟩ := v
  show _ = ((a == a') && (b == b'))
  congr 1
  by_cases h : b = b'
  · subst h; simp
  · simp only [show (b == b') = false from beq_eq_false_iff_ne.2 h]
    exact beq_eq_false_iff_ne.2 (by omega)
theorem eqNode (u v : HNode) : EqVal Tryz.prog 134 [.bool u.1, .int .i64 (u.2 : Nat)] [.bool v.1, .int .i64 (v.2 : Nat)] (u == v) := fun w =>
  ⟨fun op x y => node_guard op x y w u.1 _ v.1 _, by rw [← kn_beq]; exact eq_node w _ _ _ _⟩
theorem kn_inj (u v : HNode) (h : kn u = kn v) : u = v := by
  obtain ⟨a, b⟩ := u
  obtain ⟨a', b'⟩ := v
  simp at h
  obtain ⟨rfl, h⟩ := h
  congr 1
  omega
def KeyN (v : Value) : Prop := ∃ u : HNode, v = kn u
open Classical in
theorem eq_keysN (w : World) {x y : Value} (hx : KeyN x) (hy : KeyN y) : (Op.equal 134 x y).run Tryz.prog w = .ok (decide (x = y)) w := by
  obtain ⟨u, rfl⟩ := hx
  obtain ⟨v, rfl⟩ := hy
  have h := ((eqNode u v) w).2
  rw [show (Op.equal 134 (kn u) (kn v)).run Tryz.prog w = _ from h]
  congr 1
  by_cases e : u = v
  · subst e; simp
  · have h1 : (u == v) = false := beq_eq_false_iff_ne.2 e
    have h2 : ¬ kn u = kn v := fun h => e (kn_inj _ _ h)
    rw [h1, decide_eq_false h2]
theorem askingN (w : World) {k : Value} (hk : KeyN k) : ∀ (es : List MapEntry) (i : Nat), (∀ e ∈ es, KeyN e.key) → ∃ r, (Instr.findAsking 134 k es i).run Tryz.prog w = .ok r w ∧
    match r with
    | none => ∀ e ∈ es, e.key ≠ k
    | some (j, v) => ∃ n, j = i + n ∧ ∃ h : n < es.length, (es[n]).key = k ∧ (es[n]).val = v ∧ ∀ m (hm : m < n), (es[m]).key ≠ k
  | [], i, _ => ⟨none, rfl, fun e he => by cases he⟩
  | e :: es, i, h => by
    have hq := eq_keysN w hk (h e List.mem_cons_self)
    by_cases hke : k = e.key
    · simp only [hke, decide_true] at hq
      refine ⟨some (i, e.val), ?_, 0, rfl, by simp, hke.symm, rfl, fun m hm => absurd hm (Nat.not_lt_zero _)⟩
      unfold Instr.findAsking
      rw [hke]
      simp only [Sem.run_bind, hq, Result.andThen_ok, if_true, Sem.run_pure]
    · simp only [hke, decide_false] at hq
      obtain ⟨r, hr, hm⟩ := askingN w hk es (i + 1) (fun x hx => h x (List.mem_cons_of_mem _ hx))
      refine ⟨r, ?_, ?_⟩
      · unfold Instr.findAsking
        simp only [Sem.run_bind, hq, Result.andThen_ok, Bool.false_eq_true, if_false, hr]
      · cases r with
        | none =>
          intro x hx
          rcases List.mem_cons.1 hx with rfl | hx
          · exact fun h2 => hke h2.symm
          · exact hm x hx
        | some jv =>
          obtain ⟨j, v⟩ := jv
          obtain ⟨n, rfl, hn, h1, h2, h3⟩ := hm
          refine ⟨n + 1, by omega, by simpa using hn, h1, h2, fun m hm => ?_⟩
          cases m with
          | zero => exact fun h2 => hke h2.symm
          | succ m => exact h3 m (by omega)
theorem node_chk (e : Bool) (w : World) (a : Bool) (b : Int) : (Instr.checkKey e 10000 134 (.agg #[.bool a, .int .i64 b])).run Tryz.prog w = .ok () w := by kernel_rfl
theorem keyTN : KeyT Tryz.prog 134 KeyN where
  chk v hv b w := by obtain ⟨u, rfl⟩ := hv; exact node_chk b w _ _
  same k hk := by obtain ⟨u, rfl⟩ := hk; simp [Instr.sameBits]
  find es k hk h w := by
    obtain ⟨f0, f1, hu, _⟩ := two_fields nodeF
    obtain ⟨r, hr, hm⟩ := askingN w hk es 0 h
    refine ⟨r, ?_, ?_⟩
    · unfold Instr.findKey
      simp only [Sem.run_bind, run_underlying hu, Result.andThen_ok]
      cases es with
      | nil => simpa [Instr.findNow, Instr.findAsking] using hr
      | cons e es => simpa [Instr.findNow, Instr.sameNow] using hr
    · cases r with
      | none => exact hm
      | some jv =>
        obtain ⟨j, v⟩ := jv
        obtain ⟨n, hn, h1, h2, h3, h4⟩ := hm
        have : j = n := by omega
        subst this
        exact ⟨h1, h2, h3, h4⟩
theorem mapOkN {ks : List Value} (h : ∀ k ∈ ks, KeyN k) : MapOk Tryz.prog 141 ks := ⟨134, 4, KeyN, by kernel_rfl, keyTN, h⟩
def sm (l : List HNode) : List (Value × SV) := l.map fun v => (kn v, B true)
theorem sm_ok (l : List HNode) (v : HNode) : MapOk Tryz.prog 141 (kn v :: (sm l).map (·.1)) :=
  mapOkN fun k hk => by
    rcases List.mem_cons.1 hk with rfl | hk
    · exact ⟨_, rfl⟩
    · obtain ⟨e, he, rfl⟩ := List.mem_map.1 hk
      obtain ⟨x, _, rfl⟩ := List.mem_map.1 he
      exact ⟨_, rfl⟩
open Classical in
theorem sm_find (v : HNode) : ∀ l : List HNode, (mfind (sm l) (kn v)).getD (B false) = B (l.contains v)
  | [] => rfl
  | u :: l => by
    show (if kn u = kn v then some (B true) else mfind (sm l) (kn v)).getD (B false) = _
    by_cases e : u = v
    · subst e; simp
    · have h2 : ¬ kn u = kn v := fun h => e (kn_inj _ _ h)
      rw [if_neg h2, sm_find v l, List.contains_cons]
      simp [Ne.symm e]
open Classical in
theorem sm_put (v : HNode) : ∀ l : List HNode, v ∉ l → mput (sm l) (kn v) (B true) = sm (l ++ [v])
  | [], _ => rfl
  | u :: l, h => by
    show (if kn u = kn v then (kn v, B true) :: sm l else (kn u, B true) :: mput (sm l) (kn v) (B true)) = _
    have e : ¬ u = v := fun e => h (e ▸ List.mem_cons_self)
    have h2 : ¬ kn u = kn v := fun h => e (kn_inj _ _ h)
    rw [if_neg h2, sm_put v l (fun h' => h (List.mem_cons_of_mem _ h'))]
    rfl
theorem mzN : tmz Tryz.prog 141 = some (.bool false) := by kernel_rfl
end Go.Proofs.YtijechcadlklhaaGreat
namespace Go.Proofs.YtijechcadlklhaaGreat
open Go.Sy
set_option maxRecDepth 8000
def vI (l : List Int) : List (List SV) := l.map fun n => [I n]
theorem vI_len (l : List Int) : (vI l).length = l.length := by simp [vI]
theorem vI_get {l : List Int} {c : Nat} (h : c < l.length) : (vI l).getD c [] = [I (l.getD c 0)] := by simp [vI, List.getD_eq_getElem?_getD, h]
theorem vI_set (l : List Int) (c : Nat) (x : Int) : (vI l).set c [I x] = vI (l.set c x) := by simp [vI, List.map_set]
theorem vI_eq (l : List Int) : ((dI l).map fun e => e.map SV.d) = vI l := by simp [vI, dI]
def refsTo (b m : Nat) : Nat → List (List SV)
  | 0 => []
  | k + 1 => refsTo b m k ++ [[.slc (b + k) 1 0 m m]]
def rowsD (b : Nat) (rows : Rows8) : Nat → HpT
  | 0 => []
  | k + 1 => (b + k, .arr 1 (vI (rows.getD k []))) :: rowsD b rows k
def MatH (o n m : Nat) (rows : Rows8) (hp : HpT) : HpT := (o, .arr 1 (refsTo (o + 1) m n)) :: (rowsD (o + 1) rows n ++ hp)
theorem refs_len (b m : Nat) : ∀ n, (refsTo b m n).length = n
  | 0 => rfl
  | n + 1 => by rw [refsTo, List.length_append, refs_len b m n]; rfl
theorem refs_get (b m : Nat) {r : Nat} : ∀ n, r < n → (refsTo b m n).getD r [] = [.slc (b + r) 1 0 m m]
  | 0, h => by omega
  | n + 1, h => by
    rw [refsTo, List.getD_eq_getElem?_getD]
    by_cases e : r < n
    · rw [List.getElem?_append_left (by rw [refs_len]; exact e), ← List.getD_eq_getElem?_getD]
      exact refs_get b m n e
    · have e' : r = n := by omega
      subst e'
      rw [List.getElem?_append_right (by rw [refs_len]; exact Nat.le_refl _), refs_len]
      simp
theorem rowsD_look {b : Nat} {rows : Rows8} {r : Nat} (hp : HpT) : ∀ n, r < n → (rowsD b rows n ++ hp).lookup (b + r) = some (.arr 1 (vI (rows.getD r [])))
  | 0, h => by omega
  | n + 1, h => by
    show List.lookup (b + r) ((b + n, _) :: (rowsD b rows n ++ hp)) = _
    by_cases e : r < n
    · have : (b + r == b + n) = false := beq_eq_false_iff_ne.2 (by omega)
      rw [List.lookup_cons, this]
      exact rowsD_look hp n e
    · have e' : r = n := by omega
      subst e'
      rw [List.lookup_cons, beq_self_eq_true]
theorem rowsD_skip {b : Nat} {rows : Rows8} {k : Nat} (hp : HpT) : ∀ n, k < b ∨ b + n ≤ k → (rowsD b rows n ++ hp).lookup k = hp.lookup k
  | 0, h => rfl
  | n + 1, h => by
    show List.lookup k ((b + n, _) :: (rowsD b rows n ++ hp)) = _
    have : (k == b + n) = false := beq_eq_false_iff_ne.2 (by omega)
    rw [List.lookup_cons, this]
    exact rowsD_skip hp n (by omega)
theorem rowsD_same {b : Nat} {rows : Rows8} {x : List Int} {r : Nat} : ∀ n, n ≤ r → rowsD b (rows.set r x) n = rowsD b rows n
  | 0, _ => rfl
  | n + 1, h => by
    rw [rowsD, rowsD, rowsD_same n (by omega), List.getD_eq_getElem?_getD, List.getElem?_set_ne (by omega), ← List.getD_eq_getElem?_getD]
theorem rowsD_upd {b : Nat} {rows : Rows8} {x : List Int} {r : Nat} (hr : r < rows.length) (hp : HpT) : ∀ n, r < n → upd (rowsD b rows n ++ hp) (b + r) (.arr 1 (vI x)) = rowsD b (rows.set r x) n ++ hp
  | 0, h => by omega
  | n + 1, h => by
    show upd ((b + n, _) :: (rowsD b rows n ++ hp)) (b + r) _ = _
    by_cases e : r < n
    · have hne : ¬ b + n = b + r := by omega
      simp only [upd, hne, if_false]
      rw [rowsD_upd hr hp n e, rowsD, List.getD_eq_getElem?_getD (l := rows.set r x), List.getElem?_set_ne (by omega), ← List.getD_eq_getElem?_getD]
      rfl
    · have e' : r = n := by omega
      subst e'
      simp only [upd, if_true]
      rw [rowsD, rowsD_same r (Nat.le_refl _)]
      simp [List.getD_eq_getElem?_getD, hr]
theorem rowsD_fix {b : Nat} {rows : Rows8} {N : Nat} : ∀ n, b + n ≤ N → TnFix N (rowsD b rows n)
  | 0, _ => TnFix.nil _
  | n + 1, h => TnFix.cons (by omega) (fun r h1 h2 _ => TnO.arr (F2.map fun _ _ => .cons (TnS.d _) .nil)) (rowsD_fix n (by omega))
theorem refs_tn {b m : Nat} {r : Nat → Nat} {h1 h2 : HpT} : ∀ n, (∀ i, b ≤ i → i < b + n → r i = i) → F2 (F2 (TnS r h1 h2)) (refsTo b m n) (refsTo b m n)
  | 0, _ => .nil
  | n + 1, h => F2.append (refs_tn n fun i h0 hi => h i h0 (by omega)) (.cons (.cons (TnS.slc (h _ (by omega) (by omega))) .nil) .nil)
theorem rowsD_f2 {b : Nat} {rows : Rows8} {r : Nat → Nat} {h1 h2 : HpT} : ∀ n, (∀ i, b ≤ i → i < b + n → r i = i) → F2 (fun p p' => p.1 = r p'.1 ∧ TnO r h1 h2 p.2 p'.2) (rowsD b rows n) (rowsD b rows n)
  | 0, _ => .nil
  | n + 1, h => .cons ⟨(h _ (by omega) (by omega)).symm, TnO.arr (F2.map fun _ _ => .cons (TnS.d _) .nil)⟩ (rowsD_f2 n fun i h0 hi => h i h0 (by omega))
theorem MatH_fix {o n m N : Nat} {rows : Rows8} {hp : HpT} (hN : o + 1 + n ≤ N) (h : TnFix N hp) : TnFix N (MatH o n m rows hp) :=
  TnFix.cons (by omega) (fun r h1 h2 hr => TnO.arr (refs_tn n fun i _ hi => hr i (by omega))) (TnFix.append (rowsD_fix n hN) h)
theorem MatH_skip {o n m : Nat} {rows : Rows8} {hp : HpT} {k : Nat} (hk : o + 1 + n ≤ k) : (MatH o n m rows hp).lookup k = hp.lookup k := by
  have : (k == o) = false := beq_eq_false_iff_ne.2 (by omega)
  rw [MatH, List.lookup_cons, this]
  exact rowsD_skip hp n (by omega)
theorem MatH_sub {o n m : Nat} {rows : Rows8} {p : Nat × Sy.Obj} {hp : HpT} : (MatH o n m rows hp).Sublist (MatH o n m rows (p :: hp)) :=
  .cons_cons _ (List.Sublist.append (.refl _) (.cons _ (.refl _)))
theorem MatH_perm {o n m : Nat} {rows : Rows8} {p : Nat × Sy.Obj} {hp : HpT} : (MatH o n m rows (p :: hp)).Perm (p :: MatH o n m rows hp) :=
  ((List.perm_middle (l₁ := rowsD (o + 1) rows n) (l₂ := hp) (a := p)).cons _).trans (.swap _ _ _)
abbrev tysH7_102 := And.intro ty.sz4 <| And.intro ty.agg4 <| And.intro ty.elem4 <| And.intro ty.zero4 <| And.intro ty.und4 <| And.intro ty.sz44 <| And.intro ty.agg44 <| And.intro ty.elem44 <| And.intro ty.by44 <| And.intro ty.ez44 <| And.intro ty.zero44 <| ty.und44
theorem cloneI_h (l : List Int) (hlen : l.length ≤ 1000) (hp : HpT) (nx : Nat) : CallH Tryz.prog G0 102 [SI l] hp nx (Det (.slc nx 1 0 l.length l.length) ((nx, .arr 1 (vI l)) :: hp) (nx + 1)) := by
  refine CallH.body 8 [.tmp 2] Tryz.func102 (by kernel_rfl) rfl rfl rfl ?_
  refine Tr.reg [0] (by
      simp only [↓sxd, sxu, ↓zE, ↓exq, Nat.reduceBEq, Nat.reduceLT]
      (all_goals try exact zF)) ?_
  refine Tr.seq ?_
  refine Tr.seq (Tr.nilTest rfl rfl rfl rfl rfl rfl rfl rfl (show 3 < 8 by decide) (show 4 < 8 by decide) (fun b hb => ?_))
  refine Tr.cond rfl (fun h4 => ?_) (fun h4 => ?_)
  · have hl : l = [] := by have := hb h4; simpa [dI] using this
    subst hl
    refine Tr.reg [2] (by
        simp only [↓sxd, sxu, ↓zE, ↓exq, Nat.reduceLT]
        (all_goals try exact zF)) ?_
    refine Tr.imp (st' := ⟨[(2, .slc nx 1 0 0 0)], (nx, .arr 1 []) :: hp, nx + 1, _, _, _⟩) (Imp.goV 1 rfl rfl rfl rfl (by repeat' (first | exact trivial | exact F2.nil | refine F2.cons ?_ ?_ | refine TmV.cons rfl VnS.nil ?_ | refine TmV.cons rfl VnS.same ?_ | refine ⟨rfl, ?_⟩ | exact VnO.same _ | refine VnO.arr ?_ | exact VnS.nil | exact VnS.same | exact F2.refl fun _ _ => VnS.same)) ?_) ?_
    · exact F2.refl fun _ _ => ⟨rfl, VnO.same _⟩
    refine Tr.ret ?_
    exact ⟨.inr rfl, _, rfl, rfl, rfl, rfl⟩
  · refine Tr.skip ?_
    have hz : (∀ e ∈ List.map (fun e => List.map SV.d e) (dI l), e.length = 1 ∧ e.all SV.one = true) = True := by simp [dI, SV.one]
    have hl1 : (l.length ≤ 1073741824) = True := by simp; omega
    refine Tr.reg [2] (by
        simp only [↓sxd, sxu, ↓zE, ↓exq, ↓zB, ↓zG, ↓zQ, Nat.reduceBEq, Nat.reduceLT, Nat.reduceLeDiff, Nat.reduceEqDiff, sxe, tysH7_102, hz, hl1]
        (all_goals try exact zF)) ?_
    refine Tr.ret ?_
    exact ⟨.inr rfl, _, rfl, rfl, by rw [← vI_eq], rfl⟩
theorem k_refs (b m k : Nat) : (k = (refsTo b m k).length) = True := by rw [refs_len]; simp
theorem le_refs (b m k : Nat) (h : k ≤ 1000) : ((refsTo b m k).length ≤ 1073741823) = True := by rw [refs_len]; simp; omega
abbrev tysH7_91 := And.intro ty.sz0 <| And.intro ty.agg0 <| And.intro ty.elem0 <| And.intro ty.sz3 <| And.intro ty.agg3 <| And.intro ty.elem3 <| And.intro ty.zero3 <| And.intro ty.und3 <| And.intro ty.sz22 <| And.intro ty.agg22 <| And.intro ty.elem22 <| And.intro ty.by22 <| And.intro ty.ez22 <| And.intro ty.zero22 <| And.intro ty.und22 <| And.intro ty.sz44 <| And.intro ty.agg44 <| And.intro ty.elem44 <| And.intro ty.by44 <| And.intro ty.ez44 <| And.intro ty.zero44 <| ty.und44
theorem copied_h (rows : Rows8) (n m : Nat) (hd : Dim n m rows) (hn : n ≤ 1000) (hm : m ≤ 1000) (hp : HpT) (nx : Nat) (hfix : TnFix nx hp) : CallH Tryz.prog G0 91 [SL rows] hp nx (Det (.slc nx 1 0 n n) (MatH nx n m rows hp) (nx + 1 + n)) := by
  refine CallH.body 18 [.tmp 2] Tryz.func91 (by kernel_rfl) rfl rfl rfl ?_
  refine Tr.reg [0, 2] (by
      simp only [↓sxd, sxu, ↓zE, ↓exq, Nat.reduceBEq, Nat.reduceLT]
      (all_goals try exact zF)) ?_
  refine Tr.seq ?_
  refine Tr.reg [2, 5, 6, 7] (by
      simp only [↓sxd, sxu, ↓zE, ↓exq, ↓zB, ↓zL, Nat.reduceBEq, Nat.reduceLT, sxe, tysH7_91]
      (all_goals try exact zF)) ?_
  refine Tr.imp (st' := ⟨[(2, .slc nx 1 0 0 0), (5, SL rows), (6, I rows.length), (7, I 0)], MatH nx 0 m rows hp, nx + 1 + 0, 18, [], nx⟩) (Imp.goV 1 rfl rfl rfl rfl (by repeat' (first | exact trivial | exact F2.nil | refine F2.cons ?_ ?_ | refine TmV.cons rfl VnS.nil ?_ | refine TmV.cons rfl VnS.same ?_ | refine ⟨rfl, ?_⟩ | exact VnO.same _ | refine VnO.arr ?_ | exact VnS.nil | exact VnS.same | exact F2.refl fun _ _ => VnS.same)) (F2.refl fun _ _ => ⟨rfl, VnO.same _⟩)) (Tr.block (Tr.loopI (fun mm ss => ∃ (k : Nat), (k ≤ n) ∧ n - k = mm ∧ ss = ⟨[(2, .slc nx 1 0 k k), (5, SL rows), (6, I rows.length), (7, I k)], MatH nx k m rows hp, nx + 1 + k, 18, [], nx⟩) _ ⟨0, ?_, rfl, rfl⟩ ?_))
  · exact Nat.zero_le _
  rintro mm ss ⟨k, hI, rfl, rfl⟩
  refine Tr.reg [2, 5, 6, 7, 8] (by
      simp only [↓sxd, sxu, ↓zE, ↓exq, Nat.reduceBEq, Nat.reduceLT, sxe]
      (all_goals try exact zF)) ?_
  refine Tr.seq ?_
  refine Tr.cond rfl (fun h8 => ?_) (fun h8 => ?_)
  · have hlt : k < rows.length := by simpa using h8
    have hrl := hd.2 k (by have := hd.1; omega)
    have a1 : (nx == nx + 1 + k + 1) = false := beq_eq_false_iff_ne.2 (by omega)
    have a2 : (nx == nx + 1 + k) = false := beq_eq_false_iff_ne.2 (by omega)
    have a3 : (nx + 1 + k + 1 = nx) = False := by simp; omega
    have a4 : (nx + 1 + k = nx) = False := by simp; omega
    have hkl : k < n := by have := hd.1; omega
    have a5 := le_refs (nx + 1) m k (by omega)
    refine Tr.skip ?_
    refine Tr.seq ?_
    refine Tr.block ?_
    refine Tr.reg [2, 4, 5, 6, 7] (by
        simp only [↓sxd, sxu, ↓zE, ↓exq, ↓zD, Nat.reduceBEq, Nat.reduceLT, sxe, tysH7_91, hlt]
        (all_goals try exact zF)) ?_
    refine Tr.regT1 6 [2, 5, 6, 7] rfl (RegT.cut 3 3 [2, 5, 6, 7, 11, 13] (by decide) (by
      simp only [List.drop_zero, List.take_succ_cons, List.take_zero]
      simp only [↓sxd, sxu, ↓zE, ↓exq, Nat.reduceBEq, Nat.reduceLT]
      (repeat ((with_reducible refine And.intro ?_ ?_); (focus (exact zS))))
      refine CallH.mono (cloneI_h (rows.getD k []) (by omega) _ _) ?_
      rintro r hp' nx' ⟨rfl, rfl, rfl⟩
      try simp only [↓sxd, sxu, Nat.reduceBEq]
      (repeat' (first | rfl | exact trivial | exact fun h => h | exact fun h => (by rw [h]; rfl) | apply And.intro | omega | exact Nat.le_of_ble_eq_true rfl))) (RegT.own (k := 3) (n := 0) (sz := 1) (es := [[.slc (nx + 1 + k) 1 0 m m]]) rfl rfl rfl rfl (show 14 < 18 by decide) (by kernel_rfl) (by decide) (by kernel_rfl) rfl (by rw [← hrl]; rfl) rfl rfl (by decide) (RegT.cut (k := 4) 2 0 [2, 5, 6, 7] (by decide) (by
      simp only [List.drop_succ_cons, List.drop_zero, List.take_succ_cons, List.take_zero]
      simp only [↓sxd, sxu, ↓zE, ↓exq, ↓zB, ↓zQ, Nat.reduceBEq, Nat.reduceLT, Nat.reduceLeDiff, Nat.reduceEqDiff, tysH7_91, MatH, a1, a2, a3, a4, k_refs, a5]
      (repeat' (first | rfl | exact trivial | exact fun h => h | exact fun h => (by rw [h]; rfl) | apply And.intro | omega | exact Nat.le_of_ble_eq_true rfl))) (RegT.nil rfl)))) ?_
    have w1 : IntKind.i64.wrap ((k : Int) + 1) = ((k + 1 : Nat) : Int) := by rw [wr (by omega) (by omega)]; rfl
    refine Tr.reg1 [2, 5, 6, 7] (by
        simp only [↓sxd, sxu, ↓zE, ↓exq, Nat.reduceBEq, Nat.reduceLT, w1]
        (all_goals try exact zF)) ?_
    have hro : ∀ i, i < nx + 2 + k → i ≠ nx → (if i = nx then nx + 1 + k + 1 + 1 else if i < nx + 2 + k then i else i + 2) = i := fun i h1 h2 => by rw [if_neg h2, if_pos h1]
    refine ⟨_, _, ?_, Imp.go (tm' := [(2, .slc nx 1 0 (k + 1) (k + 1)), (5, SL rows), (6, I rows.length), (7, I ((k + 1 : Nat) : Int))]) (hp'' := MatH nx (k + 1) m rows hp) (nx' := nx + 1 + (k + 1)) (fun i => if i = nx then nx + 1 + k + 1 + 1 else if i < nx + 2 + k then i else i + 2) ((nx + 1 + k + 1 + 1, .arr 1 (refsTo (nx + 1) m k ++ [[.slc (nx + 1 + k) 1 0 m m]])) :: (nx + 1 + k, .arr 1 (vI (rows.getD k []))) :: (rowsD (nx + 1) rows k ++ hp)) rfl rfl (.cons_cons _ (.cons _ (.refl _))) (fun id h => hro id (by have : id < nx := h; omega) (by have : id < nx := h; omega)) (fun id h => by
        have e : (if id = nx then nx + 1 + k + 1 + 1 else if id < nx + 2 + k then id else id + 2) = id + 2 := by rw [if_neg (by omega), if_neg (by omega)]
        simp only [e]
        show nx + 1 + k + 1 + 1 + 1 ≤ id + 2
        omega) ?_ ?_ (fun h => h), ⟨k + 1, by omega, rfl, rfl⟩⟩
    · omega
    · exact .cons rfl (TnS.slc (if_pos rfl)) (.cons rfl (TnS.d _) (.cons rfl (TnS.d _) (.cons rfl (TnS.d _) trivial)))
    · refine .cons ⟨(if_pos rfl).symm, TnO.arr (F2.append (refs_tn k fun i h0 hi => hro i (by omega) (by omega)) (.cons (.cons (TnS.slc (hro _ (by omega) (by omega))) .nil) .nil))⟩ (.cons ⟨(hro _ (by omega) (by omega)).symm, TnO.arr (F2.map fun _ _ => .cons (TnS.d _) .nil)⟩ (F2.append (rowsD_f2 k fun i h0 hi => hro i (by omega) (by omega)) (hfix.f2 fun i hi => hro i (by omega) (by omega))))
  · have hge : k = n := by have := hd.1; simp at h8; omega
    refine Tr.exit ?_
    refine Tr.reg [2] (by
        simp only [↓sxd, sxu, ↓zE, ↓exq, Nat.reduceLT]
        (all_goals try exact zF)) ?_
    refine Tr.ret ?_
    subst hge
    exact ⟨.inr rfl, _, rfl, rfl, rfl, rfl⟩
end Go.Proofs.YtijechcadlklhaaGreat
