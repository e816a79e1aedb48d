/- Lemmas, part XPV. Conditions: none. -/
import Derived.Test.YtcnkbdfkjhlbiaaDoorXPU
set_option linter.unusedVariables false
namespace Go.Sy
section
variable {P : Program} {G : Nat → Option (List D)} {ro : Option Nat} {st : St} {Q : Exit → St → Prop}
theorem Tr.regK {id : Nat} {ops : Array Oper} {y : Code} (ks : List Nat) (K : St → Prop) (h : xA P G ops.toList ops.toList st fun s => K (s.keep ks)) (hy : ∀ s, K s → Tr P G ro y s Q) : Tr P G ro (.seq (.region id ops false) y) st Q := by
  refine Tr.seq ((Tr.region (Q := fun x s => match x with | .normal => K (s.keep ks) | _ => False) h).mono fun x s hq => ?_)
  cases x with
  | normal => exact Tr.imp (Imp.keep ks) (hy _ hq)
  | exit id => exact hq.elim
  | goto l => exact hq.elim
  | ret => exact hq.elim
  | panic ch => exact hq.elim
  | outgrown => exact hq.elim
end
end Go.Sy
namespace Go.Proofs.YtcnkbdfkjhlbiaaDoor
open Go.Sy
set_option maxRecDepth 8000
abbrev KS := List (K4 × Unit)
def mk (ks : KS) : List (Value × SV) := ks.map fun e => (kv e.1, B true)
def dk (ks : KS) : List (Value × D) := ks.map fun e => (kv e.1, cB true)
theorem dk_len (ks : KS) : (dk ks).length = ks.length := List.length_map ..
theorem mk_put (m : KS) (p a b d : Int) : mput (mk m) (key4 p a b d) (B true) = mk (aput m (p, a, b, d) ()) :=
  mput_map (key := kv) (val := fun _ => B true) kv_inj (p, a, b, d) () m
theorem mk_ok (m : KS) (p a b d : Int) : MapOk Tryd.prog 129 (key4 p a b d :: (mk m).map (·.1)) :=
  mapOk129 fun k hk => by
    rcases List.mem_cons.1 hk with rfl | hk
    · exact ⟨_, _, _, _, rfl⟩
    · obtain ⟨e, he, rfl⟩ := List.mem_map.1 hk
      obtain ⟨x, _, rfl⟩ := List.mem_map.1 he
      exact ⟨_, _, _, _, rfl⟩
theorem mk_ok0 (p a b d : Int) : MapOk Tryd.prog 129 [key4 p a b d] := mk_ok [] p a b d
theorem aput_mem (ks : KS) (k k' : K4) : k' ∈ (aput ks k ()).map (·.1) ↔ k' = k ∨ k' ∈ ks.map (·.1) := by
  induction ks with
  | nil => simp [aput]
  | cons e l ih =>
    obtain ⟨a, u⟩ := e
    by_cases h : k = a
    · subst h
      have : aput ((k, u) :: l) k () = (k, ()) :: l := by simp [aput]
      rw [this]; simp
    · have : aput ((a, u) :: l) k () = (a, u) :: aput l k () := by rw [aput, if_neg (by simpa using h)]
      rw [this, List.map_cons, List.map_cons, List.mem_cons, ih, List.mem_cons]
      constructor
      · rintro (h | h | h)
        · exact .inr (.inl h)
        · exact .inl h
        · exact .inr (.inr h)
      · rintro (h | h | h)
        · exact .inr (.inl h)
        · exact .inl h
        · exact .inr (.inr h)
theorem svOf_key4 (a b c d : Int) : svOf (key4 a b c d) = .agg [I a, I b, I c, I d] := rfl
def Coding.stTo (c : Coding) (m : Mem) : Nat → List (List Int)
  | 0 => [e000]
  | p + 1 => (c.stTo m p).flatMap fun es => (List.range 10).filterMap fun code : Nat => if (c.next p es code).2.2 && c.goes m (p + 1) (c.next p es code).1.2 then some (c.next p es code).1.2 else none
def Coding.canAt (c : Coding) (m : Mem) (p : Nat) (code : Nat) : Bool := (c.stTo m p).any fun es => (c.next p es code).2.2 && c.goes m (p + 1) (c.next p es code).1.2
def Coding.codesAt (c : Coding) (m : Mem) (p : Nat) : List Nat := (List.range 10).filter (c.canAt m p)
def Coding.codesS (c : Coding) : List (List Int) × Int := if c.tried = 0 then ((List.range c.cols).map fun p => nats (c.codesAt c.root.2 p), 0) else ([], c.tried)
def Coding.stepE (c : Coding) (m : Mem) (p : Nat) (es : List Int) (code : Nat) : Bool := (c.next p es code).2.2 && c.goes m (p + 1) (c.next p es code).1.2
theorem stTo_len (c : Coding) (m : Mem) : ∀ p, ∀ es ∈ c.stTo m p, es.length = 3
  | 0, es, h => by rw [Coding.stTo, List.mem_singleton] at h; subst h; rfl
  | p + 1, es, h => by
    rw [Coding.stTo, List.mem_flatMap] at h
    obtain ⟨e0, h1, h2⟩ := h
    obtain ⟨q, _, h3⟩ := List.mem_filterMap.1 h2
    split at h3
    · obtain rfl := Option.some.inj h3
      exact next_len c p e0 (stTo_len c m p e0 h1) q
    · cases h3
def At (c : Coding) (m : Mem) (p : Nat) (ks : KS) : Prop := ∀ k, k ∈ ks.map (·.1) ↔ ∃ es ∈ c.stTo m p, k = keyOf p es
def By (c : Coding) (m : Mem) (p j : Nat) (k : K4) : Prop := ∃ es ∈ c.stTo m p, ∃ q, q < j ∧ c.stepE m p es q = true ∧ k = keyOf (p + 1) (c.next p es q).1.2
def Of (c : Coding) (m : Mem) (p : Nat) (ks : KS) (seen : List Nat) (j : Nat) (es : List Int) : Prop := ∃ i ∈ seen, ∃ h : i < ks.length, (ks[i]).1 = keyOf p es ∧ es ∈ c.stTo m p ∧ c.stepE m p es j = true
theorem at_zero (c : Coding) (m : Mem) : At c m 0 [(keyOf 0 e000, ())] := fun k => by
  simp [Coding.stTo]
theorem by_zero (c : Coding) (m : Mem) (p : Nat) (k : K4) : ¬ By c m p 0 k := fun ⟨_, _, q, h, _⟩ => absurd h (Nat.not_lt_zero q)
theorem key3 {p p' : Nat} {es es' : List Int} (h : es.length = 3) (h' : es'.length = 3) (hk : keyOf p es = keyOf p' es') : es = es' := by
  obtain ⟨a, b, d, rfl⟩ := three h
  obtain ⟨a', b', d', rfl⟩ := three h'
  unfold keyOf at hk
  simp only [Prod.mk.injEq, List.getD_cons_zero, List.getD_cons_succ] at hk
  rw [hk.2.1, hk.2.2.1, hk.2.2.2]
theorem of_all {c : Coding} {m : Mem} {p : Nat} {ks : KS} (hk : At c m p ks) {seen : List Nat} (hall : ∀ i, i < ks.length → i ∈ seen) {j : Nat} {es : List Int} : Of c m p ks seen j es ↔ es ∈ c.stTo m p ∧ c.stepE m p es j = true := by
  constructor
  · rintro ⟨i, _, _, _, h1, h2⟩; exact ⟨h1, h2⟩
  · rintro ⟨h1, h2⟩
    obtain ⟨e, he, hek⟩ := List.mem_map.1 ((hk (keyOf p es)).2 ⟨es, h1, rfl⟩)
    obtain ⟨i, hi, rfl⟩ := List.getElem_of_mem he
    exact ⟨i, hall i hi, hi, hek, h1, h2⟩
theorem by_succ {c : Coding} {m : Mem} {p j : Nat} {k : K4} : By c m p (j + 1) k ↔ By c m p j k ∨ ∃ es, (es ∈ c.stTo m p ∧ c.stepE m p es j = true) ∧ k = keyOf (p + 1) (c.next p es j).1.2 := by
  constructor
  · rintro ⟨es, h1, q, h2, h3, h4⟩
    by_cases hq : q = j
    · subst hq; exact .inr ⟨es, ⟨h1, h3⟩, h4⟩
    · exact .inl ⟨es, h1, q, by omega, h3, h4⟩
  · rintro (⟨es, h1, q, h2, h3, h4⟩ | ⟨es, ⟨h1, h3⟩, h4⟩)
    · exact ⟨es, h1, q, by omega, h3, h4⟩
    · exact ⟨es, h1, j, by omega, h3, h4⟩
theorem by_ten {c : Coding} {m : Mem} {p : Nat} {ks : KS} (h : ∀ k, k ∈ ks.map (·.1) ↔ By c m p 10 k) : At c m (p + 1) ks := fun k => by
  rw [h k]
  unfold By Coding.stepE
  rw [Coding.stTo]
  constructor
  · rintro ⟨es, h1, q, h2, h3, h4⟩
    exact ⟨_, List.mem_flatMap.2 ⟨es, h1, List.mem_filterMap.2 ⟨q, List.mem_range.2 h2, by rw [if_pos h3]⟩⟩, h4⟩
  · rintro ⟨es', h1, h2⟩
    obtain ⟨es, h3, h4⟩ := List.mem_flatMap.1 h1
    obtain ⟨q, h5, h6⟩ := List.mem_filterMap.1 h4
    rw [List.mem_range] at h5
    split at h6
    · rename_i hg
      obtain rfl := Option.some.inj h6
      exact ⟨es, h3, q, h5, hg, h2⟩
    · cases h6
theorem of_snoc {c : Coding} {m : Mem} {p : Nat} {ks : KS} {seen : List Nat} {kk j : Nat} (hkk : kk < ks.length) {es0 : List Int} (h0 : (ks[kk]).1 = keyOf p es0) (hm : es0 ∈ c.stTo m p) {es : List Int} :
    Of c m p ks (seen ++ [kk]) j es ↔ Of c m p ks seen j es ∨ (es = es0 ∧ c.stepE m p es0 j = true) := by
  constructor
  · rintro ⟨i, h1, h2, h3, h4, h5⟩
    rcases List.mem_append.1 h1 with h1 | h1
    · exact .inl ⟨i, h1, h2, h3, h4, h5⟩
    · rw [List.mem_singleton] at h1; subst h1
      obtain rfl := key3 (stTo_len c m p _ h4) (stTo_len c m p _ hm) (h3.symm.trans h0)
      exact .inr ⟨rfl, h5⟩
  · rintro (⟨i, h1, h2⟩ | ⟨rfl, h5⟩)
    · exact ⟨i, List.mem_append.2 (.inl h1), h2⟩
    · exact ⟨kk, List.mem_append.2 (.inr (List.mem_singleton.2 rfl)), hkk, h0, hm, h5⟩
def rowsC (done : List (List Int)) (cur : SV) (rest : Nat) : List (List SV) := (done.map fun l => [SI l]) ++ [cur] :: List.replicate rest [.dx []]
theorem rowsC_len (done : List (List Int)) (cur : SV) (rest : Nat) : (rowsC done cur rest).length = done.length + 1 + rest := by simp [rowsC]; omega
theorem rowsC_get {done : List (List Int)} {cur : SV} {rest p : Nat} (h : done.length = p) : (rowsC done cur rest).getD p [] = [cur] := by
  subst h
  simp [rowsC, List.getD_eq_getElem?_getD]
theorem rowsC_set {done : List (List Int)} {cur x : SV} {rest p : Nat} (h : done.length = p) : (rowsC done cur rest).set p [x] = rowsC done x rest := by
  subst h
  unfold rowsC
  rw [List.set_append_right _ _ (by simp)]
  simp
theorem rowsC_tn {r : Nat → Nat} {hp hp' : HpT} {done : List (List Int)} {cur cur' : SV} {rest : Nat} (h : TnS r hp hp' cur cur') : F2 (F2 (TnS r hp hp')) (rowsC done cur rest) (rowsC done cur' rest) := by
  unfold rowsC
  exact F2.append (F2.map fun _ _ => .cons (TnS.d _) .nil) (.cons (.cons h .nil) (F2.refl fun x hx => by
    rw [List.eq_of_mem_replicate hx]; exact .cons (TnS.dx _) .nil))
theorem rowsC_vn {id : Nat} {done : List (List Int)} {rest : Nat} : F2 (F2 (VnS id 1)) (rowsC done (.dx []) rest) (rowsC done (.slc id 1 0 0 0) rest) := by
  unfold rowsC
  exact F2.append (F2.map fun _ _ => .cons VnS.same .nil) (.cons (.cons VnS.nil .nil) (F2.refl fun _ _ => F2.refl fun _ _ => VnS.same))
def rows0 (done : List (List Int)) (rest : Nat) : List (List SV) := (done.map fun l => [SI l]) ++ List.replicate rest [.dx []]
theorem rows0_succ (done : List (List Int)) (rest : Nat) : rows0 done (rest + 1) = rowsC done (.dx []) rest := by simp [rows0, rowsC, List.replicate_succ]
theorem rowsC_done (done : List (List Int)) (l : List Int) (rest : Nat) : rowsC done (SI l) rest = rows0 (done ++ [l]) rest := by simp [rows0, rowsC]
theorem rows0_tn {r : Nat → Nat} {hp hp' : HpT} {done : List (List Int)} {rest : Nat} : F2 (F2 (TnS r hp hp')) (rows0 done rest) (rows0 done rest) := by
  unfold rows0
  exact F2.append (F2.map fun _ _ => .cons (TnS.d _) .nil) (F2.refl fun x hx => by
    rw [List.eq_of_mem_replicate hx]; exact .cons (TnS.dx _) .nil)
theorem mk_tn {r : Nat → Nat} {hp hp' : HpT} (ks : KS) : F2 (fun a b => a.1 = b.1 ∧ TnS r hp hp' a.2 b.2) (mk ks) (mk ks) := F2.map fun _ _ => ⟨rfl, TnS.d _⟩
abbrev b10 (c : Coding) (M : Mem) : HpT := [(1, .arr 3 [[SL c.codes, SI c.wrong, .d (.mp (dm M))]]), (0, .arr 2 [[SL c.codes, SI c.wrong]])]
theorem b10_tn {r : Nat → Nat} {hp hp' : HpT} {c : Coding} {M : Mem} (h0 : r 0 = 0) (h1 : r 1 = 1) : F2 (fun p p' => p.1 = r p'.1 ∧ TnO r hp hp' p.2 p'.2) (b10 c M) (b10 c M) :=
  .cons ⟨h1.symm, TnO.arr (.cons (.cons (TnS.d _) (.cons (TnS.d _) (.cons (TnS.d _) .nil))) .nil)⟩ (.cons ⟨h0.symm, TnO.arr (.cons (.cons (TnS.d _) (.cons (TnS.d _) .nil)) .nil)⟩ .nil)
theorem filt_succ {f : Nat → Bool} {j : Nat} : (List.range (j + 1)).filter f = (List.range j).filter f ++ (if f j then [j] else []) := by
  rw [List.range_succ, List.filter_append]
  cases h : f j <;> simp [h]
theorem mput_nil (k : Value) (v : SV) : mput [] k v = [(k, v)] := by unfold mput; rfl
theorem mz129' : (tmz Tryd.prog 129).isSome = true := by rw [mz129]; rfl
theorem dk_get (ks : KS) {i : Nat} (h : i < (dk ks).length) : (dk ks)[i].1 = kv (ks[i]'(by rw [dk_len] at h; exact h)).1 := by simp [dk]
abbrev z4 := And.intro ty.sz0 <| And.intro ty.agg0 <| And.intro ty.elem0 <| And.intro ty.sz3 <| And.intro ty.agg3 <| And.intro ty.elem3 <| And.intro ty.zero3 <| And.intro ty.und3 <| And.intro ty.sz4 <| And.intro ty.agg4 <| And.intro ty.elem4 <| And.intro ty.zero4 <| And.intro ty.und4 <| And.intro ty.sz31 <| And.intro ty.agg31 <| And.intro ty.elem31 <| And.intro ty.zero31 <| And.intro ty.und31 <| And.intro ty.sz39 <| And.intro ty.agg39 <| And.intro ty.elem39 <| And.intro ty.by39 <| And.intro ty.ez39 <| And.intro ty.zero39 <| And.intro ty.und39 <| And.intro ty.sz43 <| And.intro ty.agg43 <| And.intro ty.elem43 <| And.intro ty.by43 <| And.intro ty.ez43 <| And.intro ty.zero43 <| And.intro ty.und43 <| And.intro ty.sz59 <| And.intro ty.agg59 <| And.intro ty.fld59_0 <| And.intro ty.fld59_1 <| And.intro ty.elem59 <| And.intro ty.zero59 <| And.intro ty.pl59 <| And.intro ty.sz122 <| And.intro ty.agg122 <| And.intro ty.fld122_0 <| And.intro ty.fld122_1 <| And.intro ty.elem122 <| And.intro ty.zero122 <| And.intro ty.pl122 <| And.intro ty.sz123 <| And.intro ty.agg123 <| And.intro ty.elem123 <| And.intro ty.sz128 <| And.intro ty.agg128 <| And.intro ty.fld128_0 <| And.intro ty.fld128_1 <| And.intro ty.elem128 <| And.intro ty.zero128 <| And.intro ty.pl128 <| And.intro ty.sz129 <| And.intro ty.agg129 <| And.intro ty.elem129 <| And.intro ty.zero129 <| And.intro ty.sz130 <| And.intro ty.agg130 <| ty.elem130
theorem Codes_err (c : Coding) (hs : c.codes.length < 4611686018427387904) (hw : c.wrong.length < 4611686018427387904) (h0 : c.tried ≠ 0) : CallP Tryd.prog G0 37 [c.s] (.tup [SL [], I c.tried]) := by
  refine CallP.body 79 [.tmp 2, .tmp 3] Tryd.func37 (by kernel_rfl) rfl rfl rfl zP zP ?_
  refine Tr.reg [1] (by
      simp only [↓sxd, sxu, ↓zE, ↓exq, ↓zI, Nat.reduceBEq, Nat.reduceAdd, Nat.reduceLT, Nat.reduceEqDiff]
      (all_goals try exact zF)) ?_
  refine Tr.reg [1, 4, 5] (by
      simp only [↓sxd, sxu, ↓zE, ↓exq, ↓zD, Nat.reduceAdd, Nat.reduceLT, z4]
      (repeat ((with_reducible refine And.intro ?_ ?_); (focus (exact zS))))
      refine CallO.use (ctried_err hs hw h0) ?_
      try simp only [↓sxd, sxu, ↓zE, ↓exq, ↓zN, ↓zM, Nat.reduceBEq, Nat.reduceAdd, Nat.reduceLT, Nat.reduceEqDiff, z4]
      (all_goals try exact zF)) ?_
  refine Tr.seq ?_
  refine Tr.reg [1, 4, 5, 22] (by
      simp only [↓sxd, sxu, ↓zE, ↓exq, Nat.reduceBEq, Nat.reduceLT]
      (all_goals try exact zF)) ?_
  refine Tr.cond rfl (fun h22 => ?_) (fun h22 => ?_)
  · refine Tr.reg [2, 3] (by
        simp only [↓sxd, sxu, ↓zE, ↓exq, Nat.reduceBEq, Nat.reduceLT]
        (all_goals try exact zF)) ?_
    refine Tr.imp (Imp.fin (tm' := [(2, SL []), (3, I c.tried)]) ?_) ?_
    · exact .cons rfl (TnS.dxd _) (.cons rfl (TnS.d _) trivial)
    refine Tr.ret ?_
    (refine ⟨.inr rfl, ?_⟩; first | rfl | exact ⟨rfl, rfl, trivial⟩ | exact ⟨rfl, rfl, rfl, trivial⟩ | (simp only [Res, ResL, ResOK, ↓sxd, sxu, ↓zE, ↓zC, zK, ↓exP, ↓exq, ↓zB, ↓zH, ↓zL, ↓zJ, ↓zD, ↓zN, ↓zM, ↓zI, ↓zO, ↓zG, ↓zQ, ↓zA, ↓zR, Nat.reduceBEq, Nat.reduceAdd, Nat.reduceLT, Nat.reduceMul, Nat.reduceSub, Nat.reduceLeDiff, Nat.reduceEqDiff, Int.reduceLE, Int.reduceLT, Int.reduceToNat, reduceIte, sxe, z4]; (repeat' (first | rfl | exact trivial | exact fun h => h | exact fun h => (by rw [h]; rfl) | apply And.intro | omega | exact Nat.le_of_ble_eq_true rfl))))
  · exact absurd (by simpa using h22) h0
theorem ctried_zero {c : Coding} (h : c.tried = 0) : c.check = 0 := by
  unfold Coding.tried at h
  by_cases hc : c.check = 0
  · exact hc
  · rw [if_pos hc] at h; exact absurd h hc
set_option maxHeartbeats 4000000 in
theorem Codes_ok (c : Coding) (hs : c.codes.length < 4611686018427387904) (hw : c.wrong.length < 4611686018427387904) (h0 : c.tried = 0) : CallP Tryd.prog G0 37 [c.s] (.tup [SL ((List.range c.cols).map fun p => nats (c.codesAt c.root.2 p)), I 0]) := by
  obtain ⟨hok, hn0, hc0⟩ := coding_ok (ctried_zero h0)
  have hcols : (c.codes.getD 0 []).length = c.cols := rfl
  have hc10 := hok.c10
  have hT := ctried_ok hs hw h0
  generalize c.root.2 = M at hT
  refine CallP.body 79 [.tmp 2, .tmp 3] Tryd.func37 (by kernel_rfl) rfl rfl rfl zP zP ?_
  refine Tr.reg [1] (by
      simp only [↓sxd, sxu, ↓zE, ↓exq, ↓zI, Nat.reduceBEq, Nat.reduceAdd, Nat.reduceLT, Nat.reduceEqDiff]
      (all_goals try exact zF)) ?_
  refine Tr.reg [1, 4, 5] (by
      simp only [↓sxd, sxu, ↓zE, ↓exq, ↓zD, Nat.reduceAdd, Nat.reduceLT, z4]
      (repeat ((with_reducible refine And.intro ?_ ?_); (focus (exact zS))))
      refine CallO.use (hT) ?_
      try simp only [↓sxd, sxu, ↓zE, ↓exq, ↓zN, ↓zM, Nat.reduceBEq, Nat.reduceAdd, Nat.reduceLT, Nat.reduceEqDiff, z4]
      (all_goals try exact zF)) ?_
  refine Tr.seq ?_
  refine Tr.reg [1, 4, 5, 22] (by
      simp only [↓sxd, sxu, ↓zE, ↓exq, Nat.reduceBEq, Nat.reduceLT]
      (all_goals try exact zF)) ?_
  refine Tr.cond rfl (fun h22 => ?_) (fun h22 => ?_)
  · simp at h22
  · refine Tr.skip ?_
    refine Tr.reg [1, 4, 6] (by
        simp only [↓sxd, sxu, ↓zE, ↓exq, ↓zB, ↓zJ, ↓zD, ↓zA, Nat.reduceBEq, Nat.reduceAdd, Nat.reduceLT, Nat.reduceEqDiff, Int.reduceLE, sxe, z4, hn0, hcols]
        (all_goals try exact zF)) ?_
    refine Tr.reg [1, 4, 6, 7] (by
        simp only [↓sxd, sxu, ↓zE, ↓exq, ↓zO, ↓zR, Nat.reduceBEq, Nat.reduceAdd, Nat.reduceLT, Nat.reduceEqDiff, z4, mput_nil, mk_ok0]
        (all_goals try exact zF)) ?_
    refine Tr.seq ?_
    refine Tr.reg [1, 4, 6, 7, 34, 35] (by
        simp only [↓sxd, sxu, ↓zE, ↓exq, ↓zB, ↓zJ, Nat.reduceBEq, Nat.reduceLT, z4]
        (all_goals try exact zF)) ?_
    refine Tr.imp (st' := ⟨[(1, .ptr 0 0 0), (4, .ptr 1 0 0), (6, .slc 2 1 0 c.cols c.cols), (7, .d (.mp (dk ([(keyOf 0 e000, ())])))), (34, I c.cols), (35, I 0)], [(2, .arr 1 (rows0 ((List.range 0).map fun q => nats (c.codesAt M q)) (c.cols - 0))), (1, .arr 3 [[SL c.codes, SI c.wrong, .d (.mp (dm M))]]), (0, .arr 2 [[SL c.codes, SI c.wrong]])], 3, 79, [], 0⟩) (Imp.go (fun i => if i < 3 then i else i + 1) [(2, _), (1, _), (0, _)] rfl rfl (.cons _ (.refl _)) (fun _ h => absurd h (Nat.not_lt_zero _)) (fun id h => by simp only [show ¬ id < 3 by omega, if_false]; omega) (.cons rfl (TnS.ptr rfl) (.cons rfl (TnS.ptr rfl) (.cons rfl (TnS.slc rfl) (.cons rfl (TnS.frzm rfl (by simp) (.cons ⟨rfl, TnS.d _⟩ .nil)) (.cons rfl (TnS.d _) (.cons rfl (TnS.d _) trivial)))))) (.cons ⟨rfl, TnO.arr (rows0_tn (done := []) (rest := c.cols))⟩ (b10_tn (r := fun i => if i < 3 then i else i + 1) rfl rfl)) (fun h => h)) (Tr.block (Tr.loopI (fun mm ss => ∃ (p : Nat) (ks : KS), (p ≤ c.cols ∧ At c M p ks) ∧ c.cols - p = mm ∧ ss = ⟨[(1, .ptr 0 0 0), (4, .ptr 1 0 0), (6, .slc 2 1 0 c.cols c.cols), (7, .d (.mp (dk ks))), (34, I c.cols), (35, I p)], [(2, .arr 1 (rows0 ((List.range p).map fun q => nats (c.codesAt M q)) (c.cols - p))), (1, .arr 3 [[SL c.codes, SI c.wrong, .d (.mp (dm M))]]), (0, .arr 2 [[SL c.codes, SI c.wrong]])], 3, 79, [], 0⟩) _ ⟨0, [(keyOf 0 e000, ())], ?_, rfl, rfl⟩ ?_))
    · exact ⟨Nat.zero_le _, at_zero c M⟩
    rintro mm ss ⟨p, ks, hI, rfl, rfl⟩
    obtain ⟨hI, hat⟩ := hI
    refine Tr.reg [1, 4, 6, 7, 34, 35, 36] (by
        simp only [↓sxd, sxu, ↓zE, ↓exq, Nat.reduceBEq, Nat.reduceLT, sxe]
        (all_goals try exact zF)) ?_
    refine Tr.seq ?_
    refine Tr.cond rfl (fun h36 => ?_) (fun h36 => ?_)
    · have hlt : p < c.cols := by simpa using h36
      have hrw : rows0 ((List.range p).map fun q => nats (c.codesAt M q)) (c.cols - p) = rowsC ((List.range p).map fun q => nats (c.codesAt M q)) (.dx []) (c.cols - p - 1) := by
        rw [← rows0_succ]; congr 1; omega
      have hdl : ((List.range p).map fun q => nats (c.codesAt M q)).length = p := by simp
      have hdone : ((List.range (p + 1)).map fun q => nats (c.codesAt M q)) = ((List.range p).map fun q => nats (c.codesAt M q)) ++ [nats (c.codesAt M p)] := by
        rw [List.range_succ, List.map_append]; rfl
      rw [hrw]
      generalize ((List.range p).map fun q => nats (c.codesAt M q)) = done at hdl hdone
      obtain ⟨rest, hrest⟩ : ∃ rest, rest = c.cols - p - 1 := ⟨_, rfl⟩
      rw [← hrest]
      have hrl : ∀ x, (rowsC done x rest).length = c.cols := fun x => by rw [rowsC_len]; omega
      refine Tr.skip ?_
      refine Tr.seq ?_
      refine Tr.block ?_
      refine Tr.reg [1, 4, 6, 7, 8, 34, 35] (by
          simp only [↓sxd, sxu, ↓zE, ↓exq, Nat.reduceBEq, Nat.reduceLT]
          (all_goals try exact zF)) ?_
      refine Tr.reg [1, 4, 6, 7, 8, 9, 34, 35] (by
          simp only [↓sxd, sxu, ↓zE, ↓exq, Nat.reduceBEq, Nat.reduceAdd, Nat.reduceLT]
          (all_goals try exact zF)) ?_
      refine Tr.seq ?_
      refine Tr.reg [1, 4, 6, 7, 8, 9, 34, 35, 39] (by
          simp only [↓sxd, sxu, ↓zE, ↓exq, Nat.reduceBEq, Nat.reduceLT]
          (all_goals try exact zF)) ?_
      refine Tr.imp (st' := ⟨[(1, .ptr 0 0 0), (4, .ptr 1 0 0), (6, .slc 2 1 0 c.cols c.cols), (7, .d (.mp (dk ks))), (8, I p), (9, .mapr 3), (34, I c.cols), (35, I p), (39, I 0)], (4, .arr 1 (((List.range 0).filter (c.canAt M p)).map fun (n : Nat) => [I n])) :: (3, .map (mk [])) :: (2, .arr 1 (rowsC done (.slc 4 1 0 ((List.range 0).filter (c.canAt M p)).length ((List.range 0).filter (c.canAt M p)).length) rest)) :: b10 c M, 5, 79, [], 0⟩) (Imp.goV 1 rfl rfl rfl rfl (by repeat' (first | exact trivial | exact F2.nil | refine F2.cons ?_ ?_ | refine TmV.cons rfl VnS.nil ?_ | refine TmV.cons rfl VnS.same ?_ | refine ⟨rfl, ?_⟩ | exact VnO.same _ | refine VnO.arr ?_ | exact VnS.nil | exact VnS.same | exact F2.refl fun _ _ => VnS.same)) (.cons ⟨rfl, VnO.same _⟩ (.cons ⟨rfl, VnO.arr rowsC_vn⟩ (.cons ⟨rfl, VnO.same _⟩ (.cons ⟨rfl, VnO.same _⟩ .nil))))) (Tr.block (Tr.loopI (fun mm ss => ∃ (j : Nat) (aks : KS), (j ≤ 10 ∧ ∀ k, k ∈ aks.map (·.1) ↔ By c M p j k) ∧ 10 - j = mm ∧ ss = ⟨[(1, .ptr 0 0 0), (4, .ptr 1 0 0), (6, .slc 2 1 0 c.cols c.cols), (7, .d (.mp (dk ks))), (8, I p), (9, .mapr 3), (34, I c.cols), (35, I p), (39, I j)], (4, .arr 1 (((List.range j).filter (c.canAt M p)).map fun (n : Nat) => [I n])) :: (3, .map (mk aks)) :: (2, .arr 1 (rowsC done (.slc 4 1 0 ((List.range j).filter (c.canAt M p)).length ((List.range j).filter (c.canAt M p)).length) rest)) :: b10 c M, 5, 79, [], 0⟩) _ ⟨0, [], ?_, rfl, rfl⟩ ?_))
      · exact ⟨Nat.zero_le _, fun k => ⟨fun h => (by cases h), fun h => absurd h (by_zero c M p k)⟩⟩
      rintro mm ss ⟨j, aks, hI, rfl, rfl⟩
      obtain ⟨hJ, haks⟩ := hI
      have hcl : ((List.range j).filter (c.canAt M p)).length ≤ 10 := by
        have := List.length_filter_le (c.canAt M p) (List.range j)
        rw [List.length_range] at this; omega
      have hfs := filt_succ (f := c.canAt M p) (j := j)
      generalize hcur : (List.range j).filter (c.canAt M p) = cur at hcl hfs
      refine Tr.reg [1, 4, 6, 7, 8, 9, 34, 35, 39, 40] (by
          simp only [↓sxd, sxu, ↓zE, ↓exq, Nat.reduceBEq, Nat.reduceLT]
          (all_goals try exact zF)) ?_
      refine Tr.seq ?_
      refine Tr.cond rfl (fun h40 => ?_) (fun h40 => ?_)
      · have hj : j < 10 := by simp at h40; omega
        refine Tr.skip ?_
        refine Tr.seq ?_
        refine Tr.block ?_
        refine Tr.reg [1, 4, 6, 7, 8, 9, 10, 34, 35, 39] (by
            simp only [↓sxd, sxu, ↓zE, ↓exq, Nat.reduceBEq, Nat.reduceLT]
            (all_goals try exact zF)) ?_
        refine Tr.reg [1, 4, 6, 7, 8, 9, 10, 11, 34, 35, 39] (by
            simp only [↓sxd, sxu, ↓zE, ↓exq, Nat.reduceBEq, Nat.reduceLT]
            (all_goals try exact zF)) ?_
        refine Tr.seq ?_
        refine Tr.reg [1, 4, 6, 7, 8, 9, 10, 11, 34, 35, 39, 43] (by
            simp only [↓sxd, sxu, ↓zE, ↓exq, Nat.reduceBEq, Nat.reduceAdd, Nat.reduceLT, mz129']
            (all_goals try exact zF)) ?_
        refine Tr.imp (st' := ⟨[(1, .ptr 0 0 0), (4, .ptr 1 0 0), (6, .slc 2 1 0 c.cols c.cols), (7, .d (.mp (dk ks))), (8, I p), (9, .mapr 3), (10, I j), (11, B false), (34, I c.cols), (35, I p), (39, I j), (43, .ptr 5 0 0)], (5, .iter (dk ks) []) :: (4, .arr 1 (cur.map fun (n : Nat) => [I n])) :: (3, .map (mk aks)) :: (2, .arr 1 (rowsC done (.slc 4 1 0 cur.length cur.length) rest)) :: b10 c M, 6, 79, [], 0⟩) (Imp.keepAll) (Tr.block (Tr.loopI (fun mm ss => ∃ (seen : List Nat) (bks : KS) (pos : Bool), (seen.Nodup ∧ (∀ i ∈ seen, i < ks.length) ∧ (∀ k, k ∈ bks.map (·.1) ↔ By c M p j k ∨ ∃ es, Of c M p ks seen j es ∧ k = keyOf (p + 1) (c.next p es j).1.2) ∧ (pos = true ↔ ∃ es, Of c M p ks seen j es)) ∧ ks.length - seen.length = mm ∧ ss = ⟨[(1, .ptr 0 0 0), (4, .ptr 1 0 0), (6, .slc 2 1 0 c.cols c.cols), (7, .d (.mp (dk ks))), (8, I p), (9, .mapr 3), (10, I j), (11, B pos), (34, I c.cols), (35, I p), (39, I j), (43, .ptr 5 0 0)], (5, .iter (dk ks) seen) :: (4, .arr 1 (cur.map fun (n : Nat) => [I n])) :: (3, .map (mk bks)) :: (2, .arr 1 (rowsC done (.slc 4 1 0 cur.length cur.length) rest)) :: b10 c M, 6, 79, [], 0⟩) _ ⟨[], aks, false, ?_, rfl, rfl⟩ ?_))
        · exact ⟨.nil, fun i hi => (by cases hi), fun k => (by rw [haks k]; exact ⟨.inl, fun h => h.elim id (fun ⟨es, ⟨i, hi, _⟩, _⟩ => (by cases hi))⟩), ⟨fun h => (by cases h), fun ⟨es, i, hi, _⟩ => (by cases hi)⟩⟩
        rintro mm ss ⟨seen, bks, pos, hI, rfl, rfl⟩
        obtain ⟨hnd, hin, hbks, hpos⟩ := hI
        refine Tr.regK [1, 4, 6, 7, 8, 9, 10, 11, 34, 35, 39, 43, 45] (fun s => ∃ (b : Bool) (kk : Nat) (sn : List Nat), (b = false → ∀ i, i < ks.length → i ∈ seen) ∧ (b = false → sn = seen) ∧ (b = true → kk < ks.length ∧ kk ∉ seen ∧ sn = seen ++ [kk]) ∧ s = ⟨[(1, .ptr 0 0 0), (4, .ptr 1 0 0), (6, .slc 2 1 0 c.cols c.cols), (7, .d (.mp (dk ks))), (8, I p), (9, .mapr 3), (10, I j), (11, B pos), (34, I c.cols), (35, I p), (39, I j), (43, .ptr 5 0 0), (45, B b)], (5, .iter (dk ks) sn) :: (4, .arr 1 (cur.map fun (n : Nat) => [I n])) :: (3, .map (mk bks)) :: (2, .arr 1 (rowsC done (.slc 4 1 0 cur.length cur.length) rest)) :: b10 c M, 6, 79, [], 0⟩) (by
            simp only [↓sxd, sxu, ↓zE, ↓exq, ↓zN, Nat.reduceBEq, Nat.reduceAdd, Nat.reduceLT, Nat.reduceEqDiff]
            exact ⟨fun hall => ⟨false, 0, seen, fun _ i hi => hall i (by rw [dk_len]; exact hi), fun _ => rfl, fun h => (by cases h), rfl⟩, fun kk hk hn => ⟨true, kk, seen ++ [kk], fun h => (by cases h), fun h => (by cases h), fun _ => ⟨by rw [dk_len] at hk; exact hk, hn, rfl⟩, rfl⟩⟩) ?_
        rintro s ⟨b, kk, sn, hb0, hb1, hb2, rfl⟩
        refine Tr.seq ?_
        refine Tr.cond rfl (fun h45 => ?_) (fun h45 => ?_)
        · obtain ⟨hkk, hnk, rfl⟩ := hb2 h45
          obtain ⟨es0, hes0, hkey⟩ := (hat _).1 (List.mem_map.2 ⟨ks[kk], List.getElem_mem hkk, rfl⟩)
          obtain ⟨a0, a1, a2, rfl⟩ := three (stTo_len c M p es0 hes0)
          have hkv : kv (ks[kk]).1 = key4 p a0 a1 a2 := by rw [hkey]; rfl
          have hdk : kk < (dk ks).length := by rw [dk_len]; exact hkk
          have hN := next_c c hok p hlt a0 a1 a2 (j : Int)
          have hnl := next_len c p [a0, a1, a2] rfl (j : Int)
          have hna := next_at c p [a0, a1, a2] (j : Int)
          have hofs := fun es => of_snoc (c := c) (m := M) (p := p) (ks := ks) (seen := seen) (j := j) hkk hkey hes0 (es := es)
          have hSE : c.stepE M p [a0, a1, a2] j = ((c.next p [a0, a1, a2] j).2.2 && c.goes M (p + 1) (c.next p [a0, a1, a2] j).1.2) := rfl
          generalize hNe : c.next p [a0, a1, a2] (j : Int) = N at hN hnl hna hSE
          obtain ⟨⟨np, nes⟩, er, ok⟩ := N
          simp only at hN hnl hna hSE
          obtain ⟨d0, d1, d2, rfl⟩ := three hnl
          have hnd2 : (seen ++ [kk]).Nodup := List.pairwise_append.2 ⟨hnd, List.pairwise_singleton _ _, fun x hx y hy => by
            rw [List.mem_singleton] at hy; subst hy
            exact fun hc => hnk (hc ▸ hx)⟩
          have hin2 : ∀ i ∈ seen ++ [kk], i < ks.length := fun i hi => by
            rcases List.mem_append.1 hi with hi | hi
            · exact hin i hi
            · rw [List.mem_singleton] at hi; subst hi; exact hkk
          have hlen2 : (seen ++ [kk]).length ≤ ks.length := by
            have := hnd2.length_le_of_subset (l₂ := List.range ks.length) (fun x hx => List.mem_range.2 (hin2 x hx))
            rwa [List.length_range] at this
          have hlen1 : (seen ++ [kk]).length = seen.length + 1 := by simp
          refine Tr.skip ?_
          refine Tr.block ?_
          refine Tr.reg [1, 4, 6, 7, 8, 9, 10, 11, 12, 34, 35, 39, 43] (by
              simp only [↓sxd, sxu, ↓zE, ↓exq, ↓zN, ↓zM, Nat.reduceBEq, Nat.reduceAdd, Nat.reduceLT, Nat.reduceEqDiff, z4]
              refine ⟨kk, seen, rfl, hdk, ?_⟩
              rw [dk_get, hkv]
              simp only [sxu, Nat.reduceAdd]
              (all_goals try exact zF)) ?_
          refine Tr.reg [1, 4, 6, 7, 8, 9, 10, 11, 13, 15, 34, 35, 39, 43] (by
              simp only [↓sxd, sxu, ↓zE, ↓exq, ↓zD, Nat.reduceBEq, Nat.reduceAdd, Nat.reduceLT, z4]
              (repeat ((with_reducible refine And.intro ?_ ?_); (focus (exact zS))))
              refine CallO.use (hN) ?_
              try simp only [↓sxd, sxu, ↓zE, ↓exq, ↓zN, ↓zM, Nat.reduceBEq, Nat.reduceAdd, Nat.reduceLT, Nat.reduceEqDiff, z4, sol]
              (all_goals try exact zF)) ?_
          refine Tr.reg [1, 4, 6, 7, 8, 9, 10, 11, 13, 34, 35, 39, 43, 61] (by
              simp only [↓sxd, sxu, ↓zE, ↓exq, Nat.reduceBEq, Nat.reduceLT]
              iterate 2
                (repeat ((with_reducible refine And.intro ?_ ?_); (focus (exact zS))))
                refine GdO.mk _ (fun hg => by simp only [sxu, ↓exq, ↓zD, Nat.reduceBEq, Nat.reduceAdd, Nat.reduceLT, z4, hg]; (all_goals try exact zF)) ?_
                simp only [↓sxd, sxu, ↓zE, Nat.reduceBEq, Nat.reduceLT]
              (repeat ((with_reducible refine And.intro ?_ ?_); (focus (exact zS))))
              refine GdO.mk (B (c.goes M (p + 1) [d0, d1, d2])) (fun hg => by
                obtain rfl := hna hg
                simp only [sxu, ↓exq, ↓zB, Nat.reduceBEq, hg]
                (repeat ((with_reducible refine And.intro ?_ ?_); (focus (exact zS))))
                exact CallP.use (goes_c c hn0 M (p + 1) d0 d1 d2) ⟨rfl, rfl, rfl⟩) ?_
              try simp only [↓sxd, sxu, ↓zE, ↓exq, ↓zH, Nat.reduceBEq, Nat.reduceLT]
              (all_goals try exact zF)) ?_
          refine Tr.cond rfl (fun h61 => ?_) (fun h61 => ?_)
          · have hse : c.stepE M p [a0, a1, a2] j = true := by rw [hSE]; exact h61
            have hok2 : ok = true := by
              have : _ := h61
              rw [Bool.and_eq_true] at this; exact this.1
            obtain rfl := hna hok2
            have hfacts : (seen ++ [kk]).Nodup ∧ (∀ i ∈ seen ++ [kk], i < ks.length) ∧ (∀ k, k ∈ (aput bks (((p + 1 : Nat) : Int), d0, d1, d2) ()).map (·.1) ↔ By c M p j k ∨ ∃ es, Of c M p ks (seen ++ [kk]) j es ∧ k = keyOf (p + 1) (c.next p es j).1.2) ∧ (true = true ↔ ∃ es, Of c M p ks (seen ++ [kk]) j es) := by
              refine ⟨hnd2, hin2, fun k => ?_, fun _ => ⟨_, (hofs _).2 (.inr ⟨rfl, hse⟩)⟩, fun _ => rfl⟩
              rw [aput_mem, hbks k]
              constructor
              · rintro (rfl | h | ⟨es, h1, h2⟩)
                · exact .inr ⟨_, (hofs _).2 (.inr ⟨rfl, hse⟩), by rw [hNe]; rfl⟩
                · exact .inl h
                · exact .inr ⟨es, (hofs es).2 (.inl h1), h2⟩
              · rintro (h | ⟨es, h1, h2⟩)
                · exact .inr (.inl h)
                · rcases (hofs es).1 h1 with h1 | ⟨rfl, _⟩
                  · exact .inr (.inr ⟨es, h1, h2⟩)
                  · rw [hNe] at h2; exact .inl h2
            refine Tr.reg1 [1, 4, 6, 7, 8, 9, 10, 11, 34, 35, 39, 43] (by
                simp only [↓sxd, sxu, ↓zE, ↓exq, ↓zD, ↓zR, Nat.reduceBEq, Nat.reduceAdd, Nat.reduceLT, Nat.reduceEqDiff, z4, mk_ok, mk_put]
                (all_goals try exact zF)) ?_
            refine ⟨_, _, ?_, Imp.go (fun i => if i < 6 then i else i + 2) ((5, _) :: (4, _) :: (3, _) :: (2, _) :: b10 c M) rfl rfl (.cons _ (.cons _ (.refl _))) (fun _ h => absurd h (Nat.not_lt_zero _)) (fun id h => by simp only [show ¬ id < 6 by omega, if_false]; omega) zT (.cons ⟨rfl, TnO.iter _ _⟩ (.cons ⟨rfl, TnO.arr (F2.map fun _ _ => .cons (TnS.d _) .nil)⟩ (.cons ⟨rfl, TnO.map (mk_tn _)⟩ (.cons ⟨rfl, TnO.arr (rowsC_tn (r := fun i => if i < 6 then i else i + 2) (TnS.slc (id := 4) (id' := 4) rfl))⟩ (b10_tn (r := fun i => if i < 6 then i else i + 2) rfl rfl))))) (fun h => h), ⟨seen ++ [kk], _, _, hfacts, rfl, rfl⟩⟩
            omega
          · have hse : c.stepE M p [a0, a1, a2] j = false := by rw [hSE]; exact h61
            have hfacts : (seen ++ [kk]).Nodup ∧ (∀ i ∈ seen ++ [kk], i < ks.length) ∧ (∀ k, k ∈ bks.map (·.1) ↔ By c M p j k ∨ ∃ es, Of c M p ks (seen ++ [kk]) j es ∧ k = keyOf (p + 1) (c.next p es j).1.2) ∧ (pos = true ↔ ∃ es, Of c M p ks (seen ++ [kk]) j es) := by
              have hof : ∀ es, Of c M p ks (seen ++ [kk]) j es ↔ Of c M p ks seen j es := fun es => by
                rw [hofs es]
                exact ⟨fun h => h.elim id (fun h => by rw [hse] at h; cases h.2), .inl⟩
              refine ⟨hnd2, hin2, fun k => ?_, ?_⟩
              · rw [hbks k]
                exact or_congr_right ⟨fun ⟨es, h1, h2⟩ => ⟨es, (hof es).2 h1, h2⟩, fun ⟨es, h1, h2⟩ => ⟨es, (hof es).1 h1, h2⟩⟩
              · rw [hpos]
                exact ⟨fun ⟨es, h⟩ => ⟨es, (hof es).2 h⟩, fun ⟨es, h⟩ => ⟨es, (hof es).1 h⟩⟩
            refine Tr.skip ?_
            refine ⟨_, _, ?_, Imp.go (fun i => if i < 6 then i else i + 2) ((5, _) :: (4, _) :: (3, _) :: (2, _) :: b10 c M) rfl rfl (.cons _ (.cons _ (.refl _))) (fun _ h => absurd h (Nat.not_lt_zero _)) (fun id h => by simp only [show ¬ id < 6 by omega, if_false]; omega) zT (.cons ⟨rfl, TnO.iter _ _⟩ (.cons ⟨rfl, TnO.arr (F2.map fun _ _ => .cons (TnS.d _) .nil)⟩ (.cons ⟨rfl, TnO.map (mk_tn _)⟩ (.cons ⟨rfl, TnO.arr (rowsC_tn (r := fun i => if i < 6 then i else i + 2) (TnS.slc (id := 4) (id' := 4) rfl))⟩ (b10_tn (r := fun i => if i < 6 then i else i + 2) rfl rfl))))) (fun h => h), ⟨seen ++ [kk], _, _, hfacts, rfl, rfl⟩⟩
            omega
        · obtain rfl := hb1 h45
          have hall := hb0 h45
          have hby : ∀ k, k ∈ bks.map (·.1) ↔ By c M p (j + 1) k := fun k => by
            rw [hbks k, by_succ]
            refine or_congr_right ⟨fun ⟨es, h1, h2⟩ => ⟨es, (of_all hat hall).1 h1, h2⟩, fun ⟨es, h1, h2⟩ => ⟨es, (of_all hat hall).2 h1, h2⟩⟩
          have hcan : pos = c.canAt M p j := by
            rw [Bool.eq_iff_iff, hpos]
            unfold Coding.canAt
            rw [List.any_eq_true]
            exact ⟨fun ⟨es, h⟩ => ⟨es, (of_all hat hall).1 h⟩, fun ⟨es, h1, h2⟩ => ⟨es, (of_all hat hall).2 ⟨h1, h2⟩⟩⟩
          rw [← hcan] at hfs
          refine Tr.exit ?_
          refine Tr.reg [1, 4, 6, 7, 8, 9, 10, 34, 35, 39, 64] (by
              simp only [↓sxd, sxu, ↓zE, ↓exq, Nat.reduceBEq, Nat.reduceLT]
              (all_goals try exact zF)) ?_
          refine Tr.cond rfl (fun h64 => ?_) (fun h64 => ?_)
          · obtain rfl : pos = true := h64
            have hc2 : (cur.length + 1 ≤ 1073741824) = True := by simp; omega
            refine Tr.reg1 [1, 4, 6, 7, 8, 9, 34, 35, 39] (by
                simp only [↓sxd, sxu, ↓zE, ↓exq, ↓zB, ↓zD, ↓zG, ↓zQ, Nat.reduceBEq, Nat.reduceAdd, Nat.reduceLT, Nat.reduceLeDiff, Nat.reduceEqDiff, sxe, z4, hrl, rowsC_get hdl, rowsC_set hdl, hlt]
                (all_goals try exact zF)) ?_
            have w1 : IntKind.i64.wrap ((j : Int) + 1) = ((j + 1 : Nat) : Int) := by rw [wr (by omega) (by omega)]; rfl
            refine Tr.reg1 [1, 4, 6, 7, 8, 9, 34, 35, 39] (by
                simp only [↓sxd, sxu, ↓zE, ↓exq, Nat.reduceBEq, Nat.reduceLT, w1]
                (all_goals try exact zF)) ?_
            refine ⟨_, _, ?_, ?_, ⟨j + 1, bks, ⟨hj, hby⟩, rfl, rfl⟩⟩
            · omega
            · rw [hfs]
              simp only [if_true, List.map_append, List.map_cons, List.map_nil, List.length_append, List.length_cons, List.length_nil, Nat.zero_add]
              first |(exact Imp.go (fun i => if i = 4 then 6 else if i < 4 then i else i + 2) ((6, .arr 1 (cur.map (fun (n : Nat) => [I n]) ++ [[I j]])) :: (3, .map (mk bks)) :: (2, .arr 1 (rowsC done (.slc 6 1 0 (cur.length + 1) (cur.length + 1)) rest)) :: b10 c M) rfl rfl (.cons_cons _ (.cons _ (.refl _))) (fun _ h => absurd h (Nat.not_lt_zero _)) (fun id h => by simp only [show ¬ id = 4 by omega, show ¬ id < 4 by omega, if_false]; omega) zT (.cons ⟨rfl, TnO.arr (F2.append (F2.map fun _ _ => .cons (TnS.d _) .nil) (.cons (.cons (TnS.d _) .nil) .nil))⟩ (.cons ⟨rfl, TnO.map (mk_tn _)⟩ (.cons ⟨rfl, TnO.arr (rowsC_tn (r := fun i => if i = 4 then 6 else if i < 4 then i else i + 2) (TnS.slc (id := 6) (id' := 4) rfl))⟩ (b10_tn (r := fun i => if i = 4 then 6 else if i < 4 then i else i + 2) rfl rfl)))) (fun h => h)) |(exact Imp.go (fun i => if i < 5 then i else i + 1) ((4, .arr 1 (cur.map (fun (n : Nat) => [I n]))) :: (3, .map (mk bks)) :: (2, .arr 1 (rowsC done (.slc 4 1 0 cur.length cur.length) rest)) :: b10 c M) rfl rfl (.cons _ (.refl _)) (fun _ h => absurd h (Nat.not_lt_zero _)) (fun id h => by simp only [show ¬ id < 5 by omega, if_false]; omega) zT (.cons ⟨rfl, TnO.arr (F2.map fun _ _ => .cons (TnS.d _) .nil)⟩ (.cons ⟨rfl, TnO.map (mk_tn _)⟩ (.cons ⟨rfl, TnO.arr (rowsC_tn (r := fun i => if i < 5 then i else i + 1) (TnS.slc (id := 4) (id' := 4) rfl))⟩ (b10_tn (r := fun i => if i < 5 then i else i + 1) rfl rfl)))) (fun h => h))
          · obtain rfl : pos = false := h64
            refine Tr.skip ?_
            have w1 : IntKind.i64.wrap ((j : Int) + 1) = ((j + 1 : Nat) : Int) := by rw [wr (by omega) (by omega)]; rfl
            refine Tr.reg1 [1, 4, 6, 7, 8, 9, 34, 35, 39] (by
                simp only [↓sxd, sxu, ↓zE, ↓exq, Nat.reduceBEq, Nat.reduceLT, w1]
                (all_goals try exact zF)) ?_
            refine ⟨_, _, ?_, ?_, ⟨j + 1, bks, ⟨hj, hby⟩, rfl, rfl⟩⟩
            · omega
            · rw [hfs]
              simp only [Bool.false_eq_true, if_false, List.append_nil]
              first |(exact Imp.go (fun i => if i = 4 then 6 else if i < 4 then i else i + 2) ((6, .arr 1 (cur.map (fun (n : Nat) => [I n]) ++ [[I j]])) :: (3, .map (mk bks)) :: (2, .arr 1 (rowsC done (.slc 6 1 0 (cur.length + 1) (cur.length + 1)) rest)) :: b10 c M) rfl rfl (.cons_cons _ (.cons _ (.refl _))) (fun _ h => absurd h (Nat.not_lt_zero _)) (fun id h => by simp only [show ¬ id = 4 by omega, show ¬ id < 4 by omega, if_false]; omega) zT (.cons ⟨rfl, TnO.arr (F2.append (F2.map fun _ _ => .cons (TnS.d _) .nil) (.cons (.cons (TnS.d _) .nil) .nil))⟩ (.cons ⟨rfl, TnO.map (mk_tn _)⟩ (.cons ⟨rfl, TnO.arr (rowsC_tn (r := fun i => if i = 4 then 6 else if i < 4 then i else i + 2) (TnS.slc (id := 6) (id' := 4) rfl))⟩ (b10_tn (r := fun i => if i = 4 then 6 else if i < 4 then i else i + 2) rfl rfl)))) (fun h => h)) |(exact Imp.go (fun i => if i < 5 then i else i + 1) ((4, .arr 1 (cur.map (fun (n : Nat) => [I n]))) :: (3, .map (mk bks)) :: (2, .arr 1 (rowsC done (.slc 4 1 0 cur.length cur.length) rest)) :: b10 c M) rfl rfl (.cons _ (.refl _)) (fun _ h => absurd h (Nat.not_lt_zero _)) (fun id h => by simp only [show ¬ id < 5 by omega, if_false]; omega) zT (.cons ⟨rfl, TnO.arr (F2.map fun _ _ => .cons (TnS.d _) .nil)⟩ (.cons ⟨rfl, TnO.map (mk_tn _)⟩ (.cons ⟨rfl, TnO.arr (rowsC_tn (r := fun i => if i < 5 then i else i + 1) (TnS.slc (id := 4) (id' := 4) rfl))⟩ (b10_tn (r := fun i => if i < 5 then i else i + 1) rfl rfl)))) (fun h => h))
      · have hj : j = 10 := by simp at h40; omega
        subst hj
        refine Tr.exit ?_
        refine Tr.reg1 [1, 4, 6, 7, 34, 35] (by
            simp only [↓sxd, sxu, ↓zE, ↓exq, Nat.reduceBEq, Nat.reduceLT]
            (all_goals try exact zF)) ?_
        have w1 : IntKind.i64.wrap ((p : Int) + 1) = ((p + 1 : Nat) : Int) := by rw [wr (by omega) (by omega)]; rfl
        refine Tr.reg1 [1, 4, 6, 7, 34, 35] (by
            simp only [↓sxd, sxu, ↓zE, ↓exq, Nat.reduceBEq, Nat.reduceLT, w1]
            (all_goals try exact zF)) ?_
        have hca : nats (c.codesAt M p) = nats cur := by rw [← hcur]; rfl
        refine ⟨_, _, ?_, ?_, ⟨p + 1, aks, ⟨hlt, by_ten haks⟩, rfl, rfl⟩⟩
        · omega
        · rw [hdone, hca, show c.cols - (p + 1) = rest by omega, ← rowsC_done]
          exact Imp.go (fun i => if i < 3 then i else i + 2) ((2, .arr 1 (rowsC done (.slc 4 1 0 cur.length cur.length) rest)) :: b10 c M) rfl rfl (.cons _ (.cons _ (.refl _))) (fun _ h => absurd h (Nat.not_lt_zero _)) (fun id h => by simp only [show ¬ id < 3 by omega, if_false]; omega) (.cons rfl (TnS.ptr rfl) (.cons rfl (TnS.ptr rfl) (.cons rfl (TnS.slc rfl) (.cons rfl (TnS.frzm (ds := dk aks) rfl (by simp) (F2.map fun _ _ => ⟨rfl, TnS.d _⟩)) (.cons rfl (TnS.d _) (.cons rfl (TnS.d _) trivial)))))) (.cons ⟨rfl, TnO.arr (rowsC_tn (TnS.frz0 (es := cur.map fun (n : Nat) => [I n]) rfl (by simp) (by simp) (by simp) (by rw [nats, dI, List.map_map]; exact F2.map fun n _ => .cons (TnS.d _) .nil)))⟩ (b10_tn (r := fun i => if i < 3 then i else i + 2) rfl rfl)) (fun h => h)
    · have hge : p = c.cols := by simp at h36; omega
      subst hge
      refine Tr.exit ?_
      refine Tr.reg [2, 3] (by
          simp only [↓sxd, sxu, ↓zE, ↓exq, Nat.reduceBEq, Nat.reduceLT]
          (all_goals try exact zF)) ?_
      refine Tr.imp (Imp.fin (tm' := [(2, SL ((List.range c.cols).map fun p => nats (c.codesAt M p))), (3, I 0)]) ?_) ?_
      · refine .cons rfl ?_ (.cons rfl (TnS.d _) trivial)
        refine TnS.frz0 (es := rows0 ((List.range c.cols).map fun q => nats (c.codesAt M q)) (c.cols - c.cols)) rfl (by simp) (by simp) (by rw [rows0]; simp) ?_
        rw [Nat.sub_self, rows0, List.replicate_zero, List.append_nil, dL]
        exact F2.map fun n _ => .cons (TnS.d _) .nil
      refine Tr.ret ?_
      (refine ⟨.inr rfl, ?_⟩; first | rfl | exact ⟨rfl, rfl, trivial⟩ | exact ⟨rfl, rfl, rfl, trivial⟩ | (simp only [Res, ResL, ResOK, ↓sxd, sxu, ↓zE, ↓zC, zK, ↓exP, ↓exq, ↓zB, ↓zH, ↓zL, ↓zJ, ↓zD, ↓zN, ↓zM, ↓zI, ↓zO, ↓zG, ↓zQ, ↓zA, ↓zR, Nat.reduceBEq, Nat.reduceAdd, Nat.reduceLT, Nat.reduceMul, Nat.reduceSub, Nat.reduceLeDiff, Nat.reduceEqDiff, Int.reduceLE, Int.reduceLT, Int.reduceToNat, reduceIte, sxe, z4]; (repeat' (first | rfl | exact trivial | exact fun h => h | exact fun h => (by rw [h]; rfl) | apply And.intro | omega | exact Nat.le_of_ble_eq_true rfl))))
theorem Codes_c (c : Coding) (hs : c.codes.length < 4611686018427387904) (hw : c.wrong.length < 4611686018427387904) : CallP Tryd.prog G0 37 [c.s] (.tup [SL c.codesS.1, I c.codesS.2]) := by
  unfold Coding.codesS
  by_cases h : c.tried = 0
  · rw [if_pos h]; exact Codes_ok c hs hw h
  · rw [if_neg h]; exact Codes_err c hs hw h
end Go.Proofs.YtcnkbdfkjhlbiaaDoor
namespace Go.Sy
def pickArgs (o : Oper) (ρ : Operand → SV) : Option (SV × SV × SV) := match o.op with | .pick c a b => some (ρ c, ρ a, ρ b) | _ => none
theorem wT (a b : Bool) (K : SV → Prop) (h : K (.d (.lit (.bool (a || b))))) : zH (.d (.lit (.bool a))) (.d (.lit (.bool true))) (if (!a) = true then .d (.lit (.bool b)) else .unk) K := by
  cases a <;> cases b <;> exact h
theorem exq_pick {P : Program} {G : Nat → Option (List D)} {o : Oper} {ρ : Operand → SV} {hp : HpT} {nx : Nat} {K : KT} {x y z : SV} (h : pickArgs o ρ = some (x, y, z)) (hK : zH x y z fun r => K r hp nx) : exq P G o ρ hp nx K := by
  unfold pickArgs at h
  unfold exq
  split at h
  · rename_i c a b ho
    simp only [Option.some.injEq, Prod.mk.injEq] at h
    obtain ⟨rfl, rfl, rfl⟩ := h
    rw [ho]; exact hK
  · cases h
section
variable {P : Program} {G : Nat → Option (List D)}
theorem GdO.or {all : List Oper} {o : Oper} {os : List Oper} {st : St} {g : Bool} {K : St → Prop} {a b : Bool} (h : g = true → pickArgs o (fun x => gstrip (ev G st.tm x)) = some (.d (.lit (.bool a)), .d (.lit (.bool true)), if (!a) = true then .d (.lit (.bool b)) else .unk))
    (k : xA P G all os ⟨putT o.dst (.whn g (.d (.lit (.bool (a || b))))) st.tm, st.hp, st.nx, st.nt, st.df, st.nb⟩ K) : GdO P G all o os st g K :=
  GdO.mk _ (fun hg => exq_pick (h hg) (wT a b _ ⟨rfl, rfl, rfl⟩)) k
theorem pick_callV {o : Oper} {ρ : Operand → SV} {t : SV × SV × SV} (h : pickArgs o ρ = some t) : callV o = false := by
  unfold pickArgs at h
  unfold callV
  split at h
  · rename_i ho; rw [ho]
  · cases h
theorem GdD.or {ops : Array Oper} {ul louds : List Nat} {o : Oper} {is : List Nat} {st : St} {g : Bool} {lds : List Nat} {K : St → Prop} {a b : Bool} (h : g = true → pickArgs o (fun x => gstrip (ev G st.tm x)) = some (.d (.lit (.bool a)), .d (.lit (.bool true)), if (!a) = true then .d (.lit (.bool b)) else .unk))
    (k : exY P G ops ul louds is ⟨putT o.dst (.whn g (.d (.lit (.bool (a || b))))) st.tm, st.hp, st.nx, st.nt, st.df, st.nb⟩ lds K) : GdD P G ops ul louds o is st g lds K :=
  GdD.mk _ (fun hg => by rw [x5 (pick_callV (h hg))]; exact exq_pick (h hg) (wT a b _ ⟨rfl, rfl, rfl⟩)) k
end
end Go.Sy
