/- Lemmas, part ZGK. Conditions: none. -/
import Derived.Test.YtijechcadlklhaaGreatZGJ
set_option linter.unusedVariables false
namespace Go.Sy
def addA (i : Nat) (dst : Option Tmp) (acc : List (Nat × Tmp)) : List (Nat × Tmp) := match dst with | some d => (i, d) :: acc | none => acc
section
variable {P : Program} {G : Nat → Option (List D)} {ro : Option Nat} {ops : Array Oper} {ul louds : List Nat}
def exV (P : Program) (G : Nat → Option (List D)) (ul louds : List Nat) : List Oper → Nat → List (Nat × Tmp) → St → List Nat → (St → Prop) → Prop
  | [], _, _, st, _, K => K st
  | o :: os, i, acc, st, lds, K => dstOk o.dst st.nt ∧ match o.guard with
    | none => match o.op with
      | .call ⟨.value f, args, _⟩ => match ev G st.tm f with
        | .clo (.func fid) first cap => louds.contains i = false ∧ ∃ r, CallP P G fid (first ++ args.toList.map (ev G st.tm) ++ cap) r ∧ exV P G ul louds os (i + 1) (addA i o.dst acc) ⟨putT o.dst r st.tm, st.hp, st.nx, st.nt, st.df, st.nb⟩ lds K
        | _ => False
      | .next .. => False
      | _ => exq P G o (ev G st.tm) st.hp st.nx fun r hp' nx' => ldOk (louds.contains i) st.hp hp' st.nx nx' lds ∧
          exV P G ul louds os (i + 1) (addA i o.dst acc) ⟨putT o.dst r st.tm, hp', nx', st.nt, st.df, st.nb⟩ (if ul.contains i then addRd (zJ o (ev G st.tm)) lds else lds) K
    | some (j, want) => louds.contains i = false ∧ match acc.lookup j with
      | some g => match gcond ((st.tm.lookup g).getD .unk) want with
        | some b => ∃ r0, (b = true → exP P G o (fun x => gstrip (ev G st.tm x)) st.hp st.nx r0 st.hp st.nx) ∧
            exV P G ul louds os (i + 1) (addA i o.dst acc) ⟨putT o.dst (.whn b r0) st.tm, st.hp, st.nx, st.nt, st.df, st.nb⟩ (if ul.contains i then addRd (zJ o (fun x => gstrip (ev G st.tm x))) lds else lds) K
        | none => False
      | none => False
def CallV (P : Program) (G : Nat → Option (List D)) (ul louds : List Nat) (i : Nat) (acc : List (Nat × Tmp)) (dst : Option Tmp) (f : FuncId) (args : List SV) (os : List Oper) (st : St) (lds : List Nat) (K : St → Prop) : Prop :=
  ∃ r, CallP P G f args r ∧ exV P G ul louds os (i + 1) (addA i dst acc) ⟨putT dst r st.tm, st.hp, st.nx, st.nt, st.df, st.nb⟩ lds K
def GdV (P : Program) (G : Nat → Option (List D)) (ul louds : List Nat) (i : Nat) (acc : List (Nat × Tmp)) (o : Oper) (os : List Oper) (st : St) (b : Bool) (lds : List Nat) (K : St → Prop) : Prop :=
  ∃ r0, (b = true → exP P G o (fun x => gstrip (ev G st.tm x)) st.hp st.nx r0 st.hp st.nx) ∧ exV P G ul louds os (i + 1) (addA i o.dst acc) ⟨putT o.dst (.whn b r0) st.tm, st.hp, st.nx, st.nt, st.df, st.nb⟩ lds K
def z0 (P : Program) (G : Nat → Option (List D)) (ul louds : List Nat) (i : Nat) (acc : List (Nat × Tmp)) (o : Oper) (os : List Oper) (st : St) (lds : List Nat) (K : St → Prop) : Prop :=
  match o.guard with
  | none => match o.op with
    | .call ⟨.value f, args, _⟩ => match ev G st.tm f with
      | .clo (.func fid) first cap => louds.contains i = false ∧ CallV P G ul louds i acc o.dst fid (first ++ args.toList.map (ev G st.tm) ++ cap) os st lds K
      | _ => False
    | .next .. => False
    | _ => exq P G o (ev G st.tm) st.hp st.nx fun r hp' nx' => ldOk (louds.contains i) st.hp hp' st.nx nx' lds ∧
        exV P G ul louds os (i + 1) (addA i o.dst acc) ⟨putT o.dst r st.tm, hp', nx', st.nt, st.df, st.nb⟩ (if ul.contains i then addRd (zJ o (ev G st.tm)) lds else lds) K
  | some (j, want) => louds.contains i = false ∧ match acc.lookup j with
    | some g => match gcond ((st.tm.lookup g).getD .unk) want with
      | some b => GdV P G ul louds i acc o os st b (if ul.contains i then addRd (zJ o (fun x => gstrip (ev G st.tm x))) lds else lds) K
      | none => False
    | none => False
theorem zZ {i : Nat} {acc : List (Nat × Tmp)} {st : St} {lds : List Nat} {K : St → Prop} : exV P G ul louds [] i acc st lds K = K st := by unfold exV; rfl
theorem zY {o : Oper} {os : List Oper} {i : Nat} {acc : List (Nat × Tmp)} {st : St} {lds : List Nat} {K : St → Prop} :
    exV P G ul louds (o :: os) i acc st lds K = (dstOk o.dst st.nt ∧ z0 P G ul louds i acc o os st lds K) := by
  rw [exV.eq_def]
  simp only [z0, CallV, GdV]
theorem GdV.mk {i : Nat} {acc : List (Nat × Tmp)} {o : Oper} {os : List Oper} {st : St} {b : Bool} {lds : List Nat} {K : St → Prop} (r : SV) (h : b = true → exP P G o (fun x => gstrip (ev G st.tm x)) st.hp st.nx r st.hp st.nx)
    (k : exV P G ul louds os (i + 1) (addA i o.dst acc) ⟨putT o.dst (.whn b r) st.tm, st.hp, st.nx, st.nt, st.df, st.nb⟩ lds K) : GdV P G ul louds i acc o os st b lds K := ⟨r, h, k⟩
def mkV (louds : List Nat) : List Oper → Nat → List (Nat × Oper × Bool)
  | [], _ => []
  | o :: os, i => (i, o, louds.contains i) :: mkV louds os (i + 1)
theorem mkV_get : ∀ (os : List Oper) (i : Nat) (x : Nat × Oper × Bool), x ∈ mkV louds os i → i ≤ x.1 ∧ os[x.1 - i]? = some x.2.1
  | [], _, _, h => by cases h
  | o :: os, i, x, h => by
    rcases List.mem_cons.1 h with rfl | h
    · exact ⟨Nat.le_refl _, by simp⟩
    · obtain ⟨h1, h2⟩ := mkV_get os (i + 1) x h
      refine ⟨by omega, ?_⟩
      rw [show x.1 - i = (x.1 - (i + 1)) + 1 by omega, List.getElem?_cons_succ]
      exact h2
theorem xI {K : St → Prop} : ∀ (os : List Oper) (i : Nat) (acc : List (Nat × Tmp)) (st : St) (lds : List Nat), (∀ k, os[k]? = ops.toList[i + k]?) → (∀ j g, acc.lookup j = some g → (ops.toList[j]?).bind (·.dst) = some g) → exV P G ul louds os i acc st lds K →
    ∃ evs stf, RunL st evs stf ∧ evs.map (fun e => (e.i, e.o, e.ld)) = mkV louds os i ∧ (∀ e ∈ evs, EvAt P G ops e.ld e.o e.st e.r e.hp e.nx) ∧
      (∀ e ∈ evs, e.ld = true → ∀ id ∈ lds, e.hp.lookup id = e.st.hp.lookup id) ∧
      evs.Pairwise (fun x y => y.ld = true → ul.contains x.i = true → ∀ id, rdEv G x.o x.st = some id → y.hp.lookup id = y.st.hp.lookup id) ∧ K stf
  | [], i, acc, st, lds, _, _, h => ⟨[], st, rfl, rfl, fun _ h => by simp at h, fun _ h => by simp at h, .nil, by rw [zZ] at h; exact h⟩
  | o :: os, i, acc, st, lds, ho, ha, h => by
    have hi : ops.toList[i]? = some o := by have := ho 0; simpa using this.symm
    have ho' : ∀ k, os[k]? = ops.toList[i + 1 + k]? := fun k => by have := ho (k + 1); simp only [List.getElem?_cons_succ] at this; rw [this]; congr 1; omega
    have ha' : ∀ j g, (addA i o.dst acc).lookup j = some g → (ops.toList[j]?).bind (·.dst) = some g := fun j g hg => by
      unfold addA at hg
      split at hg
      · rename_i d hd
        rw [List.lookup_cons] at hg
        by_cases hj : j = i
        · subst hj
          simp only [beq_self_eq_true] at hg
          rw [hi]; simpa [hd] using hg
        · rw [show (j == i) = false by simpa using hj] at hg
          exact ha j g hg
      · exact ha j g hg
    show ∃ evs stf, RunL st evs stf ∧ evs.map (fun e => (e.i, e.o, e.ld)) = (i, o, louds.contains i) :: mkV louds os (i + 1) ∧ _
    unfold exV at h
    obtain ⟨hd, h⟩ := h
    generalize hld : louds.contains i = ld at h ⊢
    have key : ∀ (r : SV) (hp' : HpT) (nx' : Nat) (lds' : List Nat), EvAt P G ops ld o st r hp' nx' → (ld = false → hp' = st.hp ∧ nx' = st.nx) → (ld = true → ∀ id ∈ lds, hp'.lookup id = st.hp.lookup id) →
        (∀ id ∈ lds, id ∈ lds') → (ul.contains i = true → ∀ id, rdEv G o st = some id → id ∈ lds') → exV P G ul louds os (i + 1) (addA i o.dst acc) ⟨putT o.dst r st.tm, hp', nx', st.nt, st.df, st.nb⟩ lds' K →
        ∃ evs stf, RunL st evs stf ∧ evs.map (fun e => (e.i, e.o, e.ld)) = (i, o, ld) :: mkV louds os (i + 1) ∧ (∀ e ∈ evs, EvAt P G ops e.ld e.o e.st e.r e.hp e.nx) ∧
          (∀ e ∈ evs, e.ld = true → ∀ id ∈ lds, e.hp.lookup id = e.st.hp.lookup id) ∧
          evs.Pairwise (fun x y => y.ld = true → ul.contains x.i = true → ∀ id, rdEv G x.o x.st = some id → y.hp.lookup id = y.st.hp.lookup id) ∧ K stf := by
      intro r hp' nx' lds' he hq hs hsub hrd hex
      obtain ⟨evs, stf, h1, h2, h3, h4, h5, h6⟩ := xI os (i + 1) _ _ lds' ho' ha' hex
      refine ⟨⟨i, o, ld, st, r, hp', nx'⟩ :: evs, stf, ⟨rfl, hq, h1⟩, by simp [h2], ?_, ?_, List.pairwise_cons.2 ⟨?_, h5⟩, h6⟩
      · intro e hem
        rcases List.mem_cons.1 hem with rfl | hem
        · exact he
        · exact h3 e hem
      · intro e hem hl id hid
        rcases List.mem_cons.1 hem with rfl | hem
        · exact hs hl id hid
        · exact h4 e hem hl id (hsub id hid)
      · intro y hy hyl hul id hid
        exact h4 y hy hyl id (hrd hul id hid)
    cases hg : o.guard with
    | none =>
      rw [hg] at h
      simp only at h
      cases hv : callV o with
      | true =>
        unfold callV at hv
        split at hv
        · rename_i f args ats ho
          rw [ho] at h
          simp only at h
          split at h
          · rename_i fid first cap hf
            obtain ⟨rfl, r, hc, hex⟩ := h
            refine key r st.hp st.nx lds ⟨hd, ?_⟩ (fun _ => ⟨rfl, rfl⟩) (fun h => by cases h) (fun _ h => h) (fun _ id hid => ?_) hex
            · rw [hg]
              simp only [exP, ho, hf]
              exact ⟨hc, trivial, trivial⟩
            · simp only [rdEv, hg, zJ, ho] at hid
              cases hid
          · exact h.elim
        · rename_i ho
          rw [ho] at h
          exact h.elim
        · cases hv
      | false =>
        have h' : exq P G o (ev G st.tm) st.hp st.nx fun r hp' nx' => ldOk ld st.hp hp' st.nx nx' lds ∧
            exV P G ul louds os (i + 1) (addA i o.dst acc) ⟨putT o.dst r st.tm, hp', nx', st.nt, st.df, st.nb⟩ (if ul.contains i then addRd (zJ o (ev G st.tm)) lds else lds) K := by
          clear key
          obtain ⟨dst, op, type, pos, after, guard⟩ := o
          simp only at h ⊢
          cases op <;> try exact h
          · rename_i x b
            simp [callV] at hv
          · rename_i c
            obtain ⟨callee, args, ats⟩ := c
            cases callee <;> first | exact h | simp [callV] at hv
        obtain ⟨r, hp', nx', ⟨hl, hex⟩, hdet⟩ := exq_det hv h'
        refine key r hp' nx' _ ⟨hd, ?_⟩ (fun hf => ?_) (fun ht => ?_) (fun id hid => ?_) (fun hu id hid => ?_) hex
        · rw [hg]
          simp only
          cases ld
          · simp only
            rw [yI hv]
            exact hdet
          · exact hdet
        · subst hf; exact hl
        · subst ht; exact stabOk_mem hl
        · split
          · unfold addRd
            split
            · exact List.mem_cons_of_mem _ hid
            · exact hid
          · exact hid
        · rw [if_pos hu]
          simp only [rdEv, hg] at hid
          rw [hid]
          exact List.mem_cons_self
    | some jw =>
      obtain ⟨j, want⟩ := jw
      rw [hg] at h
      simp only at h
      obtain ⟨rfl, h⟩ := h
      split at h
      · rename_i g hgd
        split at h
        · rename_i b hb
          obtain ⟨r0, hx, hex⟩ := h
          refine key (.whn b r0) st.hp st.nx _ ⟨hd, ?_⟩ (fun _ => ⟨rfl, rfl⟩) (fun h => by cases h) (fun id hid => ?_) (fun hu id hid => ?_) hex
          · rw [hg]
            simp only
            exact ⟨g, b, r0, by simpa using ha _ _ hgd, hb, rfl, .inl ⟨trivial, trivial, hx⟩⟩
          · split
            · unfold addRd
              split
              · exact List.mem_cons_of_mem _ hid
              · exact hid
            · exact hid
          · rw [if_pos hu]
            simp only [rdEv, hg] at hid
            rw [hid]
            exact List.mem_cons_self
        · exact h.elim
      · exact h.elim
theorem Tr.drawV {id : Nat} {st : St} {Q : Exit → St → Prop} (hmix : P.follows .mixedOrders = true) (hc : dChk (Region.before ops).toList ops ul (mkV louds ops.toList 0) = true)
    (h : exV P G ul louds ops.toList 0 [] st [] (Q .normal)) : Tr P G ro (.region id ops true) st Q := by
  intro O M pb pl a w hR
  have hg : ∀ x ∈ mkV louds ops.toList 0, ops[x.1]? = some x.2.1 := fun x hx => by
    have := mkV_get ops.toList 0 x hx
    simpa using this
  obtain ⟨evs, stf, h1, h2, h3, h4, h5, h6⟩ := xI (ops := ops) ops.toList 0 [] st [] (fun k => by rw [Nat.zero_add]) (fun j g hg => by cases hg) h
  generalize mkV louds ops.toList 0 = L at hc hg h2
  obtain ⟨d1, d2, d3, d4⟩ := DOk_of hc hg h2
  refine wpIn_region_any hmix ?_
  have hst : Step (ownOf pl st.hp) (ownOf pl st.hp) w { w with drawn := w.drawn + 1 } := ⟨Nat.le_refl _, fun _ _ _ => rfl, rfl, rfl, fun _ h => .inl h⟩
  have hadd : Add w { w with drawn := w.drawn + 1 } := ⟨Nat.le_refl _, fun _ _ => rfl, rfl, rfl⟩
  refine draw_sim (own0 := ownOf pl st.hp) (w0 := w) d1 h1 (fun e he => ⟨h3 e he, d2 e he⟩) ?_ ?_ (fun pl' a' w' hR' hs' => ⟨pl', stf, h6, hR', hs'⟩) ops.size (Array.replicate ops.size false) pl st a _ ?_ ?_
  · refine (d4.and h5).imp fun {x y} ⟨h1, h2⟩ hl => ?_
    by_cases hr : isRd x.o = true
    · rcases h1 hl hr with h | h
      · exact .inl h
      · exact .inr fun id hid => h2 hl h id hid
    · exact .inr fun id hid => absurd (rdEv_isRd (by rw [hid]; rfl)) hr
  · exact d3.imp fun h hl hr => h hl (rdEv_isRd hr)
  · have hlen : L.length = ops.size := by
      simp only [dChk, Bool.and_eq_true] at hc
      simpa using hc.1.1.1.1
    have : ∀ e : Ev, (!(Array.replicate ops.size false).getD e.i false) = true := fun e => by
      by_cases hlt : e.i < ops.size <;> simp [hlt]
    rw [List.filter_eq_self.2 fun e _ => this e, ← hlen, ← h2, List.length_map]
  · have h0 : ∀ i, (Array.replicate ops.size false).getD i false = false := fun i => by
      by_cases hlt : i < ops.size <;> simp [hlt]
    refine ⟨by simp, fun i o hi => ?_, ⟨hR.hs.add hadd, hR.tm.ext hadd.ext (fun _ _ h => h), hR.nt, hR.dfStep hst, hR.bd⟩, hst, fun t => ?_, ?_, rfl, rfl, rfl⟩
    · rw [h0] at hi; cases hi
    · rw [foldT_none evs _ fun e _ _ => h0 e.i]
    · rw [foldH_none evs _ fun e _ _ => h0 e.i]
theorem Tr.regV {id : Nat} {y : Code} {st : St} {Q : Exit → St → Prop} (louds ul ks : List Nat) {st' : St} (hmix : P.follows .mixedOrders = true) (hc : dChk (Region.before ops).toList ops ul (mkV louds ops.toList 0) = true)
    (h : exV P G ul louds ops.toList 0 [] st [] fun s => s.keep ks = st') (hy : Tr P G ro y st' Q) : Tr P G ro (.seq (.region id ops true) y) st Q := by
  refine Tr.seq ((Tr.drawV (Q := fun x s => match x with | .normal => s.keep ks = st' | _ => False) hmix hc h).mono ?_)
  intro x s hx
  cases x with
  | normal => exact Tr.imp (hx ▸ Imp.keep ks) hy
  | _ => exact hx.elim
end
end Go.Sy
namespace Go.Proofs.YtijechcadlklhaaGreat
open Go.Sy
set_option maxRecDepth 4000
abbrev tysH1_62 := And.intro ty.sz3 <| And.intro ty.agg3 <| And.intro ty.elem3 <| And.intro ty.zero3 <| And.intro ty.und3 <| And.intro ty.sz4 <| And.intro ty.agg4 <| And.intro ty.elem4 <| And.intro ty.zero4 <| ty.und4
theorem within_c (n lo hi : Int) : CallP Tryz.prog G0 62 [I n, I lo, I hi] (B (inR n lo hi)) := by
  refine CallP.body 15 [.tmp 6] Tryz.func62 (by kernel_rfl) rfl rfl rfl zP zP ?_
  refine Tr.reg [0, 1, 2] (by
      simp only [↓sxd, sxu, ↓zE, ↓exq, Nat.reduceBEq, Nat.reduceAdd, Nat.reduceLT]
      (all_goals try exact zF)) ?_
  refine Tr.reg [6] (by
      simp only [↓sxd, sxu, ↓zE, ↓exq, Nat.reduceBEq, Nat.reduceLT]
      iterate 3
        (repeat ((with_reducible refine And.intro ?_ ?_); (focus (exact zS))))
        refine GdO.mk _ (fun hg => by simp only [↓sxd, sxu, ↓exq, Nat.reduceBEq, hg]; (all_goals try exact zF)) ?_
        simp only [↓sxd, sxu, ↓zE, ↓exq, ↓zI, Nat.reduceBEq, Nat.reduceLT]
      (all_goals try exact zF)) ?_
  refine Tr.ret ?_
  (refine ⟨.inr rfl, ?_⟩; first | rfl | exact ⟨rfl, rfl, trivial⟩ | exact ⟨rfl, rfl, rfl, trivial⟩ | (simp only [Res, ResL, ResOK, ↓sxd, sxu, ↓zE, ↓zC, zJ, ↓exP, ↓exq, ↓zB, ↓zI, ↓zK, Nat.reduceBEq, Nat.reduceAdd, Nat.reduceLT, Nat.reduceMul, Nat.reduceSub, Nat.reduceLeDiff, Nat.reduceEqDiff, Int.reduceLE, Int.reduceLT, Int.reduceToNat, reduceIte, sxe, tysH1_62]; (repeat' (first | rfl | exact trivial | exact fun h => h | exact fun h => (by rw [h]; rfl) | apply And.intro | omega | exact Nat.le_of_ble_eq_true rfl))))
abbrev tysH1_76 := And.intro ty.sz3 <| And.intro ty.agg3 <| And.intro ty.elem3 <| And.intro ty.zero3 <| And.intro ty.und3 <| And.intro ty.sz4 <| And.intro ty.agg4 <| And.intro ty.elem4 <| And.intro ty.zero4 <| ty.und4
theorem In_c (n lo hi : Int) : CallP Tryz.prog G0 76 [I n, I lo, I hi] (B (inR n lo hi)) := by
  refine CallP.body 15 [.tmp 6] Tryz.func76 (by kernel_rfl) rfl rfl rfl zP zP ?_
  refine Tr.reg [0, 1, 2] (by
      simp only [↓sxd, sxu, ↓zE, ↓exq, Nat.reduceBEq, Nat.reduceAdd, Nat.reduceLT]
      (all_goals try exact zF)) ?_
  refine Tr.reg [6] (by
      simp only [↓sxd, sxu, ↓zE, ↓exq, Nat.reduceBEq, Nat.reduceLT]
      iterate 3
        (repeat ((with_reducible refine And.intro ?_ ?_); (focus (exact zS))))
        refine GdO.mk _ (fun hg => by simp only [↓sxd, sxu, ↓exq, Nat.reduceBEq, hg]; (all_goals try exact zF)) ?_
        simp only [↓sxd, sxu, ↓zE, ↓exq, ↓zI, Nat.reduceBEq, Nat.reduceLT]
      (all_goals try exact zF)) ?_
  refine Tr.ret ?_
  (refine ⟨.inr rfl, ?_⟩; first | rfl | exact ⟨rfl, rfl, trivial⟩ | exact ⟨rfl, rfl, rfl, trivial⟩ | (simp only [Res, ResL, ResOK, ↓sxd, sxu, ↓zE, ↓zC, zJ, ↓exP, ↓exq, ↓zB, ↓zI, ↓zK, Nat.reduceBEq, Nat.reduceAdd, Nat.reduceLT, Nat.reduceMul, Nat.reduceSub, Nat.reduceLeDiff, Nat.reduceEqDiff, Int.reduceLE, Int.reduceLT, Int.reduceToNat, reduceIte, sxe, tysH1_76]; (repeat' (first | rfl | exact trivial | exact fun h => h | exact fun h => (by rw [h]; rfl) | apply And.intro | omega | exact Nat.le_of_ble_eq_true rfl))))
abbrev tysH1_116 := And.intro ty.sz3 <| And.intro ty.agg3 <| And.intro ty.elem3 <| And.intro ty.zero3 <| And.intro ty.und3 <| And.intro ty.sz4 <| And.intro ty.agg4 <| And.intro ty.elem4 <| And.intro ty.zero4 <| ty.und4
theorem isNaN_c (n : Int) : CallP Tryz.prog G0 116 [I n] (B false) := by
  refine CallP.body 6 [.tmp 2] Tryz.func116 (by kernel_rfl) rfl rfl rfl zP zP ?_
  refine Tr.reg [0] (by
      simp only [↓sxd, sxu, ↓zE, ↓exq, Nat.reduceBEq, Nat.reduceLT]
      (all_goals try exact zF)) ?_
  refine Tr.reg [2] (by
      simp only [↓sxd, sxu, ↓zE, ↓exq, Nat.reduceBEq, Nat.reduceLT]
      (all_goals try exact zF)) ?_
  refine Tr.ret ?_
  exact ⟨.inr rfl, by simp only [bne_self_eq_false]; rfl⟩
abbrev tysH1_96 := And.intro ty.sz3 <| And.intro ty.agg3 <| And.intro ty.elem3 <| And.intro ty.zero3 <| And.intro ty.und3 <| And.intro ty.sz4 <| And.intro ty.agg4 <| And.intro ty.elem4 <| And.intro ty.zero4 <| ty.und4
theorem cmp_c (a b : Int) : CallP Tryz.prog G0 96 [I a, I b] (I (cmpI8 a b)) := by
  refine CallP.body 20 [.tmp 4] Tryz.func96 (by kernel_rfl) rfl rfl rfl zP zP ?_
  refine Tr.reg [0, 1] (by
      simp only [↓sxd, sxu, ↓zE, ↓exq, Nat.reduceBEq, Nat.reduceAdd, Nat.reduceLT]
      (all_goals try exact zF)) ?_
  refine Tr.reg [0, 1, 5] (by
      simp only [↓sxd, sxu, ↓zE, ↓exq, Nat.reduceLT]
      (repeat ((with_reducible refine And.intro ?_ ?_); (focus (exact zS))))
      refine CallO.use (isNaN_c _) ?_
      try simp only [↓sxd, sxu, ↓zE, ↓exq, Nat.reduceBEq, Nat.reduceLT]
      (all_goals try exact zF)) ?_
  refine Tr.reg [0, 1, 5, 6] (by
      simp only [↓sxd, sxu, ↓zE, ↓exq, Nat.reduceBEq, Nat.reduceLT]
      (repeat ((with_reducible refine And.intro ?_ ?_); (focus (exact zS))))
      refine CallO.use (isNaN_c _) ?_
      try simp only [↓sxd, sxu, ↓zE, ↓exq, Nat.reduceBEq, Nat.reduceLT]
      (all_goals try exact zF)) ?_
  refine Tr.seq ?_
  refine Tr.reg [0, 1, 6, 11] (by
      simp only [↓sxd, sxu, ↓zE, ↓exq, Nat.reduceBEq, Nat.reduceLT]
      (all_goals try exact zF)) ?_
  refine Tr.cond rfl (fun h11 => ?_) (fun h11 => ?_)
  · cases h11
  · refine Tr.skip ?_
    refine Tr.seq ?_
    refine Tr.reg [0, 1, 13] (by
        simp only [↓sxd, sxu, ↓zE, ↓exq, Nat.reduceBEq, Nat.reduceLT]
        (all_goals try exact zF)) ?_
    refine Tr.cond rfl (fun h13 => ?_) (fun h13 => ?_)
    · cases h13
    · refine Tr.skip ?_
      refine Tr.seq ?_
      refine Tr.reg [0, 1, 16] (by
          simp only [↓sxd, sxu, ↓zE, ↓exq, Nat.reduceBEq, Nat.reduceLT]
          (all_goals try exact zF)) ?_
      refine Tr.cond rfl (fun h16 => ?_) (fun h16 => ?_)
      · refine Tr.reg [4] (by
            simp only [↓sxd, sxu, ↓zE, ↓exq, Nat.reduceLT]
            (all_goals try exact zF)) ?_
        refine Tr.ret ?_
        exact ⟨.inr rfl, congrArg (fun n => some (I n)) (by simp at h16; simp [cmpI8, h16])⟩
      · refine Tr.skip ?_
        refine Tr.seq ?_
        refine Tr.reg [19] (by
            simp only [↓sxd, sxu, ↓zE, ↓exq, Nat.reduceBEq, Nat.reduceLT]
            (all_goals try exact zF)) ?_
        refine Tr.cond rfl (fun h19 => ?_) (fun h19 => ?_)
        · refine Tr.reg [4] (by
              simp only [↓sxd, sxu, ↓zE, ↓exq, Nat.reduceLT]
              (all_goals try exact zF)) ?_
          refine Tr.ret ?_
          exact ⟨.inr rfl, congrArg (fun n => some (I n)) (by simp at h16 h19; simp [cmpI8, h16, h19]; try omega)⟩
        · refine Tr.skip ?_
          refine Tr.reg [4] (by
              simp only [↓sxd, sxu, ↓zE, ↓exq, Nat.reduceLT]
              (all_goals try exact zF)) ?_
          refine Tr.ret ?_
          exact ⟨.inr rfl, congrArg (fun n => some (I n)) (by simp at h16 h19; simp [cmpI8]; try omega)⟩
def orL : List Int → Int
  | [] => 0
  | x :: l => if x ≠ 0 then x else orL l
theorem orL_drop {l : List Int} {i : Nat} (h : i < l.length) : orL (l.drop i) = if l.getD i 0 ≠ 0 then l.getD i 0 else orL (l.drop (i + 1)) := by
  rw [List.drop_eq_getElem_cons h, orL, List.getD_eq_getElem?_getD, List.getElem?_eq_getElem h]
  rfl
abbrev tysH1_95 := And.intro ty.sz0 <| And.intro ty.agg0 <| And.intro ty.elem0 <| And.intro ty.sz3 <| And.intro ty.agg3 <| And.intro ty.elem3 <| And.intro ty.zero3 <| And.intro ty.und3 <| And.intro ty.sz4 <| And.intro ty.agg4 <| And.intro ty.elem4 <| And.intro ty.zero4 <| And.intro ty.und4 <| And.intro ty.sz44 <| And.intro ty.agg44 <| And.intro ty.elem44 <| And.intro ty.by44 <| And.intro ty.ez44 <| And.intro ty.zero44 <| ty.und44
theorem Or_c (l : List Int) (hl : l.length < 4611686018427387904) : CallP Tryz.prog G0 95 [SI l] (I (orL l)) := by
  refine CallP.body 18 [.tmp 2] Tryz.func95 (by kernel_rfl) rfl rfl rfl zP zP ?_
  refine Tr.reg [0] (by
      simp only [↓sxd, sxu, ↓zE, ↓exq, Nat.reduceBEq, Nat.reduceLT]
      (all_goals try exact zF)) ?_
  refine Tr.reg [0, 3] (by
      simp only [↓sxd, sxu, ↓zE, ↓exq, Nat.reduceBEq, Nat.reduceLT]
      (all_goals try exact zF)) ?_
  refine Tr.seq ?_
  refine Tr.reg [3, 6, 7, 8] (by
      simp only [↓sxd, sxu, ↓zE, ↓exq, ↓zB, ↓zL, Nat.reduceBEq, Nat.reduceLT, sxe, tysH1_95]
      (all_goals try exact zF)) ?_
  refine Tr.imp (st' := ⟨[(3, I 0), (6, SI l), (7, I l.length), (8, I 0)], [], 0, 18, [], 0⟩) (Imp.keepAll) (Tr.block (Tr.loopI (fun mm ss => ∃ (i : Nat), (i ≤ l.length ∧ orL l = orL (l.drop i)) ∧ l.length - i = mm ∧ ss = ⟨[(3, I 0), (6, SI l), (7, I l.length), (8, I i)], [], 0, 18, [], 0⟩) _ ⟨0, ?_, rfl, rfl⟩ ?_))
  · exact ⟨Nat.zero_le _, by rw [List.drop_zero]⟩
  rintro mm ss ⟨i, hI, rfl, rfl⟩
  obtain ⟨hi, ho⟩ := hI
  refine Tr.reg [3, 6, 7, 8, 9] (by
      simp only [↓sxd, sxu, ↓zE, ↓exq, Nat.reduceBEq, Nat.reduceLT, sxe]
      (all_goals try exact zF)) ?_
  refine Tr.seq ?_
  refine Tr.cond rfl (fun h9 => ?_) (fun h9 => ?_)
  · have hlt : i < l.length := by simpa using h9
    have hs := orL_drop hlt
    refine Tr.skip ?_
    refine Tr.seq ?_
    refine Tr.block ?_
    refine Tr.reg [3, 5, 6, 7, 8] (by
        simp only [↓sxd, sxu, ↓zE, ↓exq, ↓zD, Nat.reduceBEq, Nat.reduceLT, sxe, tysH1_95, hlt]
        (all_goals try exact zF)) ?_
    refine Tr.reg [3, 5, 6, 7, 8, 14] (by
        simp only [↓sxd, sxu, ↓zE, ↓exq, Nat.reduceBEq, Nat.reduceLT]
        (all_goals try exact zF)) ?_
    refine Tr.cond rfl (fun h14 => ?_) (fun h14 => ?_)
    · have hne : l.getD i 0 ≠ 0 := by simpa using h14
      rw [if_pos hne] at hs
      refine Tr.reg [2] (by
          simp only [↓sxd, sxu, ↓zE, ↓exq, Nat.reduceBEq, Nat.reduceLT]
          (all_goals try exact zF)) ?_
      refine Tr.ret ?_
      exact ⟨.inr rfl, congrArg (fun n => some (I n)) (by rw [ho, hs])⟩
    · have he : ¬ l.getD i 0 ≠ 0 := by simpa using h14
      rw [if_neg he] at hs
      refine Tr.skip ?_
      have w1 : IntKind.i64.wrap ((i : Int) + 1) = ((i + 1 : Nat) : Int) := by rw [wr (by omega) (by omega)]; rfl
      refine Tr.reg1 [3, 6, 7, 8] (by
          simp only [↓sxd, sxu, ↓zE, ↓exq, Nat.reduceBEq, Nat.reduceLT, w1]
          (all_goals try exact zF)) ?_
      refine ⟨_, _, ?_, Imp.keepAll, ⟨i + 1, ⟨hlt, by rw [ho, hs]⟩, rfl, rfl⟩⟩
      omega
  · have hge : i = l.length := by simp at h9; omega
    refine Tr.exit ?_
    refine Tr.reg [2] (by
        simp only [↓sxd, sxu, ↓zE, ↓exq, Nat.reduceLT]
        (all_goals try exact zF)) ?_
    refine Tr.ret ?_
    exact ⟨.inr rfl, congrArg (fun n => some (I n)) (by subst hge; rw [ho, List.drop_length]; rfl)⟩
abbrev tysH1_82 := And.intro ty.sz0 <| And.intro ty.agg0 <| And.intro ty.elem0 <| And.intro ty.sz3 <| And.intro ty.agg3 <| And.intro ty.elem3 <| And.intro ty.zero3 <| And.intro ty.und3 <| And.intro ty.sz44 <| And.intro ty.agg44 <| And.intro ty.elem44 <| And.intro ty.by44 <| And.intro ty.ez44 <| And.intro ty.zero44 <| And.intro ty.und44 <| And.intro ty.sz79 <| And.intro ty.agg79 <| And.intro ty.fld79_0 <| And.intro ty.fld79_1 <| And.intro ty.elem79 <| And.intro ty.zero79 <| ty.pl79
theorem compare_c (a b : HC) : CallP Tryz.prog G0 82 [a.s, b.s] (I (a.cmp b)) := by
  refine CallP.body 17 [.tmp 4] Tryz.func82 (by kernel_rfl) rfl rfl rfl zP zP ?_
  refine Tr.reg [2, 3] (by
      simp only [↓sxd, sxu, ↓zE, ↓exq, ↓zM, Nat.reduceBEq, Nat.reduceAdd, Nat.reduceLT, Nat.reduceEqDiff]
      (all_goals try exact zF)) ?_
  refine Tr.regD [0, 1, 2, 3, 4, 5, 6, 7, 8, 9, 10, 11, 12] [] [] [4] mix (by kernel_rfl) (by
      simp only [↓sxd, sxu, ↓zC, zJ, ↓exq, ↓zD, ↓zA, Nat.reduceBEq, Nat.reduceAdd, Nat.reduceLT, Nat.reduceEqDiff, tysH1_82]
      (repeat ((with_reducible refine And.intro ?_ ?_); (focus (exact zS))))
      refine CallD.use (cmp_c _ _) ?_
      try simp only [↓sxd, sxu, ↓zC, zJ, ↓exq, ↓zD, ↓zA, Nat.reduceBEq, Nat.reduceAdd, Nat.reduceLT, Nat.reduceEqDiff, tysH1_82]
      (repeat ((with_reducible refine And.intro ?_ ?_); (focus (exact zS))))
      refine CallD.use (cmp_c _ _) ?_
      try simp only [↓sxd, sxu, ↓zC, zJ, ↓exq, ↓zG, Nat.reduceBEq, Nat.reduceLT, Nat.reduceLeDiff, Nat.reduceEqDiff, tysH1_82]
      (repeat ((with_reducible refine And.intro ?_ ?_); (focus (exact zS))))
      refine CallD.use (CallP.arg (Or_c [cmpI8 a.row b.row, cmpI8 a.col b.col] (by simp)) (.cons (fun pl ok w v h => dxd _ pl ok w v h) .nil)) ?_
      try simp only [↓sxd, sxu, ↓zC, ↓exq, Nat.reduceLT]
      (all_goals try exact zF)) ?_
  refine Tr.ret ?_
  exact ⟨.inr rfl, congrArg (fun n => some (I n)) (by
  simp only [orL, HC.cmp]
  split <;> simp_all)⟩
def lmin (l : List Int) : Int := (l.drop 1).foldl min (l.getD 0 0)
theorem take_drop1 {l : List Int} {i : Nat} (h1 : 1 ≤ i) (h : i < l.length) : (l.take (i + 1)).drop 1 = (l.take i).drop 1 ++ [l.getD i 0] := by
  rw [List.take_succ_eq_append_getElem h, List.drop_append_of_le_length (by simp; omega), List.getD_eq_getElem?_getD, List.getElem?_eq_getElem h]
  rfl
abbrev tysH1_119 := And.intro ty.sz0 <| And.intro ty.agg0 <| And.intro ty.elem0 <| And.intro ty.sz3 <| And.intro ty.agg3 <| And.intro ty.elem3 <| And.intro ty.zero3 <| And.intro ty.und3 <| And.intro ty.sz4 <| And.intro ty.agg4 <| And.intro ty.elem4 <| And.intro ty.zero4 <| And.intro ty.und4 <| And.intro ty.sz9 <| And.intro ty.agg9 <| And.intro ty.elem9 <| And.intro ty.zero9 <| And.intro ty.und9 <| And.intro ty.sz20 <| And.intro ty.agg20 <| And.intro ty.elem20 <| And.intro ty.sz44 <| And.intro ty.agg44 <| And.intro ty.elem44 <| And.intro ty.by44 <| And.intro ty.ez44 <| And.intro ty.zero44 <| ty.und44
theorem Min_c (l : List Int) (hl : l.length < 4611686018427387904) (h0 : l ≠ []) : CallP Tryz.prog G0 119 [SI l] (I (lmin l)) := by
  have hpos : 0 < l.length := List.length_pos_iff.2 h0
  refine CallP.body 25 [.tmp 2] Tryz.func119 (by kernel_rfl) rfl rfl rfl zP zP ?_
  refine Tr.reg [0] (by
      simp only [↓sxd, sxu, ↓zE, ↓exq, Nat.reduceBEq, Nat.reduceLT]
      (all_goals try exact zF)) ?_
  refine Tr.seq ?_
  refine Tr.reg [0, 7] (by
      simp only [↓sxd, sxu, ↓zE, ↓exq, ↓zB, ↓zL, Nat.reduceBEq, Nat.reduceLT, sxe, tysH1_119]
      (all_goals try exact zF)) ?_
  refine Tr.cond rfl (fun h7 => ?_) (fun h7 => ?_)
  · exfalso; simp at h7; omega
  · refine Tr.skip ?_
    refine Tr.reg [0, 3] (by
        simp only [↓sxd, sxu, ↓zE, ↓exq, ↓zD, Nat.reduceBEq, Nat.reduceLT, Int.reduceLE, sxe, tysH1_119, dI_get hpos, show ((0 : Int) < (l.length : Int)) from by omega]
        (all_goals try exact zF)) ?_
    refine Tr.seq ?_
    refine Tr.reg [0, 3, 4] (by
        simp only [↓sxd, sxu, ↓zE, ↓exq, Nat.reduceBEq, Nat.reduceLT]
        (all_goals try exact zF)) ?_
    refine Tr.imp (st' := ⟨[(0, SI l), (3, I (((l.take 1).drop 1).foldl min (l.getD 0 0))), (4, I 1)], [], 0, 25, [], 0⟩) (by rw [show (l.take 1).drop 1 = [] by simp]; exact Imp.keepAll) (Tr.block (Tr.loopI (fun mm ss => ∃ (i : Nat), (1 ≤ i ∧ i ≤ l.length) ∧ l.length - i = mm ∧ ss = ⟨[(0, SI l), (3, I (((l.take i).drop 1).foldl min (l.getD 0 0))), (4, I i)], [], 0, 25, [], 0⟩) _ ⟨1, ?_, rfl, rfl⟩ ?_))
    · exact ⟨Nat.le_refl _, hpos⟩
    rintro mm ss ⟨i, hI, rfl, rfl⟩
    obtain ⟨hi1, hi⟩ := hI
    refine Tr.seq ?_
    refine Tr.reg [0, 3, 4, 15] (by
        simp only [↓sxd, sxu, ↓zE, ↓exq, ↓zB, ↓zL, Nat.reduceBEq, Nat.reduceLT, sxe, tysH1_119]
        (all_goals try exact zF)) ?_
    refine Tr.cond rfl (fun h15 => ?_) (fun h15 => ?_)
    · have hlt : i < l.length := by simpa using h15
      refine Tr.skip ?_
      refine Tr.seq ?_
      refine Tr.block ?_
      refine Tr.reg1 [0, 3, 4] (by
          simp only [↓sxd, sxu, ↓zE, ↓exq, ↓zB, ↓zD, Nat.reduceBEq, Nat.reduceLT, sxe, tysH1_119, hlt]
          (all_goals try exact zF)) ?_
      have w1 : IntKind.i64.wrap ((i : Int) + 1) = ((i + 1 : Nat) : Int) := by rw [wr (by omega) (by omega)]; rfl
      refine Tr.reg1 [0, 3, 4] (by
          simp only [↓sxd, sxu, ↓zE, ↓exq, Nat.reduceBEq, Nat.reduceLT, w1]
          (all_goals try exact zF)) ?_
      refine ⟨_, _, ?_, ?_, ⟨i + 1, ⟨by omega, hlt⟩, rfl, rfl⟩⟩
      · omega
      · rw [take_drop1 hi1 hlt, List.foldl_append]; exact Imp.keepAll
    · have hge : i = l.length := by simp at h15; omega
      refine Tr.exit ?_
      refine Tr.reg [2] (by
          simp only [↓sxd, sxu, ↓zE, ↓exq, Nat.reduceBEq, Nat.reduceLT]
          (all_goals try exact zF)) ?_
      refine Tr.ret ?_
      exact ⟨.inr rfl, congrArg (fun n => some (I n)) (by subst hge; rw [List.take_length]; rfl)⟩
abbrev tysH1_105 := And.intro ty.sz3 <| And.intro ty.agg3 <| And.intro ty.elem3 <| And.intro ty.zero3 <| And.intro ty.und3 <| And.intro ty.sz44 <| And.intro ty.agg44 <| And.intro ty.elem44 <| And.intro ty.by44 <| And.intro ty.ez44 <| And.intro ty.zero44 <| ty.und44
theorem minimum_c (l : List Int) (hl : l.length < 4611686018427387904) (h0 : l ≠ []) : CallP Tryz.prog G0 105 [SI l] (I (lmin l)) := by
  refine CallP.body 5 [.tmp 2] Tryz.func105 (by kernel_rfl) rfl rfl rfl zP zP ?_
  refine Tr.reg [0] (by
      simp only [↓sxd, sxu, ↓zE, ↓exq, Nat.reduceBEq, Nat.reduceLT]
      (all_goals try exact zF)) ?_
  refine Tr.reg [2] (by
      simp only [↓sxd, sxu, ↓zE, ↓exq, Nat.reduceLT]
      (repeat ((with_reducible refine And.intro ?_ ?_); (focus (exact zS))))
      refine CallO.use (Min_c l hl h0) ?_
      try simp only [↓sxd, sxu, ↓zE, ↓exq, Nat.reduceLT]
      (all_goals try exact zF)) ?_
  refine Tr.ret ?_
  (refine ⟨.inr rfl, ?_⟩; first | rfl | exact ⟨rfl, rfl, trivial⟩ | exact ⟨rfl, rfl, rfl, trivial⟩ | (simp only [Res, ResL, ResOK, ↓sxd, sxu, ↓zE, ↓zC, zJ, ↓exP, ↓exq, ↓zB, ↓zK, Nat.reduceBEq, Nat.reduceAdd, Nat.reduceLT, Nat.reduceMul, Nat.reduceSub, Nat.reduceLeDiff, Nat.reduceEqDiff, Int.reduceLE, Int.reduceLT, Int.reduceToNat, reduceIte, sxe, tysH1_105]; (repeat' (first | rfl | exact trivial | exact fun h => h | exact fun h => (by rw [h]; rfl) | apply And.intro | omega | exact Nat.le_of_ble_eq_true rfl))))
theorem min2_c (a b : Int) : CallP Tryz.prog G0 105 [.dx [[cI a], [cI b]]] (I (min a b)) :=
  CallP.arg (minimum_c [a, b] (by simp) (by simp)) (.cons (fun pl ok w v h => dxd _ pl ok w v h) .nil)
end Go.Proofs.YtijechcadlklhaaGreat
