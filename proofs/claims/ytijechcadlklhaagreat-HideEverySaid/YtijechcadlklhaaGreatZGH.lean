/- Lemmas, part ZGH. Conditions: none. -/
import Derived.Test.YtijechcadlklhaaGreatZGF
set_option linter.unusedVariables false
namespace Go.Sy
inductive F2 {α β : Type} (Q : α → β → Prop) : List α → List β → Prop
  | nil : F2 Q [] []
  | cons {a : α} {b : β} {l : List α} {m : List β} (h : Q a b) (t : F2 Q l m) : F2 Q (a :: l) (b :: m)
theorem F2.len {α β : Type} {Q : α → β → Prop} {l : List α} {m : List β} (h : F2 Q l m) : l.length = m.length := by
  induction h with
  | nil => rfl
  | cons _ _ ih => simp [ih]
theorem F2.get {α β : Type} {Q : α → β → Prop} {l : List α} {m : List β} (h : F2 Q l m) : ∀ i (h1 : i < l.length) (h2 : i < m.length), Q l[i] m[i] := by
  induction h with
  | nil => intro i h1; simp at h1
  | cons h _ ih =>
    intro i h1 h2
    cases i with
    | zero => exact h
    | succ i => exact ih i (by simpa using h1) (by simpa using h2)
theorem F2.map {α β γ : Type} {Q : α → β → Prop} {f : γ → α} {g : γ → β} : ∀ {l : List γ}, (∀ x ∈ l, Q (f x) (g x)) → F2 Q (l.map f) (l.map g)
  | [], _ => .nil
  | x :: l, h => .cons (h x List.mem_cons_self) (F2.map fun y hy => h y (List.mem_cons_of_mem _ hy))
theorem F2.refl {α : Type} {Q : α → α → Prop} : ∀ {l : List α}, (∀ x ∈ l, Q x x) → F2 Q l l
  | [], _ => .nil
  | x :: l, h => .cons (h x List.mem_cons_self) (F2.refl fun y hy => h y (List.mem_cons_of_mem _ hy))
theorem F2.append {α β : Type} {Q : α → β → Prop} {l l' : List α} {m m' : List β} (h : F2 Q l m) (h' : F2 Q l' m') : F2 Q (l ++ l') (m ++ m') := by
  induction h with
  | nil => exact h'
  | cons h _ ih => exact .cons h ih
theorem F2.imp {α β : Type} {Q Q' : α → β → Prop} {l : List α} {m : List β} (h : F2 Q l m) (hq : ∀ a b, Q a b → Q' a b) : F2 Q' l m := by
  induction h with
  | nil => exact .nil
  | cons h _ ih => exact .cons (hq _ _ h) ih
theorem F2.mem {α β : Type} {Q : α → β → Prop} {l : List α} {m : List β} (h : F2 Q l m) : ∀ b ∈ m, ∃ a ∈ l, Q a b := by
  induction h with
  | nil => intro b hb; simp at hb
  | cons h _ ih =>
    intro b hb
    rcases List.mem_cons.1 hb with rfl | hb
    · exact ⟨_, List.mem_cons_self, h⟩
    · obtain ⟨a, h1, h2⟩ := ih b hb
      exact ⟨a, List.mem_cons_of_mem _ h1, h2⟩
theorem F2.mem' {α β : Type} {Q : α → β → Prop} {l : List α} {m : List β} (h : F2 Q l m) : ∀ a ∈ l, ∃ b ∈ m, Q a b := by
  induction h with
  | nil => intro b hb; simp at hb
  | cons h _ ih =>
    intro b hb
    rcases List.mem_cons.1 hb with rfl | hb
    · exact ⟨_, List.mem_cons_self, h⟩
    · obtain ⟨a, h1, h2⟩ := ih b hb
      exact ⟨a, List.mem_cons_of_mem _ h1, h2⟩
def TnS (r : Nat → Nat) (hp hp' : HpT) (s s' : SV) : Prop :=
  ∀ (G : Nat → Option (List D)) (O : Nat → Prop) (pb pl : Nat → Option Pl) (w : World) (nx : Nat) (v : Value), HS G O pb pl w hp nx → hp'.Sublist hp →
    SR pl (okOf O pl hp) w s v → SR (fun id => pl (r id)) (okOf O pl hp') w s' v
section
variable {P : Program} {G : Nat → Option (List D)} {O : Nat → Prop} {pb pl pl' : Nat → Option Pl} {w w' : World} {hp hp' : HpT} {nx nx' : Nat} {ok ok' : Nat → Prop} {r : Nat → Nat}
theorem HS.subExt (hs : HS G O pb pl w hp nx) (h : hp'.Sublist hp) : Ext (okOf O pl hp) w (okOf O pl hp') w := (hs.sub h).2.ext
theorem TnS.pure {s : SV} (h : Pure s) : TnS r hp hp' s s := fun G O pb pl w nx v hs hsub hv =>
  h pl _ _ w v (hv.ext (hs.subExt hsub) fun _ _ h => h)
theorem TnS.unk (s : SV) : TnS r hp hp' s .unk := fun _ _ _ _ _ _ v _ _ _ => .unk v
theorem TnS.d (x : D) : TnS r hp hp' (.d x) (.d x) := .pure (Pure.d x)
theorem TnS.dx (es : List (List D)) : TnS r hp hp' (.dx es) (.dx es) := .pure (Pure.dx es)
theorem TnS.dp (cs : List D) : TnS r hp hp' (.dp cs) (.dp cs) := .pure (Pure.dp cs)
theorem TnS.dxd (es : List (List D)) : TnS r hp hp' (.dx es) (.d (.sl es)) := fun G O pb pl w nx v hs hsub hv => by
  cases hv with | dx _ a h => exact .d _ _ (h.ext (hs.subExt hsub))
theorem TnS.slc {id id' sz off len cap : Nat} (h : r id' = id) : TnS r hp hp' (.slc id sz off len cap) (.slc id' sz off len cap) := fun G O pb pl w nx v hs hsub hv => by
  cases hv with
  | slc _ _ _ _ _ cap' q hq hsz hc hc' ht => exact .slc _ _ _ _ _ cap' q (by simp only [h]; exact hq) hsz hc hc' ht
  | slc0 _ _ _ _ _ q hq hsz ht h1 h2 h3 a => exact .slc0 _ _ _ _ _ q (by simp only [h]; exact hq) hsz ht h1 h2 h3 a
theorem TnS.ptr {id id' i j : Nat} (h : r id' = id) : TnS r hp hp' (.ptr id i j) (.ptr id' i j) := fun G O pb pl w nx v hs hsub hv => by
  cases hv with | ptr _ _ _ q hq => exact .ptr id' i j q (by simp only [h]; exact hq)
theorem TnS.mapr {id id' : Nat} (h : r id' = id) : TnS r hp hp' (.mapr id) (.mapr id') := fun G O pb pl w nx v hs hsub hv => by
  cases hv with | mapr _ q hq => exact .mapr id' q (by simp only [h]; exact hq)
theorem TnS.yld {id id' : Nat} (h : r id' = id) : TnS r hp hp' (.yld id) (.yld id') := fun G O pb pl w nx v hs hsub hv => by
  cases hv with | yld _ q hq => exact .yld id' q (by simp only [h]; exact hq)
theorem TnS.agg {cs cs' : List SV} (h : F2 (TnS r hp hp') cs cs') : TnS r hp hp' (.agg cs) (.agg cs') := fun G O pb pl w nx v hs hsub hv => by
  cases hv with | agg _ vs hl h1 => exact .agg _ vs (by rw [hl, h.len]) fun i hi => h.get i (by rw [h.len]; exact hi) hi G O pb pl w nx _ hs hsub (h1 i (by rw [h.len]; exact hi))
theorem TnS.tup {cs cs' : List SV} (h : F2 (TnS r hp hp') cs cs') : TnS r hp hp' (.tup cs) (.tup cs') := fun G O pb pl w nx v hs hsub hv => by
  cases hv with | tup _ vs hl h1 => exact .tup _ vs (by rw [hl, h.len]) fun i hi => h.get i (by rw [h.len]; exact hi) hi G O pb pl w nx _ hs hsub (h1 i (by rw [h.len]; exact hi))
theorem TnS.clo {fn : Fn} {a a' b b' : List SV} (h : F2 (TnS r hp hp') a a') (h' : F2 (TnS r hp hp') b b') : TnS r hp hp' (.clo fn a b) (.clo fn a' b') := fun G O pb pl w nx v hs hsub hv => by
  cases hv with | clo _ _ _ fs cs hf hc h1 h2 =>
  exact .clo _ _ _ fs cs (by rw [hf, h.len]) (by rw [hc, h'.len]) (fun i hi => h.get i (by rw [h.len]; exact hi) hi G O pb pl w nx _ hs hsub (h1 i (by rw [h.len]; exact hi)))
    (fun i hi => h'.get i (by rw [h'.len]; exact hi) hi G O pb pl w nx _ hs hsub (h2 i (by rw [h'.len]; exact hi)))
theorem HS.ok_gone (hs : HS G O pb pl w hp nx) (hsub : hp'.Sublist hp) {id : Nat} {o : Obj} (h : (id, o) ∈ hp) (hn : ∀ p ∈ hp', p.1 ≠ id) {q : Pl} (hq : pl id = some q) (ht : q.tot ≠ 0) : okOf O pl hp' q.blk := by
  obtain ⟨q', hq', hl, _⟩ := hs.obj _ h
  simp only at hq'
  rw [hq] at hq'; cases hq'
  refine ⟨(hl ht).2, ?_⟩
  rintro ⟨p, hp1, q2, hq2, ht2, he⟩
  exact (hs.two (hsub.subset hp1) h (hn p hp1)).2 q2 q hq2 hq ht2 ht he
theorem TnS.frz {id sz off len cap : Nat} {es : List (List SV)} {ds : List (List D)} (h : hp.lookup id = some (.arr sz es)) (hn : ∀ p ∈ hp', p.1 ≠ id) (hz : sz ≠ 0) (hl : off + len ≤ es.length)
    (hr : F2 (F2 fun s x => TnS r hp hp' s (.d x)) ((es.drop off).take len) ds) : TnS r hp hp' (.slc id sz off len cap) (.d (.sl ds)) := fun G O pb pl w nx v hs hsub hv => by
  have hlen : ds.length = len := by rw [← hr.len]; simp; omega
  have key : ∀ a cap', len = 0 → SR (fun id => pl (r id)) (okOf O pl hp') w (.d (.sl ds)) (.slice a len cap') := by
    intro a cap' h0
    subst h0
    have : ds = [] := List.length_eq_zero_iff.1 hlen
    subst this
    exact .d _ _ (.nil a cap')
  cases hv with
  | slc0 _ _ _ _ _ q hq hsz ht h1 h2 h3 a => subst h2; exact key a 0 rfl
  | slc _ _ _ _ _ cap' q hq hsz hc hc' ht =>
    by_cases h0 : len = 0
    · exact key _ _ h0
    · have hpos : off < es.length := by omega
      obtain ⟨-, c, e, hcl, hct, -, hle0, -⟩ := hs.cells h hq hpos
      have htot : q.tot ≠ 0 := by
        have : 0 < (off + 1) * sz := Nat.mul_pos (by omega) (by omega)
        omega
      have hok := hs.ok_gone hsub (lookup_mem h) hn hq htot
      have hblk : q.blk < w.heap.size := heap_lt hcl
      have row : ∀ i (hi : i < ds.length), (es[off + i]'(by omega)).length = (ds[i]).length ∧ ∀ j (hj : j < (ds[i]).length), DR (okOf O pl hp') w ((ds[i])[j]) (c.getD ((off + i) * sz + j) undef) ∧
          w.cell? ⟨q.blk, (off + i) * sz + j, none⟩ = some (c.getD ((off + i) * sz + j) undef) := by
        intro i hi
        have hi2 : i < ((es.drop off).take len).length := by rw [hr.len]; exact hi
        have h2 := hr.get i hi2 hi
        have hei : ((es.drop off).take len)[i] = es[off + i]'(by omega) := by simp
        rw [hei] at h2
        obtain ⟨-, c', e', hcl', -, -, -, hcc⟩ := hs.cells h hq (i := off + i) (by omega)
        rw [hcl] at hcl'
        cases hcl'
        refine ⟨h2.len, fun j hj => ?_⟩
        have hj2 : j < (es[off + i]'(by omega)).length := by rw [h2.len]; exact hj
        obtain ⟨hsr, hcell⟩ := hcc j hj2
        have := h2.get j hj2 hj G O pb pl w nx _ hs hsub hsr
        refine ⟨?_, by rw [← hsz]; rw [← hsz] at hcell; exact hcell⟩
        cases this with | d _ _ hd => exact hd
      refine .d _ _ ?_
      have hfin : DR (okOf O pl hp') w (.sl ds) (.slice (some ⟨q.blk, off * sz, none⟩) ds.length cap') := by
        refine DR.sl sz ds q.blk (off * sz) cap' (fun i j => c.getD ((off + i) * sz + j) undef) hok hblk (by omega) ?_ ?_ ?_
        · intro i hi
          rw [← (row i hi).1]
          exact (hs.cells h hq (i := off + i) (by omega)).2.choose_spec.choose_spec.2.2.1
        · intro i hi j hj
          have := ((row i hi).2 j hj).2
          rw [Nat.add_mul, Nat.add_assoc] at this
          rw [this]
          simp only [Nat.add_mul, Nat.add_assoc]
        · intro i hi j hj
          exact ((row i hi).2 j hj).1
      rw [hlen] at hfin
      exact hfin
theorem TnS.frz0 {id sz len cap : Nat} {es : List (List SV)} {ds : List (List D)} (h : hp.lookup id = some (.arr sz es)) (hn : ∀ p ∈ hp', p.1 ≠ id) (hz : sz ≠ 0) (hl : es.length = len)
    (hr : F2 (F2 fun s x => TnS r hp hp' s (.d x)) es ds) : TnS r hp hp' (.slc id sz 0 len cap) (.d (.sl ds)) :=
  TnS.frz h hn hz (by omega) (by rw [List.drop_zero, ← hl, List.take_length]; exact hr)
theorem TnS.frzm {id : Nat} {es : List (Value × SV)} {ds : List (Value × D)} (h : hp.lookup id = some (.map es)) (hn : ∀ p ∈ hp', p.1 ≠ id)
    (hr : F2 (fun a b => a.1 = b.1 ∧ TnS r hp hp' a.2 (.d b.2)) es ds) : TnS r hp hp' (.mapr id) (.d (.mp ds)) := fun G O pb pl w nx v hs hsub hv => by
  cases hv with | mapr _ q hq =>
  obtain ⟨q', hq', hlt, ho⟩ := hs.obj _ (lookup_mem h)
  simp only at hq' ho
  rw [hq] at hq'; cases hq'
  cases ho with | map _ xs clock hne hc hm =>
  obtain ⟨m1, m2, m3⟩ := hm
  refine .d _ _ (.mp ds q.blk xs (hs.ok_gone hsub (lookup_mem h) hn hq hne) (heap_lt hc) (by rw [hc, m2, hr.len]) (by rw [m1, hr.len]) (fun i hi => ?_) fun i hi => ?_)
  · have h1 := m3 i (by rw [hr.len]; exact hi)
    exact ⟨by rw [h1.1, (hr.get i (by rw [hr.len]; exact hi) hi).1], h1.2.1⟩
  · have h1 := (hr.get i (by rw [hr.len]; exact hi) hi).2 G O pb pl w nx _ hs hsub (m3 i (by rw [hr.len]; exact hi)).2.2
    cases h1 with | d _ _ hd => exact hd
theorem TnS.frzp {id sz i j : Nat} {es : List (List SV)} {cs : List D} (h : hp.lookup id = some (.arr sz es)) (hn : ∀ p ∈ hp', p.1 ≠ id) (hz : sz ≠ 0) (hi : i < es.length)
    (hr : F2 (fun s x => TnS r hp hp' s (.d x)) ((es.getD i []).drop j) cs) : TnS r hp hp' (.ptr id i j) (.dp cs) := fun G O pb pl w nx v hs hsub hv => by
  cases hv with | ptr _ _ _ q hq =>
  have he : es.getD i [] = es[i] := by simp [List.getD, hi]
  rw [he] at hr
  obtain ⟨hsz, c, e, hcl, hct, hlen, hle, hcc⟩ := hs.cells h hq hi
  have htot : q.tot ≠ 0 := by
    have : 0 < (i + 1) * sz := Nat.mul_pos (by omega) (by omega)
    omega
  have hok := hs.ok_gone hsub (lookup_mem h) hn hq htot
  have hblk : q.blk < w.heap.size := heap_lt hcl
  have hcs : cs.length = (es[i]).length - j := by rw [← hr.len]; simp
  refine .dp cs q.blk (i * q.sz + j) (fun k => c.getD (i * sz + (j + k)) undef) hok hblk (fun k hk => ?_) fun k hk => ?_
  · have := (hcc (j + k) (by omega)).2
    rw [Nat.add_assoc]
    exact this
  · have h1 := (hcc (j + k) (by omega)).1
    have h2 := hr.get k (by rw [hr.len]; exact hk) hk
    simp only [List.getElem_drop] at h2
    have := h2 G O pb pl w nx _ hs hsub h1
    cases this with | d _ _ hd => exact hd
theorem TnS.frzf {id sz i j : Nat} {es : List (List SV)} {cs : List SV} (h : hp.lookup id = some (.arr sz es)) (hn : ∀ p ∈ hp', p.1 ≠ id) (hz : sz ≠ 0) (hi : i < es.length)
    (hr : F2 (TnS r hp hp') ((es.getD i []).drop j) cs) : TnS r hp hp' (.ptr id i j) (.fp cs) := fun G O pb pl w nx v hs hsub hv => by
  cases hv with | ptr _ _ _ q hq =>
  have he : es.getD i [] = es[i] := by simp [List.getD, hi]
  rw [he] at hr
  obtain ⟨hsz, c, e, hcl, hct, hlen, hle, hcc⟩ := hs.cells h hq hi
  have htot : q.tot ≠ 0 := by
    have : 0 < (i + 1) * sz := Nat.mul_pos (by omega) (by omega)
    omega
  have hok := hs.ok_gone hsub (lookup_mem h) hn hq htot
  have hblk : q.blk < w.heap.size := heap_lt hcl
  have hcs : cs.length = (es[i]).length - j := by rw [← hr.len]; simp
  refine .fp cs q.blk (i * q.sz + j) (fun k => c.getD (i * sz + (j + k)) undef) hok hblk (fun k hk => ?_) fun k hk => ?_
  · have := (hcc (j + k) (by omega)).2
    rw [Nat.add_assoc]
    exact this
  · have h1 := (hcc (j + k) (by omega)).1
    have h2 := hr.get k (by rw [hr.len]; exact hk) hk
    simp only [List.getElem_drop] at h2
    exact h2 G O pb pl w nx _ hs hsub h1
inductive TnO (r : Nat → Nat) (hp hp' : HpT) : Obj → Obj → Prop
  | arr {sz : Nat} {es es' : List (List SV)} (h : F2 (F2 (TnS r hp hp')) es es') : TnO r hp hp' (.arr sz es) (.arr sz es')
  | map {es es' : List (Value × SV)} (h : F2 (fun a b => a.1 = b.1 ∧ TnS r hp hp' a.2 b.2) es es') : TnO r hp hp' (.map es) (.map es')
  | iter (es : List (Value × D)) (seen : List Nat) : TnO r hp hp' (.iter es seen) (.iter es seen)
  | raw (o : Go.Obj) : TnO r hp hp' (.raw o) (.raw o)
  | loop {fn : FuncId} {tm tm' : List (Nat × SV)} {nt : Nat} {params : Array Tmp} {assign body : Code} {state : LoopState} {pending : Option Code} {df df' : Nat}
      (h : ∀ t s', tm'.lookup t = some s' → ∃ s, tm.lookup t = some s ∧ TnS r hp hp' s s') : TnO r hp hp' (.loop fn tm nt params assign body state pending df) (.loop fn tm' nt params assign body state pending df')
theorem TnO.sound {o o' : Obj} {q : Pl} (h : TnO r hp hp' o o') (hs : HS G O pb pl w hp nx) (hsub : hp'.Sublist hp) (ho : ObjR pl (okOf O pl hp) w q o) : ObjR (fun id => pl (r id)) (okOf O pl hp') w q o' := by
  cases h with
  | arr h =>
    cases ho with
    | vac h0 =>
      cases h
      exact .vac h0
    | arr _ c e hne hc ht hn hz hr =>
      refine .arr _ c e hne hc ht (by rw [← h.len]; exact hn) (fun i hi => ?_) fun i hi j hj => ?_
      · rw [← (h.get i (by rw [h.len]; exact hi) hi).len]; exact hz i _
      · have h2 := h.get i (by rw [h.len]; exact hi) hi
        exact h2.get j (by rw [h2.len]; exact hj) hj G O pb pl w nx _ hs hsub (hr i _ j _)
  | map h =>
    cases ho with
    | map _ xs clock hne hc hm =>
      refine .map _ xs clock hne hc ⟨by rw [hm.1, h.len], by rw [hm.2.1, h.len], fun i hi => ?_⟩
      have h2 := h.get i (by rw [h.len]; exact hi) hi
      have h3 := hm.2.2 i (by rw [h.len]; exact hi)
      exact ⟨by rw [← h2.1]; exact h3.1, h3.2.1, h2.2 G O pb pl w nx _ hs hsub h3.2.2⟩
  | iter es seen => cases ho with | iter _ _ hne m hd h => exact .iter es seen hne m (hd.ext (hs.subExt hsub)) h
  | raw o => cases ho with | raw _ hne h => exact .raw o hne h
  | loop h =>
    cases ho with
    | loop fn tm nt params assign body state pending df hne tmps db hc hsz ht =>
      refine .loop _ _ _ _ _ _ _ _ _ hne tmps db hc hsz fun t s' hl => ?_
      obtain ⟨s, h1, h2⟩ := h t s' hl
      exact h2 G O pb pl w nx _ hs hsub (ht t s h1)
theorem ren_apart {hp1 hp2 : HpT} (h : F2 (fun p p' => p.1 = r p'.1) hp1 hp2)
    (hap : hp1.Pairwise (fun p p' => p.1 ≠ p'.1 ∧ ∀ q q', pl p.1 = some q → pl p'.1 = some q' → q.tot ≠ 0 → q'.tot ≠ 0 → q.blk ≠ q'.blk)) :
    hp2.Pairwise (fun p p' => p.1 ≠ p'.1 ∧ ∀ q q', pl (r p.1) = some q → pl (r p'.1) = some q' → q.tot ≠ 0 → q'.tot ≠ 0 → q.blk ≠ q'.blk) := by
  induction h with
  | nil => exact .nil
  | cons h t ih =>
    cases hap with | cons ha hb =>
    refine .cons (fun p hp1 => ?_) (ih hb)
    obtain ⟨p', g1, g2⟩ := t.mem p hp1
    have := ha p' g1
    exact ⟨fun hc => this.1 (by rw [h, g2, hc]), fun q q' e1 e2 => this.2 q q' (by rw [h]; exact e1) (by rw [g2]; exact e2)⟩
theorem Imp.turn {st : St} (r : Nat → Nat) (hp' : HpT) {tm' : List (Nat × SV)} {hp'' : HpT} {nx' : Nat} {df' : List Nat} (hsub : hp'.Sublist st.hp) (hnb : ∀ id, id < st.nb → r id = id) (hnx : ∀ id, nx' ≤ id → st.nx ≤ r id)
    (ht : ∀ t s', tm'.lookup t = some s' → ∃ s, st.tm.lookup t = some s ∧ TnS r st.hp hp' s s') (ho : F2 (fun p p' => p.1 = r p'.1 ∧ TnO r st.hp hp' p.2 p'.2) hp' hp'') (hd : df' = [] → st.df = []) :
    Imp st ⟨tm', hp'', nx', st.nt, df', st.nb⟩ := by
  intro G O₀ M pb pl a w hR
  have hs := hR.hs
  generalize hO : Ox O₀ a = O at hs
  obtain ⟨hs1, hst⟩ := hs.sub hsub
  have own : ∀ B, ownOf (fun id => pl (r id)) hp'' B ↔ ownOf pl hp' B := by
    intro B
    constructor
    · rintro ⟨p, h1, q, h2, h3⟩
      obtain ⟨p', g1, g2, _⟩ := ho.mem p h1
      exact ⟨p', g1, q, by rw [g2]; exact h2, h3⟩
    · rintro ⟨p, h1, q, h2, h3⟩
      obtain ⟨p', g1, g2, _⟩ := ho.mem' p h1
      exact ⟨p', g1, q, by rw [g2] at h2; exact h2, h3⟩
  have e : Ext (okOf O pl hp') w (okOf O (fun id => pl (r id)) hp'') w := Ext.weak fun B _ h => ⟨h.1, fun hc => h.2 ((own B).1 hc)⟩
  refine ⟨fun id => pl (r id), ⟨hO ▸ ⟨?_, ?_, ?_, hs.old, ?_, ?_⟩, ?_, hR.nt, ?_, hR.bd⟩, fun B hB => (own B).1 hB |> fun ⟨p, h1, h2⟩ => ⟨p, hsub.subset h1, h2⟩⟩
  · intro p hp1
    obtain ⟨p', g1, g2, g3⟩ := ho.mem p hp1
    obtain ⟨q, h1, h2, h3⟩ := hs.obj p' (hsub.subset g1)
    exact ⟨q, by rw [g2] at h1; exact h1, h2, (g3.sound hs hsub h3).ext e (fun _ _ h => h) fun _ _ => rfl⟩
  · exact ren_apart (ho.imp fun _ _ h => h.1) hs1.apart
  · intro id hid
    exact hs.fresh _ (hnx id hid)
  · intro id q hq
    show pl (r id) = some q
    rw [hnb id (hR.bd id q hq)]
    exact hs.base id q hq
  · intro g cs hg
    exact (Pure.dp cs _ _ _ w _ ((hs1.glob g cs hg).ext e fun _ _ h => h))
  · intro t s' hl
    obtain ⟨s, h1, h2⟩ := ht t s' hl
    rw [hO]
    exact (h2 G O pb pl w _ _ hs hsub (by have := hR.tm t s h1; rw [hO] at this; exact this)).ext e fun _ _ h => h
  · exact ⟨hR.df.lo, fun h => hR.df.nil (hd h), hR.df.mks, hR.df.nd⟩
theorem Imp.keepAll {st : St} : Imp st st := fun _ _ _ _ pl _ _ hR => ⟨pl, hR, fun _ h => h⟩
theorem Imp.trans {a b c : St} (h : Imp a b) (h' : Imp b c) : Imp a c := by
  intro G O M pb pl x w hR
  obtain ⟨pl1, h1, g1⟩ := h G O M pb pl x w hR
  obtain ⟨pl2, h2, g2⟩ := h' G O M pb pl1 x w h1
  exact ⟨pl2, h2, fun B hB => g1 B (g2 B hB)⟩
def Rigid (s : SV) : Prop := ∀ (pl pl' : Nat → Option Pl) (ok ok' : Nat → Prop) (w w' : World) (v : Value), SR pl ok w s v → SR pl' ok' w' s v
theorem Rigid.unk : Rigid .unk := fun _ _ _ _ _ _ v _ => .unk v
theorem Rigid.lit (x : Value) : Rigid (.d (.lit x)) := fun _ _ _ _ _ _ v h => by
  cases h with | d _ _ h => cases h with | lit _ h => exact .d _ _ (.lit _ h)
theorem Rigid.nil : Rigid (.d (.sl [])) := fun _ _ _ _ _ _ v h => by
  cases h with | d _ _ h =>
  generalize hD : D.sl [] = x at h
  cases h with
  | lit => cases hD
  | nil a cap => exact .d _ _ (.nil a cap)
  | sl sz es B off cap f hB hs hc hz hw hr => cases hD; exact .d _ _ (.nil _ cap)
  | mnil => cases hD
  | mp => cases hD
theorem Rigid.tup {cs : List SV} (h : ∀ c ∈ cs, Rigid c) : Rigid (.tup cs) := fun pl pl' ok ok' w w' v hv => by
  cases hv with | tup _ vs hl h1 => exact .tup _ vs hl fun i hi => h _ (List.getElem_mem hi) pl pl' ok ok' w w' _ (h1 i hi)
theorem Rigid.agg {cs : List SV} (h : ∀ c ∈ cs, Rigid c) : Rigid (.agg cs) := fun pl pl' ok ok' w w' v hv => by
  cases hv with | agg _ vs hl h1 => exact .agg _ vs hl fun i hi => h _ (List.getElem_mem hi) pl pl' ok ok' w w' _ (h1 i hi)
theorem CallP.useZ {f : FuncId} {args args' : List SV} {x : SV} (hp' : HpT) (h : CallP P G f args' x) (hsub : hp'.Sublist hp) (ha : F2 (TnS (fun i => i) hp hp') args args') {K : KT} (hK : K x hp' nx) : CallH P G f args hp nx K := by
  refine ⟨h.1, fun O pb pl w vs hs hl hr => ?_⟩
  obtain ⟨hs1, hst⟩ := hs.sub hsub
  refine (h.2 (fun B => O B ∨ ownOf pl hp' B) pl w vs (fun B hB => hB.elim (hs1.old B) hs1.own_lt) (fun g cs hg => (hs1.glob g cs hg).ext (okO O pl hp' w) fun _ _ h => h) (by rw [hl, ha.len])
    (fun i hi => ((ha.get i (by rw [ha.len]; exact hi) hi G O pb pl w nx _ hs hsub (hr i (by rw [ha.len]; exact hi)))).ext (okO O pl hp' w) fun _ _ h => h)).mono ?_
  rintro e w' ⟨v, rfl, hv, hadd⟩
  exact ⟨v, rfl, pl, x, hp', nx, hK, hs1.add hadd, hv.ext (okO' O pl hp' w') (fun _ _ h => h), hst.trans hadd.step, fun _ _ h => h⟩
theorem CallP.useB {f : FuncId} {args args' : List SV} {x : SV} (hp' : HpT) (h : CallP P G f args' x) (hsub : hp'.Sublist hp) (ha : F2 (TnS (fun i => i) hp hp') args args') (hx : Rigid x) {K : KT} (hK : K x hp nx) : CallH P G f args hp nx K := by
  refine ⟨h.1, fun O pb pl w vs hs hl hr => ?_⟩
  obtain ⟨hs1, hst⟩ := hs.sub hsub
  refine (h.2 (fun B => O B ∨ ownOf pl hp' B) pl w vs (fun B hB => hB.elim (hs1.old B) hs1.own_lt) (fun g cs hg => (hs1.glob g cs hg).ext (okO O pl hp' w) fun _ _ h => h) (by rw [hl, ha.len])
    (fun i hi => ((ha.get i (by rw [ha.len]; exact hi) hi G O pb pl w nx _ hs hsub (hr i (by rw [ha.len]; exact hi)))).ext (okO O pl hp' w) fun _ _ h => h)).mono ?_
  rintro e w' ⟨v, rfl, hv, hadd⟩
  exact ⟨v, rfl, pl, x, hp, nx, hK, hs.add hadd, hx _ _ _ _ _ _ _ hv, hadd.step, fun _ _ h => h⟩
end
end Go.Sy
namespace Go.Sy
def bindT : List Tmp → List SV → List (Nat × SV) → List (Nat × SV)
  | [], _, tm => tm
  | _, [], tm => tm
  | t :: ts, s :: ss, tm => bindT ts ss ((t, s) :: tm)
section
variable {P : Program} {G : Nat → Option (List D)} {ro : Option Nat} {M : Nat} {O : Nat → Prop} {pb pl pl' : Nat → Option Pl} {w w' : World} {hp hp' : HpT} {nx nx' : Nat} {ok ok' : Nat → Prop} {st : St} {Q : Exit → St → Prop}
theorem bindT_run : ∀ (ts : List Tmp) (vs : List Value) (ss : List SV) (tm : List (Nat × SV)) (tmps : Array Value), vs.length = ss.length → ts.length = ss.length → (∀ t ∈ ts, t < tmps.size) → TmR pl ok w tm tmps →
    (∀ i (h : i < ss.length) (h' : i < vs.length), SR pl ok w (ss[i]) (vs[i])) →
    TmR pl ok w (bindT ts ss tm) ((ts.zip vs).foldl (fun tmps (x : Tmp × Value) => tmps.setIfInBounds x.1 x.2) tmps) ∧ ((ts.zip vs).foldl (fun tmps (x : Tmp × Value) => tmps.setIfInBounds x.1 x.2) tmps).size = tmps.size
  | [], vs, ss, tm, tmps, _, _, _, h, _ => by cases ss <;> exact ⟨h, rfl⟩
  | t :: ts, vs, [], tm, tmps, _, h, _, _, _ => by simp at h
  | t :: ts, [], s :: ss, tm, tmps, h, _, _, _, _ => by simp at h
  | t :: ts, v :: vs, s :: ss, tm, tmps, h1, h2, h3, h4, h5 => by
    have := bindT_run ts vs ss ((t, s) :: tm) (tmps.setIfInBounds t v) (by simpa using h1) (by simpa using h2) (fun t' ht' => by simpa using h3 t' (List.mem_cons_of_mem _ ht')) (fun t' s' hl => by
      simp only [List.lookup_cons] at hl
      split at hl
      · rename_i he
        have : t' = t := by simpa using he
        subst this
        cases hl
        have hlt := h3 t' List.mem_cons_self
        have hv := h5 0 (by simp) (by simp)
        simpa [Array.getD_eq_getD_getElem?, hlt] using hv
      · rename_i he
        have hne : t ≠ t' := fun hc => by subst hc; simp at he
        have := h4 t' s' hl
        simpa [Array.getD_eq_getD_getElem?, Array.getElem?_setIfInBounds_ne hne] using this) (fun i hi hi' => by
        have := h5 (i + 1) (by simpa using hi) (by simpa using hi')
        simpa using this)
    refine ⟨this.1, ?_⟩
    have h6 := this.2
    simpa using h6
def RoundEnd (l : Nat) (K : KT) (x : Exit) (st : St) : Prop :=
  ∃ fn tm nt ps assign body s p df, st.hp.lookup l = some (.loop fn tm nt ps assign body s p df) ∧
  match x with
  | .normal => K (.d (.lit (.bool true))) (upd st.hp l (.loop fn tm nt ps assign body .ready none df)) st.nx
  | .ret => K (.d (.lit (.bool false))) (upd st.hp l (.loop fn tm nt ps assign body .done (some .ret) df)) st.nx
  | .exit id => K (.d (.lit (.bool false))) (upd st.hp l (.loop fn tm nt ps assign body .done (some (.exit id)) df)) st.nx
  | _ => False
theorem HS.loopObj (hs : HS G O pb pl w hp nx) {l : Nat} {fn : FuncId} {tm : List (Nat × SV)} {nt : Nat} {ps : Array Tmp} {assign body : Code} {s : LoopState} {p : Option Code} {df : Nat}
    (h : hp.lookup l = some (.loop fn tm nt ps assign body s p df)) {q : Pl} (hq : pl l = some q) :
    q.tot ≠ 0 ∧ ∃ (tmps : Array Value) (db : Nat), w.heap[q.blk]? = some (.loop { state := s, pending := p, fn, tmps, params := ps, assign, body, defers := db }) ∧ tmps.size = nt ∧ TmR pl (okOf O pl hp) w tm tmps ∧
      ∀ s' p', HS G O pb pl { w with heap := w.heap.setIfInBounds q.blk (.loop { state := s', pending := p', fn, tmps, params := ps, assign, body, defers := db }) } (upd hp l (.loop fn tm nt ps assign body s' p' df)) nx ∧
        Step (ownOf pl hp) (ownOf pl (upd hp l (.loop fn tm nt ps assign body s' p' df))) w { w with heap := w.heap.setIfInBounds q.blk (.loop { state := s', pending := p', fn, tmps, params := ps, assign, body, defers := db }) } := by
  obtain ⟨q', hq', hlt, ho⟩ := hs.obj _ (lookup_mem h)
  simp only at hq' ho
  rw [hq] at hq'
  cases hq'
  cases ho with | loop _ _ _ _ _ _ _ _ _ hne tmps db hh hsz ht =>
  refine ⟨hne, tmps, db, hh, hsz, ht, fun s' p' => ?_⟩
  have hhs := MapKept.heap_set (o' := .loop { state := s', pending := p', fn, tmps, params := ps, assign, body, defers := db }) hh
  exact hs.write (o := .loop fn tm nt ps assign body s' p' df) (w' := { w with heap := w.heap.setIfInBounds q.blk (.loop { state := s', pending := p', fn, tmps, params := ps, assign, body, defers := db }) }) ⟨_, lookup_mem h⟩ hq hne
    (by simp) (fun B hB => hhs.2 B hB) rfl rfl fun ext => .loop fn tm nt ps assign body s' p' df hne tmps db hhs.1 hsz (ht.ext ext fun _ _ h => h)
theorem run_getLoop {l : Nat} {r : Loop} (h : w.heap[l]? = some (.loop r)) : (Instr.getLoop l).run P w = .ok r w := by
  simp [Instr.getLoop, getObj, Sem.run, Sem.bind, bind, h]
  try rfl
theorem run_setLoop {l : Nat} {r : Loop} {o' : Go.Obj} (h : w.heap[l]? = some (.loop r)) : (setObj l o').run P w = .ok () { w with heap := w.heap.setIfInBounds l o' } := by
  simp [setObj, Sem.run, h]
theorem RoundH.of_body {l : Nat} {args : List SV} {K : KT} {fn : FuncId} {tm : List (Nat × SV)} {nt : Nat} {ps : Array Tmp} {assign body : Code} {p : Option Code} {df : Nat}
    (hl : hp.lookup l = some (.loop fn tm nt ps assign body .ready p df)) (hps : ps.size = args.length) (hpt : ∀ t ∈ ps.toList, t < nt)
    (h : ∀ ro, Tr P G (some ro) assign ⟨bindT ps.toList args tm, hp, nx, nt, [], nx⟩ fun x s => x = .normal ∧ ∃ p' tm', s.hp.lookup l = some (.loop fn tm' nt ps assign body .ready p' df) ∧
      Tr P G (some ro) body ⟨s.tm, upd s.hp l (.loop fn tm' nt ps assign body .busy p' df), s.nx, s.nt, s.df, s.nb⟩ (RoundEnd l K)) : RoundH P G l args hp nx K := by
  intro O pb pl w vs q hs hlen hr hq
  obtain ⟨hne, tmps, db, hh, hsz, htm, -⟩ := hs.loopObj hl hq
  have hvl : vs.toList.length = args.length := by simpa using hlen
  obtain ⟨b1, b2⟩ := bindT_run (pl := pl) (ok := okOf O pl hp) (w := w) ps.toList vs.toList args tm tmps (by simpa using hlen) (by simpa using hps) (fun t ht => by rw [hsz]; exact hpt t ht) htm (fun i h1 h2 => by
    have := hr i h1
    have h2' : i < vs.size := by simpa using h2
    simpa [Array.getD_eq_getD_getElem?, h2'] using this)
  have hyield : (Instr.yield q.blk vs).run P w = .ok (.round q.blk fn ((ps.toList.zip vs.toList).foldl (fun tmps (x : Tmp × Value) => tmps.setIfInBounds x.1 x.2) tmps) assign body) w := by
    have hsize : ¬ vs.size ≠ ps.size := by omega
    simp only [Instr.yield, Sem.run_bind, run_getLoop hh, Result.andThen_ok]
    rw [if_neg hsize]
    simp only [Sem.run_pure]
    congr 2
    rw [← Array.foldl_toList, Array.toList_zip]
  refine ⟨fn, _, assign, body, hyield, ?_⟩
  refine roundIn_of_wpIn trivial ?_
  obtain ⟨hs0, e0⟩ := hs.lessO (O' := Ox O { tmps := (ps.toList.zip vs.toList).foldl (fun tmps (x : Tmp × Value) => tmps.setIfInBounds x.1 x.2) tmps, defers := [] }) (Ox_nil rfl)
  have hR : R G O w.heap.size pl pl ⟨bindT ps.toList args tm, hp, nx, nt, [], nx⟩ { tmps := (ps.toList.zip vs.toList).foldl (fun tmps (x : Tmp × Value) => tmps.setIfInBounds x.1 x.2) tmps, defers := [] } w :=
    ⟨{ hs0 with base := fun _ _ h => h }, b1.ext e0 (fun _ _ h => h), by simp only; rw [b2, hsz], ⟨Nat.le_refl _, fun _ => rfl, fun d hd => by simp at hd, .nil⟩, fun id q h => hs.id_lt h⟩
  refine wpIn_mono (h q.blk O w.heap.size pl pl _ w hR) ?_
  rintro x a₁ w₁ ⟨pl₁, s₁, ⟨rfl, p', tm', hl₁, hbody⟩, hR₁, hst₁⟩
  have hq₁ : pl₁ l = some q := hR₁.hs.base _ _ hq
  obtain ⟨-, tmps₁, db₁, hh₁, -, -, hwr⟩ := hR₁.hs.loopObj hl₁ hq₁
  obtain ⟨g1, g2⟩ := hwr .busy p'
  refine ⟨{ w₁ with heap := w₁.heap.setIfInBounds q.blk (.loop { state := .busy, pending := p', fn, tmps := tmps₁, params := ps, assign, body, defers := db₁ }) }, ?_, ?_⟩
  · simp only [Instr.beginRound, Sem.run_bind, run_getLoop hh₁, Result.andThen_ok, run_setLoop hh₁]
    rfl
  · have hR₂ : R G O w.heap.size pl pl₁ ⟨s₁.tm, upd s₁.hp l (.loop fn tm' nt ps assign body .busy p' df), s₁.nx, s₁.nt, s₁.df, s₁.nb⟩ a₁
        { w₁ with heap := w₁.heap.setIfInBounds q.blk (.loop { state := .busy, pending := p', fn, tmps := tmps₁, params := ps, assign, body, defers := db₁ }) } :=
      ⟨g1, hR₁.tm.ext g2.ext (fun _ _ h => h), hR₁.nt, hR₁.dfStep g2, hR₁.bd⟩
    refine wpIn_mono (hbody O w.heap.size pl pl₁ _ _ hR₂) ?_
    rintro x a₃ w₃ ⟨pl₃, s₃, hend, hR₃, hst₃⟩
    obtain ⟨fn', tm3, nt3, ps3, as3, bd3, ss3, pp3, df3, hl₃, hx⟩ := hend
    have hq₃ : pl₃ l = some q := hR₃.hs.base _ _ hq
    obtain ⟨-, tmps₃, db₃, hh₃, -, -, hwr₃⟩ := hR₃.hs.loopObj hl₃ hq₃
    have fin : ∀ (b : Bool) s' p', K (.d (.lit (.bool b))) (upd s₃.hp l (.loop fn' tm3 nt3 ps3 as3 bd3 s' p' df3)) s₃.nx →
        Fin G O pb pl w hp K (.bool b) { w₃ with heap := w₃.heap.setIfInBounds q.blk (.loop { state := s', pending := p', fn := fn', tmps := tmps₃, params := ps3, assign := as3, body := bd3, defers := db₃ }) } := by
      intro b s' p' hK
      obtain ⟨e1, e2⟩ := hwr₃ s' p'
      obtain ⟨e3, _⟩ := e1.lessO (O' := O) (fun B hB => .inl hB)
      exact ⟨pl₃, _, _, _, hK, { e3 with base := fun id q h => e1.base id q (hs.base id q h) }, .d _ _ (.lit _ rfl), ((hst₁.trans g2).trans hst₃).trans e2, fun id q h => e1.base id q h⟩
    cases x with
    | normal =>
      refine ⟨.bool true, _, ?_, .bool true, rfl, fin true .ready none hx⟩
      simp only [Instr.endRound, Sem.run_bind, run_getLoop hh₃, Result.andThen_ok, run_setLoop hh₃, Sem.run_pure]
      rfl
    | ret =>
      refine ⟨.bool false, _, ?_, .bool false, rfl, fin false .done (some .ret) hx⟩
      simp only [Instr.endRound, Sem.run_bind, run_getLoop hh₃, Result.andThen_ok, run_setLoop hh₃, Sem.run_pure]
      rfl
    | exit id =>
      refine ⟨.bool false, _, ?_, .bool false, rfl, fin false .done (some (.exit id)) hx⟩
      simp only [Instr.endRound, Sem.run_bind, run_getLoop hh₃, Result.andThen_ok, run_setLoop hh₃, Sem.run_pure]
      rfl
    | goto l => exact hx.elim
    | panic ch => exact hx.elim
    | outgrown => exact hx.elim
theorem RoundH.mono {l : Nat} {args : List SV} {K K' : KT} (h : RoundH P G l args hp nx K) (hk : ∀ r hp' nx', K r hp' nx' → K' r hp' nx') : RoundH P G l args hp nx K' := by
  intro O pb pl w vs q hs hl hr hq
  obtain ⟨f, tmps, aS0, bd, g1, g2⟩ := h O pb pl w vs q hs hl hr hq
  exact ⟨f, tmps, aS0, bd, g1, g2.mono fun _ _ ⟨v, e, pl', r, hp', nx', hK, rest⟩ => ⟨v, e, pl', r, hp', nx', hk _ _ _ hK, rest⟩⟩
theorem HS.addO {O' : Nat → Prop} (hs : HS G O pb pl w hp nx) (ha : Add w w') (h1 : ∀ B, O' B → O B ∨ (w.heap.size ≤ B ∧ B < w'.heap.size)) : HS G O' pb pl w' hp nx ∧ Ext (okOf O pl hp) w (okOf O' pl hp) w' := by
  have e : Ext (okOf O pl hp) w (okOf O' pl hp) w' := ⟨fun B hB h => ⟨fun hc => (h1 B hc).elim h.1 (fun h2 => by omega), h.2⟩, fun B hB _ => ha.keep B hB, ha.size⟩
  refine ⟨⟨fun p h => ?_, hs.apart, hs.fresh, fun B hB => (h1 B hB).elim (fun h => Nat.lt_of_lt_of_le (hs.old B h) ha.size) (fun h => h.2), hs.base, fun g cs hg => (hs.glob g cs hg).ext e fun _ _ h => h⟩, e⟩
  obtain ⟨q, g1, g2, g3⟩ := hs.obj p h
  exact ⟨q, g1, fun ht => ⟨Nat.lt_of_lt_of_le (g2 ht).1 ha.size, fun hc => (h1 _ hc).elim (g2 ht).2 (fun h => by have := (g2 ht).1; omega)⟩, g3.ext e (fun _ _ h => h) fun ht hlt => ha.keep _ hlt⟩
theorem Tr.rangeF {g : Operand} {ps : Array Tmp} {assign body : Code} {f : FuncId} {first cap : List SV} (hg : ev G st.tm g = .clo (.func f) first cap)
    (h : ∀ fn, CallH P G f (first ++ [.yld st.nx] ++ cap) ((st.nx, .loop fn st.tm st.nt ps assign body .ready none 0) :: st.hp) (st.nx + 1) fun _ hp' nx' =>
      ∃ tm' s p, hp'.lookup st.nx = some (.loop fn tm' st.nt ps assign body s p 0) ∧ s ≠ .busy ∧
        match p with
        | none => Q .normal ⟨st.tm, upd hp' st.nx (.loop fn tm' st.nt ps assign body .exhausted p 0), nx', st.nt, [0], st.nb⟩
        | some c => Tr P G none c ⟨st.tm, upd hp' st.nx (.loop fn tm' st.nt ps assign body .exhausted p 0), nx', st.nt, [0], st.nb⟩ Q) :
    Tr P G none (.rangeFunc g ps assign body) st Q := by
  intro O M pb pl a w hR
  refine wpIn_rangeFunc fun fn _ => ?_
  have hs := hR.hs
  have hev := ev_sound hs hR.tm g
  rw [hg] at hev
  generalize hvf : a.eval g = vf at hev
  cases hev with | clo _ _ _ fs cs h1 h2 h3 h4 =>
  let W0 := w.alloc (.deferred (some []))
  have hW0 : W0.heap.size = w.heap.size + 1 := by simp [W0]
  let a1 : Act := { a with defers := [{ target := .collected w.heap.size, args := #[] }] ++ a.defers }
  have ha0 := Add.alloc w (.deferred (some []))
  have hmk : ∀ B, Ox O a1 B → Ox O a B ∨ (w.heap.size ≤ B ∧ B < W0.heap.size) := by
    rintro B (hB | ⟨d, hd, ht⟩)
    · exact .inl (.inl hB)
    · rcases List.mem_cons.1 hd with rfl | hd
      · simp only [Target.collected.injEq] at ht
        exact .inr (by omega)
      · exact .inl (.inr ⟨d, hd, ht⟩)
  obtain ⟨hs0, e0⟩ := hs.addO (w' := W0) ha0 hmk
  have st0 : Step (ownOf pl st.hp) (ownOf pl st.hp) w W0 := ha0.step
  let q1 : Pl := ⟨W0.heap.size, 1, 1⟩
  let lo : Go.Obj := .loop { state := .ready, pending := none, fn, tmps := a.tmps, params := ps, assign, body, defers := w.heap.size }
  have ha1 := Add.alloc W0 lo
  have st1 := hs0.step_new ha1 q1 (fun _ => rfl) (.loop fn st.tm st.nt ps assign body .ready none 0)
  have m1 := hs0.plUp_mono q1
  have htm1 : TmR (plUp pl st.nx q1) (okOf (Ox O a1) (plUp pl st.nx q1) ((st.nx, .loop fn st.tm st.nt ps assign body .ready none 0) :: st.hp)) (W0.alloc lo) st.tm a.tmps :=
    (hR.tm.ext e0 (fun _ _ h => h)).ext st1.ext m1
  have hs1 : HS G (Ox O a1) pb (plUp pl st.nx q1) (W0.alloc lo) ((st.nx, .loop fn st.tm st.nt ps assign body .ready none 0) :: st.hp) (st.nx + 1) :=
    hs0.new ha1 q1 _ (fun _ => rfl) (fun _ => by simp [q1]) (.loop fn st.tm st.nt ps assign body .ready none 0 (by simp [q1]) a.tmps w.heap.size (heap_alloc_new _ _) hR.nt htm1)
  have hRm : R G O M pb (plUp pl st.nx q1) ⟨st.tm, (st.nx, .loop fn st.tm st.nt ps assign body .ready none 0) :: st.hp, st.nx + 1, st.nt, [0], st.nb⟩ a1 (W0.alloc lo) := by
    refine ⟨hs1, htm1, hR.nt, ⟨Nat.le_trans hR.df.lo (Nat.le_trans ha0.size ha1.size), fun h => by simp at h, fun d hd => ?_, ?_⟩, hR.bd⟩
    · rcases List.mem_cons.1 hd with rfl | hd
      · exact ⟨w.heap.size, rfl, hR.df.lo, by rw [heap_alloc_old W0 lo (by omega)]; exact heap_alloc_new _ _⟩
      · obtain ⟨B, g1, g2, g3⟩ := hR.df.mks d hd
        have hlt := heap_lt g3
        exact ⟨B, g1, g2, by rw [heap_alloc_old W0 lo (by omega), ha0.keep B hlt]; exact g3⟩
    · refine List.Pairwise.cons (fun d hd => ?_) hR.df.nd
      obtain ⟨B, g1, g2, g3⟩ := hR.df.mks d hd
      have hlt := heap_lt g3
      rw [g1]
      simp only [ne_eq, Target.collected.injEq]
      omega
  refine ⟨W0.heap.size, [{ target := .collected w.heap.size, args := #[] }], W0.alloc lo, { target := .fn (.func f) cs, args := fs ++ #[.func (.yield W0.heap.size) #[] #[]] }, W0.alloc lo, f, fs ++ #[.func (.yield W0.heap.size) #[] #[]] ++ cs, W0.alloc lo, ?_, ?_, fun _ _ => trivial, ?_, fun h => by simp [Fence.wide] at h, ?_⟩
  · simp only [Instr.enterLoop, Sem.run_bind, newObj, Sem.run, Result.andThen]
    rfl
  · simp only [resolve, hvf, Deferred.ofValue]
    simp [Act.eval]
  · simp only [invoke]
    exact run_callFunc (h fn).1
  · have hc := (h fn).2 (Ox O a1) pb (plUp pl st.nx q1) (W0.alloc lo) (fs ++ #[.func (.yield W0.heap.size) #[] #[]] ++ cs) hs1 (by simp [h1, h2]; omega) (by
      obtain ⟨g1, g2⟩ := append3 (pl := plUp pl st.nx q1) (w := W0.alloc lo) (a := first) (b := [.yld st.nx]) (c := cap)
        (ok := okOf (Ox O a1) (plUp pl st.nx q1) ((st.nx, .loop fn st.tm st.nt ps assign body .ready none 0) :: st.hp))
        (va := fs) (vb := #[.func (.yield W0.heap.size) #[] #[]]) (vc := cs) h1 rfl h2 (fun i hi => ((h3 i hi).ext e0 (fun _ _ h => h)).ext st1.ext m1) (fun i hi => by
          match i, hi with
          | 0, _ => exact .yld _ q1 (plUp_self _ _ _)) (fun i hi => ((h4 i hi).ext e0 (fun _ _ h => h)).ext st1.ext m1)
      exact g2)
    refine hc.mono ?_
    rintro e w' ⟨v, rfl, pl', r, hp', nx', ⟨tm', s, p, hl, hsb, hrest⟩, hs', hv, hst, hpl⟩
    have hq : pl' st.nx = some q1 := hpl _ _ (plUp_self _ _ _)
    obtain ⟨-, tmps', db', hh', -, -, hwr⟩ := hs'.loopObj hl hq
    obtain ⟨g1, g2⟩ := hwr .exhausted p
    have hend : (Instr.endLoop W0.heap.size).run P w' = .ok p { w' with heap := w'.heap.setIfInBounds q1.blk (.loop { state := .exhausted, pending := p, fn, tmps := tmps', params := ps, assign, body, defers := db' }) } := by
      have hb : ((s == LoopState.busy) = true) = False := by
        cases s <;> simp at hsb ⊢ <;> rfl
      have hh2 : w'.heap[W0.heap.size]? = some (.loop { state := s, pending := p, fn, tmps := tmps', params := ps, assign, body, defers := db' }) := hh'
      simp only [Instr.endLoop, Sem.run_bind, run_getLoop hh2, Result.andThen_ok, hb, if_false, Sem.run_pure, run_setLoop hh2]
      rfl
    have hall : Step (ownOf pl st.hp) (ownOf pl' (upd hp' st.nx (.loop fn tm' st.nt ps assign body .exhausted p 0))) w { w' with heap := w'.heap.setIfInBounds q1.blk (.loop { state := .exhausted, pending := p, fn, tmps := tmps', params := ps, assign, body, defers := db' }) } :=
      ((st0.trans st1).trans hst).trans g2
    have hmono : ∀ id q, plUp pl st.nx q1 id = some q → pl' id = some q := hpl
    have hR' : R G O M pb pl' ⟨st.tm, upd hp' st.nx (.loop fn tm' st.nt ps assign body .exhausted p 0), nx', st.nt, [0], st.nb⟩ a1
        { w' with heap := w'.heap.setIfInBounds q1.blk (.loop { state := .exhausted, pending := p, fn, tmps := tmps', params := ps, assign, body, defers := db' }) } :=
      ⟨g1, hRm.tm.ext (hst.trans g2).ext hmono, hR.nt, hRm.dfStep (hst.trans g2), hR.bd⟩
    refine ⟨p, _, hend, ?_⟩
    cases p with
    | none => exact ⟨pl', _, hrest, hR', hall⟩
    | some c => exact wpIn_mono (hrest O M pb pl' _ _ hR') fun _ _ _ ⟨pl'', st'', q, r, s⟩ => ⟨pl'', st'', q, r, hall.trans s⟩
theorem Tr.loopI {c : Code} (I : Nat → St → Prop) (n : Nat) (h₀ : I n st)
    (round : ∀ n s, I n s → Tr P G ro c s (ExS.thn (fun s' => ∃ m s'', m < n ∧ Imp s' s'' ∧ I m s'') Q)) : Tr P G ro (.loop c) st Q := by
  refine Tr.loop I n h₀ fun n s hI => Tr.post ((round n s hI).mono fun x s' hq => ?_)
  cases x with
  | normal =>
    obtain ⟨m, s'', hm, hi, hI'⟩ := hq
    exact ⟨s'', hi, m, hm, hI'⟩
  | _ => exact ⟨s', Imp.keepAll, hq⟩
end
end Go.Sy
namespace Go.Sy
section
variable {P : Program} {G : Nat → Option (List D)} {ro : Option Nat} {M : Nat} {O : Nat → Prop} {pb pl pl' : Nat → Option Pl} {w w' : World} {hp hp' : HpT} {nx nx' : Nat} {ok ok' : Nat → Prop} {st : St} {Q : Exit → St → Prop}
theorem Tr.join2 {x y : Code} {st' : St} (h : Tr P G ro x st (ExS.thn (fun s => ∃ s', Imp s s' ∧ s' = st') Q)) (hy : Tr P G ro y st' Q) : Tr P G ro x st (ExS.thn (fun s => Tr P G ro y s Q) Q) :=
  h.mono fun e s hq => by
    cases e with
    | normal =>
      obtain ⟨s', hi, rfl⟩ := hq
      exact Tr.imp hi hy
    | _ => exact hq
theorem Tr.rangeF2 {g : Operand} {ps : Array Tmp} {assign body : Code} {f : FuncId} {first cap : List SV} (hg : ev G st.tm g = .clo (.func f) first cap)
    (h : ∀ fn aS0 bd, aS0 = assign → bd = body → CallH P G f (first ++ [.yld st.nx] ++ cap) ((st.nx, .loop fn st.tm st.nt ps aS0 bd .ready none 0) :: st.hp) (st.nx + 1) fun _ hp' nx' =>
      ∃ tm' s p, hp'.lookup st.nx = some (.loop fn tm' st.nt ps aS0 bd s p 0) ∧ s ≠ .busy ∧
        match p with
        | none => Q .normal ⟨st.tm, upd hp' st.nx (.loop fn tm' st.nt ps aS0 bd .exhausted p 0), nx', st.nt, [0], st.nb⟩
        | some c => Tr P G none c ⟨st.tm, upd hp' st.nx (.loop fn tm' st.nt ps aS0 bd .exhausted p 0), nx', st.nt, [0], st.nb⟩ Q) :
    Tr P G none (.rangeFunc g ps assign body) st Q := Tr.rangeF hg fun fn => h fn assign body rfl rfl
theorem RoundH.of_body2 {l : Nat} {args : List SV} {K : KT} {fn : FuncId} {tm : List (Nat × SV)} {nt : Nat} {ps : Array Tmp} {assign body aS0 bd : Code} {p : Option Code} {df : Nat} (ha : aS0 = assign) (hb : bd = body)
    (hl : hp.lookup l = some (.loop fn tm nt ps aS0 bd .ready p df)) (hps : ps.size = args.length) (hpt : ∀ t ∈ ps.toList, t < nt)
    (h : ∀ ro, Tr P G (some ro) assign ⟨bindT ps.toList args tm, hp, nx, nt, [], nx⟩ fun x s => x = .normal ∧ ∃ p' tm', s.hp.lookup l = some (.loop fn tm' nt ps aS0 bd .ready p' df) ∧
      Tr P G (some ro) body ⟨s.tm, upd s.hp l (.loop fn tm' nt ps aS0 bd .busy p' df), s.nx, s.nt, s.df, s.nb⟩ (RoundEnd l K)) : RoundH P G l args hp nx K := by
  subst ha hb; exact RoundH.of_body hl hps hpt h
def VnS (id sz : Nat) (s s' : SV) : Prop := ∀ (pl : Nat → Option Pl) (ok : Nat → Prop) (w : World) (v : Value), pl id = some ⟨0, sz, 0⟩ → SR pl ok w s v → SR pl ok w s' v
theorem VnS.same {id sz : Nat} {s : SV} : VnS id sz s s := fun _ _ _ _ _ h => h
theorem VnS.nil {id sz : Nat} : VnS id sz (.dx []) (.slc id sz 0 0 0) := fun pl ok w v hid h => by
  cases h with | dx _ a h => exact .slc0 id sz 0 0 0 _ hid rfl rfl rfl rfl rfl a
inductive VnO (id sz : Nat) : Obj → Obj → Prop
  | same (o : Obj) : VnO id sz o o
  | arr {s : Nat} {es es' : List (List SV)} (h : F2 (F2 (VnS id sz)) es es') : VnO id sz (.arr s es) (.arr s es')
theorem VnO.sound {id sz : Nat} {o o' : Obj} {q : Pl} (h : VnO id sz o o') (hid : pl id = some ⟨0, sz, 0⟩) (ho : ObjR pl ok w q o) : ObjR pl ok w q o' := by
  cases h with
  | same => exact ho
  | arr h =>
    cases ho with
    | vac h0 => cases h; exact .vac h0
    | arr _ c e hne hc ht hn hz hr =>
      refine .arr _ c e hne hc ht (by rw [← h.len]; exact hn) (fun i hi => ?_) fun i hi j hj => ?_
      · rw [← (h.get i (by rw [h.len]; exact hi) hi).len]; exact hz i _
      · have h2 := h.get i (by rw [h.len]; exact hi) hi
        exact h2.get j (by rw [h2.len]; exact hj) hj pl ok w _ hid (hr i _ j _)
theorem fst_eq {l m : HpT} (h : F2 (fun p p' => p.1 = p'.1) l m) : l.map (·.1) = m.map (·.1) := by
  induction h with
  | nil => rfl
  | cons h _ ih => simp [h, ih]
theorem Imp.vac {st : St} (sz : Nat) {tm' : List (Nat × SV)} {hp' : HpT} (ht : ∀ t s', tm'.lookup t = some s' → ∃ s, st.tm.lookup t = some s ∧ VnS st.nx sz s s')
    (ho : F2 (fun p p' => p.1 = p'.1 ∧ VnO st.nx sz p.2 p'.2) st.hp hp') : Imp st ⟨tm', (st.nx, .arr sz []) :: hp', st.nx + 1, st.nt, st.df, st.nb⟩ := by
  intro G O₀ M pb pl a w hR
  have hsR := hR.hs
  have htmR := hR.tm
  generalize hO : Ox O₀ a = O at hsR htmR
  obtain ⟨hs1, hst, hmono⟩ := hsR.newVac (Add.refl w) sz
  have hid : plUp pl st.nx ⟨0, sz, 0⟩ st.nx = some ⟨0, sz, 0⟩ := plUp_self _ _ _
  have own : ∀ B, ownOf (plUp pl st.nx ⟨0, sz, 0⟩) ((st.nx, .arr sz []) :: hp') B ↔ ownOf (plUp pl st.nx ⟨0, sz, 0⟩) ((st.nx, .arr sz []) :: st.hp) B := by
    intro B
    constructor
    · rintro ⟨p, h1, r⟩
      rcases List.mem_cons.1 h1 with rfl | h1
      · exact ⟨_, List.mem_cons_self, r⟩
      · obtain ⟨p', g1, g2, _⟩ := ho.mem p h1
        exact ⟨p', List.mem_cons_of_mem _ g1, by rw [g2]; exact r⟩
    · rintro ⟨p, h1, r⟩
      rcases List.mem_cons.1 h1 with rfl | h1
      · exact ⟨_, List.mem_cons_self, r⟩
      · obtain ⟨p', g1, g2, _⟩ := ho.mem' p h1
        exact ⟨p', List.mem_cons_of_mem _ g1, by rw [← g2]; exact r⟩
  have e : Ext (okOf O (plUp pl st.nx ⟨0, sz, 0⟩) ((st.nx, .arr sz []) :: st.hp)) w (okOf O (plUp pl st.nx ⟨0, sz, 0⟩) ((st.nx, .arr sz []) :: hp')) w := Ext.weak fun B _ h => ⟨h.1, fun hc => h.2 ((own B).1 hc)⟩
  refine ⟨plUp pl st.nx ⟨0, sz, 0⟩, ⟨hO ▸ ⟨?_, ?_, hs1.fresh, hs1.old, hs1.base, fun g cs hg => (hs1.glob g cs hg).ext e fun _ _ h => h⟩, hO ▸ ?_, hR.nt, hR.df, hR.bd⟩, fun B hB => ?_⟩
  · intro p hp1
    rcases List.mem_cons.1 hp1 with rfl | hp1
    · exact ⟨_, hid, fun h => absurd rfl h, .vac rfl⟩
    · obtain ⟨p', g1, g2, g3⟩ := ho.mem p hp1
      obtain ⟨q, h1, h2, h3⟩ := hs1.obj p' (List.mem_cons_of_mem _ g1)
      exact ⟨q, by rw [g2] at h1; exact h1, h2, (g3.sound hid h3).ext e (fun _ _ h => h) fun _ _ => rfl⟩
  · have hap := hs1.apart
    have hfst : ((st.nx, Obj.arr sz []) :: st.hp).map (·.1) = ((st.nx, Obj.arr sz []) :: hp').map (·.1) := by
      simp only [List.map_cons, List.cons.injEq, true_and]
      exact fst_eq (ho.imp fun _ _ h => h.1)
    exact apart_fst hfst hap
  · intro t s' hl
    obtain ⟨s, h1, h2⟩ := ht t s' hl
    exact (h2 _ _ _ _ hid ((htmR t s h1).ext hst.ext hmono)).ext e fun _ _ h => h
  · have hB' := (own B).1 hB
    rcases hsR.own_new ⟨0, sz, 0⟩ (.arr sz []) B hB' with h | ⟨h, _⟩
    · exact h
    · exact absurd rfl h
theorem fa_nil : ∀ s ∈ ([] : List SV), Pure s := fun _ h => by simp at h
theorem fa_cons {s : SV} {l : List SV} (h : Pure s) (t : ∀ x ∈ l, Pure x) : ∀ x ∈ s :: l, Pure x := fun x hx => by
  rcases List.mem_cons.1 hx with rfl | hx
  · exact h
  · exact t x hx
theorem ra_nil : ∀ s ∈ ([] : List SV), Rigid s := fun _ h => by simp at h
theorem ra_cons {s : SV} {l : List SV} (h : Rigid s) (t : ∀ x ∈ l, Rigid x) : ∀ x ∈ s :: l, Rigid x := fun x hx => by
  rcases List.mem_cons.1 hx with rfl | hx
  · exact h
  · exact t x hx
def TmT (r : Nat → Nat) (hp hp' : HpT) (tm : List (Nat × SV)) : List (Nat × SV) → Prop
  | [] => True
  | (t, s') :: l => (∃ s, tm.lookup t = some s ∧ TnS r hp hp' s s') ∧ TmT r hp hp' tm l
theorem TmT.of {r : Nat → Nat} {hp hp' : HpT} {tm : List (Nat × SV)} : ∀ {tm' : List (Nat × SV)}, TmT r hp hp' tm tm' → ∀ t s', tm'.lookup t = some s' → ∃ s, tm.lookup t = some s ∧ TnS r hp hp' s s'
  | [], _, t, s', h => by simp at h
  | (k, x) :: l, ⟨h1, h2⟩, t, s', h => by
    simp only [List.lookup_cons] at h
    split at h
    · rename_i he
      have : t = k := by simpa using he
      subst this
      cases h
      exact h1
    · exact TmT.of h2 t s' h
theorem TmT.cons {r : Nat → Nat} {hp hp' : HpT} {tm : List (Nat × SV)} {t : Nat} {s s' : SV} {l : List (Nat × SV)} (h : tm.lookup t = some s) (h1 : TnS r hp hp' s s') (h2 : TmT r hp hp' tm l) : TmT r hp hp' tm ((t, s') :: l) := ⟨⟨s, h, h1⟩, h2⟩
def TmV (id sz : Nat) (tm : List (Nat × SV)) : List (Nat × SV) → Prop
  | [] => True
  | (t, s') :: l => (∃ s, tm.lookup t = some s ∧ VnS id sz s s') ∧ TmV id sz tm l
theorem TmV.of {id sz : Nat} {tm : List (Nat × SV)} : ∀ {tm' : List (Nat × SV)}, TmV id sz tm tm' → ∀ t s', tm'.lookup t = some s' → ∃ s, tm.lookup t = some s ∧ VnS id sz s s'
  | [], _, t, s', h => by simp at h
  | (k, x) :: l, ⟨h1, h2⟩, t, s', h => by
    simp only [List.lookup_cons] at h
    split at h
    · rename_i he
      have : t = k := by simpa using he
      subst this
      cases h
      exact h1
    · exact TmV.of h2 t s' h
theorem TmV.cons {id sz : Nat} {tm : List (Nat × SV)} {t : Nat} {s s' : SV} {l : List (Nat × SV)} (h : tm.lookup t = some s) (h1 : VnS id sz s s') (h2 : TmV id sz tm l) : TmV id sz tm ((t, s') :: l) := ⟨⟨s, h, h1⟩, h2⟩
theorem Imp.go {st : St} {tm' : List (Nat × SV)} {hp'' : HpT} {nx' nt nb : Nat} {df' : List Nat} (r : Nat → Nat) (hp' : HpT) (hnt : st.nt = nt) (hnb0 : st.nb = nb) (hsub : hp'.Sublist st.hp) (hnb : ∀ id, id < st.nb → r id = id) (hnx : ∀ id, nx' ≤ id → st.nx ≤ r id)
    (ht : TmT r st.hp hp' st.tm tm') (ho : F2 (fun p p' => p.1 = r p'.1 ∧ TnO r st.hp hp' p.2 p'.2) hp' hp'') (hd : df' = [] → st.df = []) : Imp st ⟨tm', hp'', nx', nt, df', nb⟩ := by
  subst hnt hnb0
  exact Imp.turn r hp' hsub hnb hnx ht.of ho hd
theorem Imp.goV {st : St} {tm' : List (Nat × SV)} {hp' : HpT} {nx' nt nb : Nat} {df : List Nat} (sz : Nat) (hnt : st.nt = nt) (hnb0 : st.nb = nb) (hdf : st.df = df) (hnx : nx' = st.nx + 1) (ht : TmV st.nx sz st.tm tm')
    (ho : F2 (fun p p' => p.1 = p'.1 ∧ VnO st.nx sz p.2 p'.2) st.hp hp') : Imp st ⟨tm', (st.nx, .arr sz []) :: hp', nx', nt, df, nb⟩ := by
  subst hnt hnb0 hdf hnx
  exact Imp.vac sz ht.of ho
theorem CallH.body {f : FuncId} {fn : Func} {c : Code} {args : List SV} {K : KT} (nt : Nat) (rvs : List ResultVar) (hf : P.funcs[f]? = some fn) (hok : okFn P f = true) (hb : fn.body = some c) (hnt : max args.length fn.ntmps = nt) (hrv : fn.results.toList = rvs)
    (h : Tr P G none c ⟨argTm 0 args, hp, nx, nt, [], nx⟩ fun x st => (x = .normal ∨ x = .ret) ∧ ∃ r, Res P rvs st r ∧ K r st.hp st.nx) : CallH P G f args hp nx K := by
  subst hnt hrv
  exact CallH.of_body hf hb hok h
theorem Imp.fin {st : St} {tm' : List (Nat × SV)} (ht : TmT (fun i => i) st.hp [] st.tm tm') : Imp st ⟨tm', [], st.nx, st.nt, st.df, st.nb⟩ :=
  Imp.turn (fun i => i) [] (List.nil_sublist _) (fun _ _ => rfl) (fun _ h => h) ht.of .nil id
theorem CallO.useZ {all : List Oper} {dst : Option Tmp} {f : FuncId} {args args' : List SV} {os : List Oper} {st : St} {K : St → Prop} {x : SV} (hp' : HpT) (h : CallP P G f args' x) (hsub : hp'.Sublist st.hp) (ha : F2 (TnS (fun i => i) st.hp hp') args args')
    (k : z8 P G all os ⟨putT dst x st.tm, hp', st.nx, st.nt, st.df, st.nb⟩ K) : CallO P G all dst f args os st K := h.useZ hp' hsub ha k
theorem CallO.useB {all : List Oper} {dst : Option Tmp} {f : FuncId} {args args' : List SV} {os : List Oper} {st : St} {K : St → Prop} {x : SV} (hp' : HpT) (h : CallP P G f args' x) (hsub : hp'.Sublist st.hp) (ha : F2 (TnS (fun i => i) st.hp hp') args args') (hx : Rigid x)
    (k : z8 P G all os ⟨putT dst x st.tm, st.hp, st.nx, st.nt, st.df, st.nb⟩ K) : CallO P G all dst f args os st K := h.useB hp' hsub ha hx k
end
end Go.Sy
namespace Go.Sy
section
variable {P : Program} {G : Nat → Option (List D)} {ro : Option Nat} {Q : Exit → St → Prop} {st : St}
theorem run_equalIn_nil {T T'' : TypeId} {w : World} (d : Nat) (a : Option Addr) (l c : Nat) (hT : P.underlying T = some (.slice T'')) : (Op.equalIn (d + 1) T (.slice a l c) (.slice none 0 0)).run P w = .ok a.isNone w := by
  cases a <;> simp [Op.equalIn, run_underlying hT]
theorem eqnil_run {T T'' : TypeId} {w : World} (a : Option Addr) (l c : Nat) (ox oy : Operand) (hT : P.underlying T = some (.slice T'')) :
    (do eqGuard .eql T ox oy (.slice a l c) (.slice none 0 0); binOp .eql T (.slice a l c) (.slice none 0 0) : Sem Value).run P w = .ok (.bool a.isNone) w := by
  have he : (Op.equal T (.slice a l c) (.slice none 0 0)).run P w = .ok a.isNone w := run_equalIn_nil 9999 a l c hT
  have hg : (eqGuard .eql T ox oy (.slice a l c) (.slice none 0 0)).run P w = .ok () w := rfl
  simp only [Sem.run_bind, hg, Result.andThen_ok]
  simp [binOp, he]
theorem Tr.nilTest {id x m e : Nat} {T T' T'' : TypeId} {es : List (List D)} {o1 o2 : Oper} (h1 : o1.op = .move (.tmp x)) (d1 : o1.dst = some m) (g1 : o1.guard = none)
    (h2 : o2.op = .binOp .eql T (.tmp m) (.const (.slice none 0 0)) T') (d2 : o2.dst = some e) (g2 : o2.guard = none) (hx : st.tm.lookup x = some (.d (.sl es))) (hT : P.underlying T = some (.slice T'')) (hm : m < st.nt) (he : e < st.nt)
    (k : ∀ b, (b = true → es = []) → Q .normal ⟨(e, .d (.lit (.bool b))) :: (m, .d (.sl es)) :: st.tm, st.hp, st.nx, st.nt, st.df, st.nb⟩) : Tr P G ro (.region id #[o1, o2] false) st Q := by
  intro O M pb pl a w hR
  refine wpIn_region ?_
  have hv := hR.tm x _ hx
  have hsl : ∃ p l c, a.tmps.getD x undef = .slice p l c ∧ (p.isNone = true → es = []) := by
    generalize a.tmps.getD x undef = v at hv
    cases hv with | d _ _ hd =>
    cases hd with
    | nil p c => exact ⟨p, _, c, rfl, fun _ => rfl⟩
    | sl sz es B off cap f hB hs hc hz hw hr => exact ⟨_, _, _, rfl, fun h => by cases h⟩
  obtain ⟨p, l, c, hval, hp⟩ := hsl
  rw [List.range_eq_range']
  show wpOpsIn (Fw ro) 0 P #[o1, o2] _ [0, 1] a w
  have w1 : Region.wanted o1 (yielded #[o1, o2] a.tmps) = true := by simp [Region.wanted, g1]
  simp only [wpOpsIn, List.getElem?_toArray, List.getElem?_cons_zero]
  rw [if_pos w1]
  refine RunOp.wpIn (K := fun v w' => v = .slice p l c ∧ w' = w) (fun c hc => by rw [h1] at hc; cases hc) (RunOp.value (v := .slice p l c) (by simp [execOp, h1, Act.eval, hval]) ⟨rfl, rfl⟩) ?_
  rintro v w1' ⟨rfl, hw1⟩
  subst hw1
  have hR1 := hR.put (dst := o1.dst) (r := .d (.sl es)) (v := .slice p l c) (by rw [d1]; exact hm) hR.hs (.refl _ _) (fun _ _ h => h) (by rw [← hval]; exact hv)
  have w2 : Region.wanted o2 (yielded #[o1, o2] (a.put o1.dst (.slice p l c)).tmps) = true := by simp [Region.wanted, g2]
  simp only [List.getElem?_cons_succ, List.getElem?_cons_zero]
  rw [if_pos w2]
  have hmv : (a.put o1.dst (.slice p l c)).eval (.tmp m) = .slice p l c := by
    simp only [d1, Act.put, Act.eval]
    have : m < a.tmps.size := by rw [hR.nt]; exact hm
    simp [Array.getD_eq_getD_getElem?, this]
  refine RunOp.wpIn (K := fun v w' => v = .bool p.isNone ∧ w' = w1') (fun c hc => by rw [h2] at hc; cases hc) (RunOp.value (v := .bool p.isNone) (by
    have := eqnil_run (w := w1') p l c (.tmp m) (.const (.slice none 0 0)) hT
    simp only [execOp, h2, Sem.run_bind] at this ⊢
    simp only [hmv]
    show Result.andThen (Result.andThen _ _) _ = _
    simp only [Act.eval]
    rw [this]; rfl) ⟨rfl, rfl⟩) ?_
  rintro v w2' ⟨rfl, hw2⟩
  subst hw2
  have hR2 := hR1.put (dst := o2.dst) (r := .d (.lit (.bool p.isNone))) (v := .bool p.isNone) (by rw [d2]; exact he) hR1.hs (.refl _ _) (fun _ _ h => h) (.d _ _ (.lit _ rfl))
  refine ⟨pl, _, k p.isNone hp, ?_, .refl _ _⟩
  rw [d1, d2] at hR2 ⊢
  exact hR2
end
end Go.Sy
