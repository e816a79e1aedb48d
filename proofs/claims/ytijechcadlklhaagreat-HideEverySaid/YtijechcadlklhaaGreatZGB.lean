/- Lemmas, part ZGB. Conditions: none. -/
import Derived.Test.YtijechcadlklhaaGreatZGA
import Derived.Laws.AppendOwn
import Derived.Great.BuildSlice
import Derived.Laws.MakeOwn
import Derived.Laws.Slices
set_option linter.unusedVariables false
namespace Go.Sy
section
variable {P : Program} {G : Nat → Option (List D)} {O : Nat → Prop} {pb pl pl' : Nat → Option Pl} {w w' : World} {hp hp' : HpT} {nx nx' : Nat} {ok ok' : Nat → Prop}
theorem heap_lt {b : Nat} {o : Go.Obj} (h : w.heap[b]? = some o) : b < w.heap.size := (Array.getElem?_eq_some_iff.1 h).1
theorem TmR.ext {tm : List (Nat × SV)} {tmps : Array Value} (e : Ext ok w ok' w') (hpl : ∀ id q, pl id = some q → pl' id = some q) (h : TmR pl ok w tm tmps) : TmR pl' ok' w' tm tmps :=
  fun t s hl => (h t s hl).ext e hpl
theorem ObjR.ext {q : Pl} {o : Obj} (e : Ext ok w ok' w') (hpl : ∀ id q, pl id = some q → pl' id = some q) (hb : q.tot ≠ 0 → q.blk < w.heap.size → w'.heap[q.blk]? = w.heap[q.blk]?)
    (h : ObjR pl ok w q o) : ObjR pl' ok' w' q o := by
  cases h with
  | vac h => exact .vac h
  | arr es c t hne h ht hn hz hr => exact .arr es c t hne ((hb hne (heap_lt h)).trans h) ht hn hz fun i hi j hj => (hr i hi j hj).ext e hpl
  | map es xs clock hne h hm => exact .map es xs clock hne ((hb hne (heap_lt h)).trans h) ⟨hm.1, hm.2.1, fun i hi => ⟨(hm.2.2 i hi).1, (hm.2.2 i hi).2.1, (hm.2.2 i hi).2.2.ext e hpl⟩⟩
  | iter es seen hne m hd h => exact .iter es seen hne m (hd.ext e) ((hb hne (heap_lt h)).trans h)
  | raw o hne h => exact .raw o hne ((hb hne (heap_lt h)).trans h)
  | loop fn tm nt params assign body state pending df hne tmps db h hs ht => exact .loop fn tm nt params assign body state pending df hne tmps db ((hb hne (heap_lt h)).trans h) hs (ht.ext e hpl)
theorem HS.change (hs : HS G O pb pl w hp nx) (hpl : ∀ id q, pl id = some q → pl' id = some q) (step : Step (ownOf pl hp) (ownOf pl' hp') w w')
    (hobj : ∀ p ∈ hp', ∃ q, pl' p.1 = some q ∧ (q.tot ≠ 0 → q.blk < w'.heap.size ∧ ¬ O q.blk) ∧ ObjR pl' (okOf O pl' hp') w' q p.2)
    (hap : hp'.Pairwise (fun p p' => p.1 ≠ p'.1 ∧ ∀ q q', pl' p.1 = some q → pl' p'.1 = some q' → q.tot ≠ 0 → q'.tot ≠ 0 → q.blk ≠ q'.blk))
    (hfr : ∀ id, nx' ≤ id → pl' id = none) : HS G O pb pl' w' hp' nx' where
  obj := hobj
  apart := hap
  fresh := hfr
  old B hB := Nat.lt_of_lt_of_le (hs.old B hB) step.size
  base id q h := hpl _ _ (hs.base id q h)
  glob g cs h := (hs.glob g cs h).ext step.ext hpl
structure Add (w w' : World) : Prop where
  size : w.heap.size ≤ w'.heap.size
  keep : ∀ B : Nat, B < w.heap.size → w'.heap[B]? = w.heap[B]?
  os : w'.os = w.os
  out : w'.output = w.output
theorem Add.alloc (w : World) (o : Go.Obj) : Add w (w.alloc o) := ⟨by simp, fun B hB => heap_alloc_old w o B hB, rfl, rfl⟩
theorem Add.refl (w : World) : Add w w := ⟨Nat.le_refl _, fun _ _ => rfl, rfl, rfl⟩
theorem Add.step {own : Nat → Prop} (h : Add w w') : Step own own w w' := ⟨h.size, fun B hB _ => h.keep B hB, h.os, h.out, fun _ h => .inl h⟩
theorem HS.obj_old (hs : HS G O pb pl w hp nx) (hpl : ∀ id q, pl id = some q → pl' id = some q) (step : Step (ownOf pl hp) (ownOf pl' hp') w w')
    {p : Nat × Obj} (hp0 : p ∈ hp) (hk : ∀ q, pl p.1 = some q → q.tot ≠ 0 → q.blk < w.heap.size → w'.heap[q.blk]? = w.heap[q.blk]?) :
    ∃ q, pl' p.1 = some q ∧ (q.tot ≠ 0 → q.blk < w'.heap.size ∧ ¬ O q.blk) ∧ ObjR pl' (okOf O pl' hp') w' q p.2 := by
  obtain ⟨q, hq, hl, ho⟩ := hs.obj p hp0
  exact ⟨q, hpl _ _ hq, fun ht => ⟨Nat.lt_of_lt_of_le (hl ht).1 step.size, (hl ht).2⟩, ho.ext step.ext hpl (hk q hq)⟩
theorem HS.add (hs : HS G O pb pl w hp nx) (ha : Add w w') : HS G O pb pl w' hp nx :=
  hs.change (fun _ _ h => h) ha.step (fun p h => hs.obj_old (fun _ _ h => h) ha.step h fun _ _ _ hlt => ha.keep _ hlt) hs.apart hs.fresh
theorem Add.ext (h : Add w w') : Ext ok w ok w' := ⟨fun _ _ h => h, fun B hB _ => h.keep B hB, h.size⟩
def plUp (pl : Nat → Option Pl) (nx : Nat) (q : Pl) (id : Nat) : Option Pl := if id = nx then some q else pl id
theorem HS.plUp_mono (hs : HS G O pb pl w hp nx) (q : Pl) : ∀ id q', pl id = some q' → plUp pl nx q id = some q' := by
  intro id q' h
  unfold plUp
  by_cases he : id = nx
  · subst he; rw [hs.fresh _ (Nat.le_refl _)] at h; cases h
  · rw [if_neg he]; exact h
theorem HS.id_lt (hs : HS G O pb pl w hp nx) {id : Nat} {q : Pl} (h : pl id = some q) : id < nx := by
  by_cases hlt : id < nx
  · exact hlt
  · rw [hs.fresh id (by omega)] at h; cases h
theorem HS.mem_lt (hs : HS G O pb pl w hp nx) {p : Nat × Obj} (h : p ∈ hp) : p.1 < nx := by
  obtain ⟨q, hq, _⟩ := hs.obj p h
  exact hs.id_lt hq
theorem plUp_self (pl : Nat → Option Pl) (nx : Nat) (q : Pl) : plUp pl nx q nx = some q := by simp [plUp]
theorem plUp_ne (pl : Nat → Option Pl) {nx id : Nat} (q : Pl) (h : id ≠ nx) : plUp pl nx q id = pl id := by simp [plUp, h]
theorem HS.own_new (hs : HS G O pb pl w hp nx) (q : Pl) (o : Obj) (B : Nat) : ownOf (plUp pl nx q) ((nx, o) :: hp) B → ownOf pl hp B ∨ (q.tot ≠ 0 ∧ q.blk = B) := by
  rintro ⟨p, hp0, q', hq', ht, rfl⟩
  rcases List.mem_cons.1 hp0 with rfl | hp1
  · rw [plUp_self] at hq'; cases hq'; exact .inr ⟨ht, rfl⟩
  · have := hs.mem_lt hp1
    rw [plUp_ne _ _ (by omega)] at hq'
    exact .inl ⟨p, hp1, q', hq', ht, rfl⟩
theorem HS.step_new (hs : HS G O pb pl w hp nx) (ha : Add w w') (q : Pl) (hq : q.tot ≠ 0 → q.blk = w.heap.size) (o : Obj) :
    Step (ownOf pl hp) (ownOf (plUp pl nx q) ((nx, o) :: hp)) w w' where
  size := ha.size
  keep B hB _ := ha.keep B hB
  os := ha.os
  out := ha.out
  own B hB := by
    rcases hs.own_new q o B hB with h | ⟨ht, rfl⟩
    · exact .inl h
    · exact .inr (by rw [hq ht]; exact Nat.le_refl _)
theorem HS.new (hs : HS G O pb pl w hp nx) (ha : Add w w') (q : Pl) (o : Obj) (hq : q.tot ≠ 0 → q.blk = w.heap.size) (hlt : q.tot ≠ 0 → q.blk < w'.heap.size)
    (hobj : ObjR (plUp pl nx q) (okOf O (plUp pl nx q) ((nx, o) :: hp)) w' q o) : HS G O pb (plUp pl nx q) w' ((nx, o) :: hp) (nx + 1) := by
  have hmono := hs.plUp_mono q
  have step := hs.step_new ha q hq o
  refine hs.change hmono step ?_ ?_ ?_
  · intro p hp0
    rcases List.mem_cons.1 hp0 with rfl | hp1
    · refine ⟨q, plUp_self _ _ _, fun ht => ⟨hlt ht, fun hO => ?_⟩, hobj⟩
      have := hs.old _ hO
      rw [hq ht] at this
      omega
    · exact hs.obj_old hmono step hp1 fun _ _ _ hlt => ha.keep _ hlt
  · refine List.Pairwise.cons ?_ ?_
    · intro p hp1
      have hne := hs.mem_lt hp1
      refine ⟨by simp only; omega, fun q₁ q₂ h1 h2 t1 t2 he => ?_⟩
      rw [plUp_self] at h1
      cases h1
      rw [plUp_ne _ _ (by omega)] at h2
      obtain ⟨q₃, h3, h4, _⟩ := hs.obj p hp1
      rw [h2] at h3
      cases h3
      have := (h4 t2).1
      rw [← he, hq t1] at this
      omega
    · refine hs.apart.imp_of_mem fun {p p'} h1 h2 h => ⟨h.1, fun q₁ q₂ g1 g2 => ?_⟩
      have l1 := hs.mem_lt h1
      have l2 := hs.mem_lt h2
      rw [plUp_ne _ _ (by omega)] at g1 g2
      exact h.2 q₁ q₂ g1 g2
  · intro id hid
    rw [plUp_ne _ _ (by omega)]
    exact hs.fresh id (by omega)
def upd : HpT → Nat → Obj → HpT
  | [], _, _ => []
  | (k, x) :: l, id, o => if k = id then (k, o) :: l else (k, x) :: upd l id o
def del : HpT → Nat → HpT
  | [], _ => []
  | (k, x) :: l, id => if k = id then l else (k, x) :: del l id
theorem mem_upd {id : Nat} {o : Obj} : ∀ {hp : HpT} {p : Nat × Obj}, p ∈ upd hp id o → p = (id, o) ∨ p ∈ hp
  | [], p, h => by simp [upd] at h
  | (k, x) :: l, p, h => by
    unfold upd at h
    by_cases hk : k = id
    · rw [if_pos hk] at h
      rcases List.mem_cons.1 h with rfl | h
      · subst hk; exact .inl rfl
      · exact .inr (List.mem_cons_of_mem _ h)
    · rw [if_neg hk] at h
      rcases List.mem_cons.1 h with rfl | h
      · exact .inr List.mem_cons_self
      · rcases mem_upd h with rfl | h
        · exact .inl rfl
        · exact .inr (List.mem_cons_of_mem _ h)
theorem upd_map_fst {id : Nat} {o : Obj} : ∀ (hp : HpT), (upd hp id o).map (·.1) = hp.map (·.1)
  | [] => rfl
  | (k, x) :: l => by
    unfold upd
    by_cases hk : k = id
    · rw [if_pos hk]; rfl
    · rw [if_neg hk]; simp [upd_map_fst l]
theorem ownOf_upd (pl : Nat → Option Pl) (hp : HpT) (id : Nat) (o : Obj) (B : Nat) : ownOf pl (upd hp id o) B ↔ ownOf pl hp B := by
  have key : ∀ (hp hp' : HpT), hp.map (·.1) = hp'.map (·.1) → ownOf pl hp B → ownOf pl hp' B := by
    rintro hp hp' he ⟨p, h1, q, h2, h3, h4⟩
    have : p.1 ∈ hp.map (·.1) := List.mem_map_of_mem h1
    rw [he] at this
    obtain ⟨p', h5, h6⟩ := List.mem_map.1 this
    exact ⟨p', h5, q, by rw [h6]; exact h2, h3, h4⟩
  exact ⟨key _ _ (upd_map_fst hp), key _ _ (upd_map_fst hp).symm⟩
theorem lookup_upd_mem {id : Nat} {o o' : Obj} (hp : HpT) (hd : hp.Pairwise (fun p p' => p.1 ≠ p'.1)) {p : Nat × Obj} (h : p ∈ upd hp id o) (hne : p ≠ (id, o)) : p ∈ hp ∧ p.1 ≠ id := by
  induction hp with
  | nil => simp [upd] at h
  | cons x l ih =>
    obtain ⟨k, x⟩ := x
    unfold upd at h
    cases hd with | cons hd1 hd2 =>
    by_cases hk : k = id
    · rw [if_pos hk] at h
      rcases List.mem_cons.1 h with rfl | h
      · subst hk; exact absurd rfl hne
      · exact ⟨List.mem_cons_of_mem _ h, fun he => hd1 p h (by simp only; rw [hk, he])⟩
    · rw [if_neg hk] at h
      rcases List.mem_cons.1 h with rfl | h
      · exact ⟨List.mem_cons_self, hk⟩
      · obtain ⟨h1, h2⟩ := ih hd2 h
        exact ⟨List.mem_cons_of_mem _ h1, h2⟩
def Apart (pl : Nat → Option Pl) (i j : Nat) : Prop := i ≠ j ∧ ∀ q q', pl i = some q → pl j = some q' → q.tot ≠ 0 → q'.tot ≠ 0 → q.blk ≠ q'.blk
theorem apart_fst {hp hp' : HpT} (he : hp.map (·.1) = hp'.map (·.1)) (h : hp.Pairwise (fun p p' => Apart pl p.1 p'.1)) : hp'.Pairwise (fun p p' => Apart pl p.1 p'.1) := by
  rw [← List.pairwise_map (f := Prod.fst)] at h ⊢
  rw [← he]; exact h
theorem Apart.symm {i j : Nat} (h : Apart pl i j) : Apart pl j i := ⟨h.1.symm, fun q q' h1 h2 t1 t2 => (h.2 q' q h2 h1 t2 t1).symm⟩
theorem apart_two : ∀ {hp : HpT}, hp.Pairwise (fun p p' => Apart pl p.1 p'.1) → ∀ {p p' : Nat × Obj}, p ∈ hp → p' ∈ hp → p.1 ≠ p'.1 → Apart pl p.1 p'.1
  | [], _, _, _, h, _, _ => by simp at h
  | x :: l, hap, p, p', h, h', hne => by
    cases hap with | cons h1 h2 =>
    rcases List.mem_cons.1 h with e | g
    · rcases List.mem_cons.1 h' with e' | g'
      · exact absurd (by rw [e, e']) hne
      · subst e; exact h1 _ g'
    · rcases List.mem_cons.1 h' with e' | g'
      · subst e'; exact (h1 _ g).symm
      · exact apart_two h2 g g' hne
theorem HS.two (hs : HS G O pb pl w hp nx) {p p' : Nat × Obj} (h : p ∈ hp) (h' : p' ∈ hp) (hne : p.1 ≠ p'.1) : Apart pl p.1 p'.1 := apart_two hs.apart h h' hne
theorem HS.write (hs : HS G O pb pl w hp nx) {id : Nat} {o : Obj} {q : Pl} (hmem : ∃ o₀, (id, o₀) ∈ hp) (hq : pl id = some q) (ht : q.tot ≠ 0)
    (hsz : w'.heap.size = w.heap.size) (hkeep : ∀ B : Nat, B ≠ q.blk → w'.heap[B]? = w.heap[B]?) (hos : w'.os = w.os) (hout : w'.output = w.output)
    (hobj : Ext (okOf O pl hp) w (okOf O pl (upd hp id o)) w' → ObjR pl (okOf O pl (upd hp id o)) w' q o) :
    HS G O pb pl w' (upd hp id o) nx ∧ Step (ownOf pl hp) (ownOf pl (upd hp id o)) w w' := by
  obtain ⟨o₀, hmem⟩ := hmem
  have hown : ownOf pl hp q.blk := ⟨_, hmem, q, hq, ht, rfl⟩
  have step : Step (ownOf pl hp) (ownOf pl (upd hp id o)) w w' := by
    refine ⟨by omega, fun B _ hB => hkeep B (fun he => hB (he ▸ hown)), hos, hout, fun B hB => .inl ((ownOf_upd _ _ _ _ _).1 hB)⟩
  refine ⟨hs.change (fun _ _ h => h) step ?_ ?_ hs.fresh, step⟩
  · intro p hp0
    by_cases he : p = (id, o)
    · subst he
      obtain ⟨q', hq', hl, _⟩ := hs.obj _ hmem
      simp only at hq'
      rw [hq] at hq'
      cases hq'
      exact ⟨q, hq, fun ht => ⟨by rw [hsz]; exact (hl ht).1, (hl ht).2⟩, hobj step.ext⟩
    · obtain ⟨h1, h2⟩ := lookup_upd_mem (o' := o) hp (hs.apart.imp fun h => h.1) hp0 he
      refine hs.obj_old (fun _ _ h => h) step h1 fun q' hq' ht' hlt => hkeep _ ?_
      exact (hs.two h1 hmem h2).2 q' q hq' hq ht' ht
  · exact apart_fst (upd_map_fst hp).symm hs.apart
end
end Go.Sy
namespace Go.Sy
def SV.one : SV → Bool
  | .unk | .agg _ | .tup _ | .whn _ _ => false
  | _ => true
def svCells : SV → List SV
  | .agg cs => cs
  | s => [s]
def svOk : SV → Bool
  | .agg _ => true
  | s => s.one
def putAt (l : List SV) (j : Nat) (c : List SV) : List SV :=
  match c with
  | [x] => l.set j x
  | c => l.take j ++ c ++ l.drop (j + c.length)
theorem putAt_length {l : List SV} {j : Nat} {c : List SV} (h : j + c.length ≤ l.length) : (putAt l j c).length = l.length := by
  unfold putAt
  split
  · simp
  · simp; omega
theorem putAt_get? {l : List SV} {j : Nat} {c : List SV} (h : j + c.length ≤ l.length) (k : Nat) :
    (putAt l j c)[k]? = if j ≤ k ∧ k < j + c.length then c[k - j]? else l[k]? := by
  unfold putAt
  split
  · rename_i x
    simp only [List.getElem?_set, List.length_cons, List.length_nil]
    by_cases hk : j = k
    · subst hk
      have : j < l.length := by simp at h; omega
      simp [this]
    · rw [if_neg hk, if_neg (by omega)]
  · by_cases h1 : k < j
    · rw [if_neg (by omega), List.append_assoc, List.getElem?_append_left (by simp; omega)]
      simp [h1]
    · by_cases h2 : k < j + c.length
      · rw [if_pos ⟨by omega, h2⟩, List.append_assoc, List.getElem?_append_right (by simp; omega), List.getElem?_append_left (by simp; omega)]
        congr 1
        simp
        omega
      · rw [if_neg (by omega), List.append_assoc, List.getElem?_append_right (by simp; omega), List.getElem?_append_right (by simp; omega)]
        simp only [List.getElem?_drop, List.length_take]
        congr 1
        omega
theorem putAt_get {l : List SV} {j : Nat} {c : List SV} (h : j + c.length ≤ l.length) (k : Nat) (hk : k < (putAt l j c).length) :
    (j ≤ k ∧ ∃ h1 : k - j < c.length, (putAt l j c)[k] = c[k - j]) ∨ (¬ (j ≤ k ∧ k < j + c.length) ∧ ∃ h1 : k < l.length, (putAt l j c)[k] = l[k]) := by
  have hl : k < l.length := by rw [putAt_length h] at hk; exact hk
  have e := putAt_get? h k
  rw [List.getElem?_eq_getElem hk] at e
  by_cases hin : j ≤ k ∧ k < j + c.length
  · rw [if_pos hin, List.getElem?_eq_getElem (by omega)] at e
    exact .inl ⟨hin.1, by omega, Option.some.inj e⟩
  · rw [if_neg hin, List.getElem?_eq_getElem hl] at e
    exact .inr ⟨hin, hl, Option.some.inj e⟩
section
variable {P : Program} {G : Nat → Option (List D)} {O : Nat → Prop} {pb pl pl' : Nat → Option Pl} {w w' : World} {hp hp' : HpT} {nx nx' : Nat} {ok ok' : Nat → Prop}
theorem SR.oneCell {s : SV} {v : Value} (h : SR pl ok w s v) (h1 : s.one = true) : v.oneCell' = true := by
  cases h with
  | d x v h => cases h with
    | lit _ h => exact h
    | _ => rfl
  | unk => cases h1
  | agg => cases h1
  | tup => cases h1
  | whn => cases h1
  | _ => rfl
theorem SR.cells {s : SV} {v : Value} (h : SR pl ok w s v) (hk : svOk s = true) :
    v.cells.size = (svCells s).length ∧ (∀ i (hi : i < (svCells s).length), SR pl ok w ((svCells s)[i]) (v.cells.getD i undef)) := by
  by_cases ha : ∃ cs, s = .agg cs
  · obtain ⟨cs, rfl⟩ := ha
    cases h with | agg _ vs hl hr => exact ⟨hl, hr⟩
  · have h1 : s.one = true := by
      cases s <;> first | exact hk | exact absurd ⟨_, rfl⟩ ha
    have hc : svCells s = [s] := by cases s <;> first | rfl | exact absurd ⟨_, rfl⟩ ha
    have hv : v.cells = #[v] := by
      have := h.oneCell h1
      cases v <;> first | rfl | cases this
    rw [hc, hv]
    refine ⟨rfl, fun i hi => ?_⟩
    have : i = 0 := by simp at hi; omega
    subst this
    simpa using h
theorem HS.newArr (hs : HS G O pb pl w hp nx) {w0 : World} (h0 : w0.heap = w.heap) (ho : w0.os = w.os) (hu : w0.output = w.output) (c : Array Value) (e : TypeId) (sz : Nat) (es : List (List SV))
    (hne : c.size ≠ 0) (hn : es.length * sz ≤ c.size) (hz : ∀ i (h : i < es.length), (es[i]).length = sz)
    (hr : ∀ i (h : i < es.length) j (hj : j < (es[i]).length), SR pl (okOf O pl hp) w ((es[i])[j]) (c.getD (i * sz + j) undef)) :
    HS G O pb (plUp pl nx ⟨w.heap.size, sz, c.size⟩) (w0.alloc (.cells c e)) ((nx, .arr sz es) :: hp) (nx + 1) ∧
    Step (ownOf pl hp) (ownOf (plUp pl nx ⟨w.heap.size, sz, c.size⟩) ((nx, .arr sz es) :: hp)) w (w0.alloc (.cells c e)) ∧
    (∀ id q, pl id = some q → plUp pl nx ⟨w.heap.size, sz, c.size⟩ id = some q) := by
  have ha : Add w (w0.alloc (.cells c e)) := by
    refine ⟨by simp [h0], fun B hB => ?_, ho, hu⟩
    rw [heap_alloc_old w0 _ B (by rw [h0]; exact hB), h0]
  have step := hs.step_new ha ⟨w.heap.size, sz, c.size⟩ (fun _ => rfl) (.arr sz es)
  refine ⟨hs.new ha ⟨w.heap.size, sz, c.size⟩ (.arr sz es) (fun _ => rfl) (fun _ => by simp [h0]) ?_, step, hs.plUp_mono _⟩
  refine .arr es c e hne ?_ rfl hn hz fun i hi j hj => (hr i hi j hj).ext step.ext (hs.plUp_mono _)
  have := heap_alloc_new w0 (.cells c e)
  rw [h0] at this
  exact this
theorem HS.newBox (hs : HS G O pb pl w hp nx) (c : Array Value) (e : TypeId) (cs : List SV) (hne : cs.length ≠ 0) (hl : c.size = cs.length)
    (hr : ∀ j (hj : j < cs.length), SR pl (okOf O pl hp) w (cs[j]) (c.getD j undef)) (K : KT) (hK : K (.ptr nx 0 0) ((nx, .arr cs.length [cs]) :: hp) (nx + 1)) :
    Fin G O pb pl w hp K (.pointer (some ⟨w.heap.size, 0, none⟩)) (w.alloc (.cells c e)) := by
  have hz : ∀ i (h : i < [cs].length), ([cs][i]).length = cs.length := by
    intro i hi
    simp
  have hrr : ∀ i (h : i < [cs].length) j (hj : j < ([cs][i]).length), SR pl (okOf O pl hp) w (([cs][i])[j]) (c.getD (i * cs.length + j) undef) := by
    intro i hi j hj
    have : i = 0 := by simp at hi; omega
    subst this
    simpa using hr j (by simpa using hj)
  obtain ⟨h1, h2, h3⟩ := hs.newArr rfl rfl rfl c e cs.length [cs] (by omega) (by simp; omega) hz hrr
  refine ⟨_, _, _, _, hK, h1, ?_, h2, h3⟩
  have := SR.ptr (ok := okOf O (plUp pl nx ⟨w.heap.size, cs.length, c.size⟩) ((nx, Obj.arr cs.length [cs]) :: hp)) (w := w.alloc (.cells c e)) nx 0 0 _ (plUp_self pl nx ⟨w.heap.size, cs.length, c.size⟩)
  simpa using this
def zM (v : SV) (hp : HpT) (nx : Nat) (K : KT) : Prop :=
  svOk v = true ∧ (svCells v).length ≠ 0 ∧ K (.ptr nx 0 0) ((nx, .arr (svCells v).length [svCells v]) :: hp) (nx + 1)
theorem run_exBox {v : SV} {vv : Value} {K : KT} {t : TypeId} (hs : HS G O pb pl w hp nx) (hv : SR pl (okOf O pl hp) w v vv) (h : zM v hp nx K) :
    ∃ u w', (Instr.box t vv).run P w = .ok u w' ∧ Fin G O pb pl w hp K u w' := by
  obtain ⟨hok, hne, hK⟩ := h
  obtain ⟨hl, hc⟩ := hv.cells hok
  exact ⟨_, _, by simp [Instr.box, newVar, newRow], hs.newBox vv.cells t (svCells v) hne hl hc K hK⟩
def tzero (P : Program) (t : TypeId) : Option (List SV) := ((P.info? t).bind (·.zero)).map fun z => z.cells.toList.map svCell
theorem tzero_some {t : TypeId} {cs : List SV} (h : tzero P t = some cs) : ∃ i z, P.info? t = some i ∧ i.zero = some z ∧ cs = z.cells.toList.map svCell := by
  simp only [tzero, Option.map_eq_some_iff, Option.bind_eq_some_iff] at h
  obtain ⟨z, ⟨i, hi, hz⟩, rfl⟩ := h
  exact ⟨i, z, hi, hz, rfl⟩
theorem zeroCells_rel (z : Value) (i : Nat) (hi : i < (z.cells.toList.map svCell).length) : SR pl ok w ((z.cells.toList.map svCell)[i]) (z.cells.getD i undef) := by
  simp only [List.getElem_map, Array.getElem_toList]
  have hi' : i < z.cells.size := by simpa using hi
  simp only [Array.getD_eq_getD_getElem?, Array.getElem?_eq_getElem hi', Option.getD_some]
  exact svOf_cell _
def zN (P : Program) (t : TypeId) (hp : HpT) (nx : Nat) (K : KT) : Prop :=
  match tzero P t with
  | some cs => cs.length ≠ 0 ∧ K (.ptr nx 0 0) ((nx, .arr cs.length [cs]) :: hp) (nx + 1)
  | none => False
theorem run_exAlloc {K : KT} {t : TypeId} (hs : HS G O pb pl w hp nx) (h : zN P t hp nx K) :
    ∃ u w', (Instr.alloc t true (.tuple #[])).run P w = .ok u w' ∧ Fin G O pb pl w hp K u w' := by
  unfold zN at h
  split at h
  · rename_i cs hzz
    obtain ⟨i, z, hi, hz, rfl⟩ := tzero_some hzz
    obtain ⟨hne, hK⟩ := h
    exact ⟨_, _, by simp [Instr.alloc, zeroValue, run_typeInfo w hi, hz, newVar, newRow], hs.newBox z.cells t _ hne (by simp) (fun j hj => zeroCells_rel z j hj) K hK⟩
  · exact h.elim
def yC (P : Program) (t : TypeId) (x v : SV) (hp : HpT) (K : HpT → Prop) : Prop :=
  match x with
  | .ptr id i j => match hp.lookup id with
    | some (.arr sz es) => tsz P t = some (svCells v).length ∧ (svCells v).all SV.one = true ∧ svOk v = true ∧ i < es.length ∧ j + (svCells v).length ≤ (es.getD i []).length ∧
        K (upd hp id (.arr sz (es.set i (putAt (es.getD i []) j (svCells v)))))
    | _ => False
  | _ => False
theorem splice_getD (cur : Array Value) (o : Nat) (vs : List Value) (h : o + vs.length ≤ cur.size) (k : Nat) :
    ((cur.toList.take o ++ vs ++ cur.toList.drop (o + vs.length)).toArray).getD k undef = if o ≤ k ∧ k < o + vs.length then vs.getD (k - o) undef else cur.getD k undef := by
  simp only [Array.getD_eq_getD_getElem?, List.getElem?_toArray, List.append_assoc, List.getD_eq_getElem?_getD]
  by_cases h1 : k < o
  · rw [if_neg (by omega), List.getElem?_append_left (by simp; omega)]
    simp [h1]
  · by_cases h2 : k < o + vs.length
    · rw [if_pos ⟨by omega, h2⟩, List.getElem?_append_right (by simp; omega), List.getElem?_append_left (by simp; omega)]
      congr 2
      simp
      omega
    · rw [if_neg (by omega), List.getElem?_append_right (by simp; omega), List.getElem?_append_right (by simp; omega)]
      simp only [List.length_take, List.getElem?_drop, Array.getElem?_toList]
      congr 2
      simp
      omega
theorem run_exStore {t : TypeId} {x v : SV} {vx vv : Value} {K : HpT → Prop} (hs : HS G O pb pl w hp nx) (hx : SR pl (okOf O pl hp) w x vx) (hv : SR pl (okOf O pl hp) w v vv) (h : yC P t x v hp K) :
    ∃ w' hp', (Instr.storeAt t vx vv).run P w = .ok () w' ∧ K hp' ∧ HS G O pb pl w' hp' nx ∧ Step (ownOf pl hp) (ownOf pl hp') w w' := by
  unfold yC at h
  split at h
  · rename_i id i j
    cases hx with | ptr _ _ _ q hq =>
    split at h
    · rename_i sz es hl
      obtain ⟨htz, hone, hok, hi, hj, hK⟩ := h
      have he : es.getD i [] = es[i] := by simp [List.getD, hi]
      rw [he] at hj hK
      obtain ⟨hvl, hvc⟩ := hv.cells hok
      obtain ⟨q', hq', hlt, ho⟩ := hs.obj _ (lookup_mem hl)
      simp only at hq' ho
      rw [hq] at hq'
      cases hq'
      cases ho with
      | vac h => simp at hi
      | arr _ c e hne hc ht hn hz hr =>
      have hesz : (es[i]).length = q.sz := hz i hi
      have hle : (i + 1) * q.sz ≤ q.tot := Nat.le_trans (Nat.mul_le_mul_right _ hi) hn
      have hle' : i * q.sz + j + vv.cells.size ≤ c.size := by rw [Nat.add_mul] at hle; omega
      have hones : ∀ u ∈ vv.cells.toList, u.oneCell' = true := by
        intro u hu
        obtain ⟨k, hk, rfl⟩ := List.getElem_of_mem hu
        have hk' : k < (svCells v).length := by rw [← hvl]; simpa using hk
        have h1 := hvc k hk'
        have h2 := List.all_eq_true.1 hone _ (List.getElem_mem hk')
        have := h1.oneCell h2
        simpa [Array.getD_eq_getD_getElem?, show k < vv.cells.size by omega] using this
      have hrun := run_storeCells_at P q.blk (i * q.sz + j) e vv.cells.toList 0 c w hc (by simp; omega) hones
      have hrow := setRow_heap w q.blk c (c.toList.take (i * q.sz + j + 0) ++ vv.cells.toList ++ c.toList.drop (i * q.sz + j + 0 + vv.cells.toList.length)).toArray e (0, 0) hc
      obtain ⟨h1, h2⟩ := hs.write (o := .arr q.sz (es.set i (putAt es[i] j (svCells v)))) ⟨_, lookup_mem hl⟩ hq hne
        (w' := w.setRow q.blk (c.toList.take (i * q.sz + j + 0) ++ vv.cells.toList ++ c.toList.drop (i * q.sz + j + 0 + vv.cells.toList.length)).toArray) (by simp) (fun B hB => setRow_other w q.blk B _ hB) rfl rfl (by
          intro ext
          refine .arr _ _ e hne hrow (by simp; omega) (by simpa using hn) ?_ ?_
          · intro i' hi'
            simp only [List.length_set] at hi'
            by_cases hii : i = i'
            · subst hii
              simp [putAt_length hj, hesz]
            · rw [List.getElem_set_ne hii]; exact hz i' hi'
          · intro i' hi' j' hj'
            simp only [List.length_set] at hi'
            simp only [Nat.add_zero]
            rw [splice_getD c (i * q.sz + j) vv.cells.toList (by simpa using hle') (i' * q.sz + j')]
            by_cases hii : i = i'
            · subst hii
              simp only [List.getElem_set_self] at hj' ⊢
              rcases putAt_get hj j' hj' with ⟨g1, g2, g3⟩ | ⟨g1, g2, g3⟩
              · rw [g3, if_pos ⟨by omega, by simp; omega⟩]
                have := (hvc (j' - j) g2).ext ext (fun _ _ h => h)
                have e2 : i * q.sz + j' - (i * q.sz + j) = j' - j := by omega
                rw [e2]
                simpa [List.getD_eq_getElem?_getD, Array.getD_eq_getD_getElem?] using this
              · rw [g3, if_neg (by simp; omega)]
                exact (hr i hi j' g2).ext ext (fun _ _ h => h)
            · rw [List.getElem_set_ne hii] at hj'
              have hzi := hz i' hi'
              have : ¬ (i * q.sz + j ≤ i' * q.sz + j' ∧ i' * q.sz + j' < i * q.sz + j + vv.cells.toList.length) := by
                have hvl' : vv.cells.toList.length = (svCells v).length := by simpa using hvl
                rw [hvl']
                rcases Nat.lt_or_gt_of_ne hii with hlt' | hgt
                · have := Nat.mul_le_mul_right q.sz (show i + 1 ≤ i' from hlt')
                  rw [Nat.add_mul] at this
                  omega
                · have := Nat.mul_le_mul_right q.sz (show i' + 1 ≤ i from hgt)
                  rw [Nat.add_mul] at this
                  omega
              rw [if_neg this]
              simp only [List.getElem_set_ne hii]
              exact (hr i' hi' j' hj').ext ext (fun _ _ h => h))
      refine ⟨_, _, ?_, hK, h1, h2⟩
      have hst : (storeVar t ⟨q.blk, i * q.sz + j, none⟩ vv).run P w = .ok () (w.setRow q.blk (c.toList.take (i * q.sz + j + 0) ++ vv.cells.toList ++ c.toList.drop (i * q.sz + j + 0 + vv.cells.toList.length)).toArray) := by
        simp only [storeVar, Sem.run_bind, run_tsz htz, Result.andThen_ok, hvl, ne_eq, not_true_eq_false, if_false, hrun]
      simpa [Instr.storeAt, Instr.sureAddr] using hst
    · exact h.elim
  · exact h.elim
end
end Go.Sy
namespace Go.Sy
def toD : SV → Option D
  | .d x => some x
  | .dx es => some (.sl es)
  | _ => none
def allD : List SV → Option (List D)
  | [] => some []
  | s :: l => match toD s, allD l with
    | some x, some r => some (x :: r)
    | _, _ => none
def allDD : List (List SV) → Option (List (List D))
  | [] => some []
  | s :: l => match allD s, allDD l with
    | some x, some r => some (x :: r)
    | _, _ => none
def tby (P : Program) (t : TypeId) : Option Nat := match P.underlying t with | some (.slice e) => (P.info? e).bind fun i => i.zero.map fun _ => i.bytes | _ => none
def tez (P : Program) (t : TypeId) : Option (List SV) := match P.underlying t with | some (.slice e) => tzero P e | _ => none
section
variable {P : Program} {G : Nat → Option (List D)} {O : Nat → Prop} {pb pl pl' : Nat → Option Pl} {w w' : World} {hp hp' : HpT} {nx nx' : Nat} {ok ok' : Nat → Prop}
theorem toD_sound {s : SV} {x : D} {v : Value} (h : toD s = some x) (hr : SR pl ok w s v) : DR ok w x v := by
  cases s <;> simp only [toD] at h <;> first | cases h | skip
  · cases hr with | d _ _ h => exact h
  · cases hr with | dx _ a h => exact h
theorem allD_some : ∀ {l : List SV} {ds : List D}, allD l = some ds → ds.length = l.length ∧ ∀ i (h : i < l.length) (h' : i < ds.length), toD l[i] = some ds[i]
  | [], ds, h => by simp [allD] at h; subst h; exact ⟨rfl, fun i hi => absurd hi (by simp)⟩
  | s :: l, ds, h => by
    unfold allD at h
    split at h
    · rename_i x r hx hr
      cases h
      obtain ⟨h1, h2⟩ := allD_some hr
      refine ⟨by simp [h1], fun i hi hi' => ?_⟩
      cases i with
      | zero => exact hx
      | succ i => exact h2 i (by simpa using hi) (by simpa using hi')
    · cases h
theorem allDD_some : ∀ {l : List (List SV)} {ds : List (List D)}, allDD l = some ds → ds.length = l.length ∧ ∀ i (h : i < l.length) (h' : i < ds.length), allD l[i] = some ds[i]
  | [], ds, h => by simp [allDD] at h; subst h; exact ⟨rfl, fun i hi => absurd hi (by simp)⟩
  | s :: l, ds, h => by
    unfold allDD at h
    split at h
    · rename_i x r hx hr
      cases h
      obtain ⟨h1, h2⟩ := allDD_some hr
      refine ⟨by simp [h1], fun i hi hi' => ?_⟩
      cases i with
      | zero => exact hx
      | succ i => exact h2 i (by simpa using hi) (by simpa using hi')
    · cases h
theorem HS.newData (hs : HS G O pb pl w hp nx) (c : Array Value) (e : TypeId) (sz : Nat) (es : List (List D)) (cap : Nat) (hcap : es.length ≤ cap)
    (hz : ∀ i (h : i < es.length), (es[i]).length = sz) (hn : es.length * sz ≤ c.size)
    (hr : ∀ i (h : i < es.length) j (hj : j < (es[i]).length), DR (okOf O pl hp) w ((es[i])[j]) (c.getD (i * sz + j) undef)) :
    HS G O pb pl (w.alloc (.cells c e)) hp nx ∧ Step (ownOf pl hp) (ownOf pl hp) w (w.alloc (.cells c e)) ∧
    DR (okOf O pl hp) (w.alloc (.cells c e)) (.sl es) (.slice (some ⟨w.heap.size, 0, none⟩) es.length cap) := by
  have ha := Add.alloc w (.cells c e)
  have hs' := hs.add ha
  refine ⟨hs', ha.step, ?_⟩
  refine .sl sz es w.heap.size 0 cap (fun i j => c.getD (i * sz + j) undef) ⟨fun hO => absurd (hs.old _ hO) (by omega), ?_⟩ (by simp) hcap hz ?_ ?_
  · rintro ⟨p, h1, q, h2, h3, h4⟩
    obtain ⟨q', g1, g2, _⟩ := hs.obj p h1
    rw [h2] at g1
    cases g1
    have := (g2 h3).1
    omega
  · intro i hi j hj
    have hj' := hz i hi
    have hle := Nat.mul_le_mul_right sz (show i + 1 ≤ es.length from hi)
    rw [Nat.add_mul] at hle
    have : i * sz + j < c.size := by omega
    have hh := heap_alloc_new w (.cells c e)
    simp only [World.cell?, hh]
    simp [Array.getD_eq_getD_getElem?, this]
  · intro i hi j hj
    exact (hr i hi j hj).ext ha.ext
theorem parts_zip {α : Type} (l : List (Nat × α)) (n : Nat) (h : l.map (·.1) = List.range n) : l = ((l.map (·.2)).zipIdx 0).map fun x => (x.2, x.1) := by
  apply List.ext_getElem?
  intro i
  simp only [List.getElem?_map, List.getElem?_zipIdx]
  cases hi : l[i]? with
  | none => simp
  | some p =>
    have h1 : (l.map (·.1))[i]? = some p.1 := by simp [hi]
    rw [h] at h1
    have hlt : i < n := by
      have := (List.getElem?_eq_some_iff.1 h1).1
      simpa using this
    rw [List.getElem?_range hlt] at h1
    have e : i = p.1 := Option.some.inj h1
    simp [e]
def zG (P : Program) (t : TypeId) (len : Nat) (parts : List (Nat × SV)) (hp : HpT) (nx : Nat) (K : KT) : Prop :=
  match telem P t with
  | some sz => sz ≠ 0 ∧ (tby P t).isSome ∧ parts.map (·.1) = List.range len ∧ (parts.all fun p => svOk p.2 && ((svCells p.2).length == sz)) = true ∧ len * sz ≤ 16777216 ∧
    (match len with
     | 0 => K (.dx []) hp nx
     | _ => match allDD (parts.map fun p => svCells p.2) with
       | some ds => K (.dx ds) hp nx
       | none => K (.slc nx sz 0 len len) ((nx, .arr sz (parts.map fun p => svCells p.2)) :: hp) (nx + 1))
  | none => False
theorem tby_some {t : TypeId} {b : Nat} (h : tby P t = some b) : ∃ e i z, P.underlying t = some (.slice e) ∧ P.info? e = some i ∧ i.zero = some z ∧ i.bytes = b := by
  unfold tby at h
  split at h
  · rename_i e he
    simp only [Option.bind_eq_some_iff, Option.map_eq_some_iff] at h
    obtain ⟨i, hi, z, hz, rfl⟩ := h
    exact ⟨e, i, z, he, hi, hz, rfl⟩
  · cases h
theorem run_exBuildSlice {t : TypeId} {len : Nat} {parts : List (Nat × SV)} {vparts : Array (Nat × Value)} {K : KT} (hs : HS G O pb pl w hp nx)
    (hl : vparts.size = parts.length) (hf : vparts.toList.map (·.1) = parts.map (·.1))
    (hr : ∀ i (h : i < parts.length), SR pl (okOf O pl hp) w (parts[i]).2 ((vparts.getD i (0, undef)).2)) (h : zG P t len parts hp nx K) :
    ∃ u w', (Instr.buildSlice t len vparts).run P w = .ok u w' ∧ Fin G O pb pl w hp K u w' := by
  unfold zG at h
  split at h
  · rename_i sz htl
    obtain ⟨hsz, hby, hidx, hall, hsmall, h⟩ := h
    obtain ⟨b, hb⟩ := Option.isSome_iff_exists.1 hby
    obtain ⟨e, ie, z, hu, hi, hz, hbb⟩ := tby_some hb
    obtain ⟨e', hu', htsz⟩ := telem_some htl
    rw [hu] at hu'
    cases hu'
    have hisz : ie.size = sz := by simpa [tsz, hi] using htsz
    have hlen : parts.length = len := by simpa using congrArg List.length hidx
    have hpt : ∀ i (h : i < parts.length), svOk (parts[i]).2 = true ∧ (svCells (parts[i]).2).length = sz := by
      intro i hi
      have := List.all_eq_true.1 hall _ (List.getElem_mem hi)
      simpa using this
    match len, h with
    | 0, h =>
      refine ⟨.slice (some ⟨w.heap.size, 0, none⟩) 0 0, w.alloc (.cells #[] e), ?_, pl, _, _, _, h, hs.add (Add.alloc _ _), .dx [] _ (.nil _ _), (Add.alloc _ _).step, fun _ _ h => h⟩
      have : vparts = #[] := by
        apply Array.eq_empty_of_size_eq_zero
        omega
      subst this
      simp [Instr.buildSlice, run_underlying hu, run_tsz htsz, newRow, Instr.fill, Array.range_zero']
    | n + 1, h =>
      have hvs : ∀ v ∈ vparts.toList.map (·.2), v.cells.size = sz := by
        intro v hv
        obtain ⟨k, hk, rfl⟩ := List.getElem_of_mem hv
        have hk' : k < parts.length := by simp at hk; omega
        have hk'' : k < vparts.size := by omega
        have h1 := (hr k hk').cells (hpt k hk').1
        have h2 := (hpt k hk').2
        simp only [Array.getD_eq_getD_getElem?, Array.getElem?_eq_getElem hk'', Option.getD_some] at h1
        simp only [List.getElem_map, Array.getElem_toList]
        omega
      have hzip := parts_zip vparts.toList (n + 1) (by rw [hf, hidx])
      have hmade : ((Array.range ((n + 1) * ie.size)).map (z.cells[· % z.cells.size]!)).size = (n + 1) * sz := by simp [hisz]
      have hfill := Great.fill_whole (s := sz) (by omega) (vparts.toList.map (·.2)) ((Array.range ((n + 1) * ie.size)).map (z.cells[· % z.cells.size]!)) hvs (by rw [hmade]; simp; rw [hl, hlen])
      rw [← hzip] at hfill
      have hrun := run_buildSlice (P := P) w t e (n + 1) vparts _ ie z hu hi hz (by rw [hisz]; omega) (by rw [hisz]; exact Nat.mul_ne_zero (by omega) hsz) (by rw [hisz] at hfill ⊢; exact hfill)
      generalize hcs : ((vparts.toList.map (·.2)).flatMap fun v => v.cells.toList).toArray = c at hrun
      have hget : ∀ i (h : i < parts.length) j, j < sz → c.getD (i * sz + j) undef = ((vparts.getD i (0, undef)).2).cells.getD j undef ∧ i * sz + j < c.size := by
        intro i hi j hj
        have e1 : c[i * sz + j]? = some (((vparts.getD i (0, undef)).2).cells.getD j undef) := by
          rw [← hcs, List.getElem?_toArray, Great.flat_get (s := sz) (by omega) _ hvs]
          have hd : (i * sz + j) / sz = i := by rw [Nat.mul_comm, Nat.mul_add_div (by omega), Nat.div_eq_of_lt hj]; omega
          have hm : (i * sz + j) % sz = j := by rw [Nat.mul_comm, Nat.mul_add_mod, Nat.mod_eq_of_lt hj]
          rw [hd, hm]
          have hiv : i < vparts.size := by omega
          have hsz' := hvs (vparts[i]).2 (List.mem_map.2 ⟨vparts[i], by simp, rfl⟩)
          simp only [List.getElem?_map, Array.getElem?_toList, Array.getElem?_eq_getElem hiv, Option.map_some, Option.bind_some, Array.getD_eq_getD_getElem?, Option.getD_some]
          rw [Array.getElem?_eq_getElem (by omega)]
          rfl
        refine ⟨by rw [Array.getD_eq_getD_getElem?, e1]; rfl, (Array.getElem?_eq_some_iff.1 e1).1⟩
      have hcsz : c.size = (n + 1) * sz := by
        have hfl : ∀ (l : List Value), (∀ v ∈ l, v.cells.size = sz) → (l.flatMap fun v => v.cells.toList).length = l.length * sz := by
          intro l
          induction l with
          | nil => intro _; simp
          | cons v l ih =>
            intro hv
            simp only [List.flatMap_cons, List.length_append, Array.length_toList, List.length_cons, Nat.add_mul, Nat.one_mul]
            rw [ih fun u hu => hv u (List.mem_cons_of_mem _ hu), hv v List.mem_cons_self]
            omega
        rw [← hcs]
        simp only [List.size_toArray]
        rw [hfl _ hvs]
        simp [hl, hlen]
      have hcell : ∀ i (h : i < parts.length) j (hj : j < (svCells (parts[i]).2).length), SR pl (okOf O pl hp) w ((svCells (parts[i]).2)[j]) (c.getD (i * sz + j) undef) := by
        intro i hi j hj
        have := (hpt i hi).2
        rw [(hget i hi j (by omega)).1]
        exact ((hr i hi).cells (hpt i hi).1).2 j hj
      simp only at h
      split at h
      · rename_i ds hds
        obtain ⟨h1, h2⟩ := allDD_some hds
        simp only [List.length_map] at h1
        have h3 : ∀ i (h : i < ds.length), (ds[i]).length = sz := by
          intro i hi
          have h4 := h2 i (by simp; omega) hi
          have h5 := (allD_some h4).1
          simp only [List.getElem_map] at h5
          rw [h5]
          exact (hpt i (by omega)).2
        obtain ⟨g1, g2, g3⟩ := hs.newData c e sz ds ds.length (Nat.le_refl _) h3 (by rw [hcsz, h1, hlen]; exact Nat.le_refl _) (by
          intro i hi j hj
          have h4 := h2 i (by simp; omega) hi
          have h5 := (allD_some h4).2 j (by have := h3 i hi; have := (hpt i (by omega)).2; simp; omega) hj
          simp only [List.getElem_map] at h5
          exact toD_sound h5 (hcell i (by omega) j _))
        refine ⟨_, _, hrun, pl, _, _, _, h, g1, ?_, g2, fun _ _ h => h⟩
        have : ds.length = n + 1 := by omega
        rw [← this]
        exact .dx ds _ g3
      · obtain ⟨g1, g2, g3⟩ := hs.newArr rfl rfl rfl c e sz (parts.map fun p => svCells p.2) (by rw [hcsz]; exact Nat.mul_ne_zero (by omega) hsz) (by simp [hcsz, hlen])
          (by intro i hi; simp only [List.getElem_map]; exact (hpt i (by simpa using hi)).2)
          (by intro i hi j hj
              simp only [List.getElem_map] at hj ⊢
              exact hcell i (by simpa using hi) j hj)
        refine ⟨_, _, hrun, _, _, _, _, h, g1, ?_, g2, g3⟩
        have := SR.slc (ok := okOf O (plUp pl nx ⟨w.heap.size, sz, c.size⟩) ((nx, Obj.arr sz (parts.map fun p => svCells p.2)) :: hp)) (w := w.alloc (.cells c e)) nx sz 0 (n + 1) (n + 1) (n + 1) _ (plUp_self pl nx ⟨w.heap.size, sz, c.size⟩) rfl (Nat.le_refl _) (Nat.le_refl _) (by simp [hcsz])
        simpa using this
  · exact h.elim
def fillS (place : Nat → Option (Nat × Nat)) (cells : List SV) : List (Nat × SV) → Option (List SV)
  | [] => some cells
  | (i, v) :: rest => match place i with
    | none => none
    | some (off, size) => if (svCells v).length = size ∧ off + (svCells v).length ≤ cells.length ∧ svOk v = true then fillS place (putAt cells off (svCells v)) rest else none
def tplaces (P : Program) (t : TypeId) : Option (Nat → Option (Nat × Nat)) :=
  match P.underlying t with
  | some (.struct fs) => (fs.toList.mapM fun f => (P.info? f.type).map fun i => (f.offset, i.size)).map fun l i => l[i]?
  | some (.array _ e) => (P.info? e).map fun i k => some (k * i.size, i.size)
  | _ => none
theorem fillS_fill (place : Nat → Option (Nat × Nat)) : ∀ (parts : List (Nat × SV)) (vparts : List (Nat × Value)) (cs : List SV) (c : Array Value) (r : List SV),
    vparts.map (·.1) = parts.map (·.1) → (∀ i (h : i < parts.length) (h' : i < vparts.length), SR pl ok w (parts[i]).2 (vparts[i]).2) → c.size = cs.length → (∀ j (hj : j < cs.length), SR pl ok w (cs[j]) (c.getD j undef)) →
    fillS place cs parts = some r → ∃ c', Instr.fill place c vparts = some c' ∧ c'.size = r.length ∧ ∀ j (hj : j < r.length), SR pl ok w (r[j]) (c'.getD j undef)
  | [], vparts, cs, c, r, hi, _, hc, hr, h => by
    have : vparts = [] := by simpa using hi
    subst this
    simp only [fillS, Option.some.injEq] at h
    subst h
    exact ⟨c, rfl, hc, hr⟩
  | (i, v) :: parts, [], cs, c, r, hi, _, hc, hr, h => by simp at hi
  | (i, v) :: parts, (i', u) :: vparts, cs, c, r, hi, hp, hc, hr, h => by
    simp only [List.map_cons, List.cons.injEq] at hi
    obtain ⟨rfl, hi⟩ := hi
    unfold fillS at h
    split at h
    · cases h
    · rename_i off size hpl
      split at h
      · rename_i hcond
        obtain ⟨h1, h2, h3⟩ := hcond
        have hv := (hp 0 (by simp) (by simp)).cells h3
        simp only [List.getElem_cons_zero] at hv
        obtain ⟨g1, g2⟩ := Great.foldl_set off u.cells.toList 0 c
        have hsize : ((u.cells.toList.zipIdx 0).foldl (fun cs (x : Value × Nat) => cs.setIfInBounds (off + x.2) x.1) c).size = (putAt cs off (svCells v)).length := by rw [g1, hc, putAt_length h2]
        obtain ⟨c', e1, e2, e3⟩ := fillS_fill place parts vparts (putAt cs off (svCells v)) _ r hi (fun k hk hk' => hp (k + 1) (by simpa using hk) (by simpa using hk')) hsize (by
          intro j hj
          have hj' : j < cs.length := by rw [putAt_length h2] at hj; exact hj
          rw [Array.getD_eq_getD_getElem?, g2 j]
          simp only [Nat.add_zero, Array.length_toList]
          rcases putAt_get h2 j hj with ⟨k1, k2, k3⟩ | ⟨k1, k2, k3⟩
          · rw [k3, if_pos ⟨k1, by omega, by omega⟩]
            have := hv.2 (j - off) k2
            simpa [Array.getD_eq_getD_getElem?] using this
          · rw [k3, if_neg (by rw [hv.1]; omega)]
            have := hr j k2
            simpa [Array.getD_eq_getD_getElem?] using this) h
        refine ⟨c', ?_, e2, e3⟩
        unfold Instr.fill
        rw [hpl]
        simp only
        rw [if_neg (by simp; omega), ← Array.foldl_toList, Array.toList_zipIdx]
        exact e1
      · cases h
def zO (P : Program) (t : TypeId) (parts : List (Nat × SV)) (K : SV → Prop) : Prop :=
  match tplaces P t, tzero P t with
  | some pl, some z => match fillS pl z parts with
    | some cs => K (.agg cs)
    | none => False
  | _, _ => False
theorem run_exBuild {t : TypeId} {parts : List (Nat × SV)} {vparts : Array (Nat × Value)} {K : SV → Prop}
    (hf : vparts.toList.map (·.1) = parts.map (·.1)) (hr : ∀ i (h : i < parts.length) (h' : i < vparts.toList.length), SR pl ok w (parts[i]).2 (vparts.toList[i]).2) (h : zO P t parts K) :
    ∃ r v, K r ∧ SR pl ok w r v ∧ (Instr.build t vparts).run P w = .ok v w := by
  unfold zO at h
  split at h
  · rename_i place z hpl hz
    split at h
    · rename_i cs hfs
      obtain ⟨i, zv, hi, hzv, rfl⟩ := tzero_some hz
      obtain ⟨c', e1, e2, e3⟩ := fillS_fill place parts vparts.toList _ zv.cells cs hf hr (by simp) (fun j hj => zeroCells_rel zv j hj) hfs
      refine ⟨_, .agg c', h, .agg _ _ e2 e3, run_build w t vparts c' ?_⟩
      unfold Program.built
      unfold tplaces at hpl
      split at hpl
      · rename_i fs hu
        simp only [Option.map_eq_some_iff] at hpl
        obtain ⟨l, hl, rfl⟩ := hpl
        simp only [hi, hu, hzv, hl]
        rw [← e1]
        congr 1
        funext k
        simp
      · rename_i n e hu
        simp only [Option.map_eq_some_iff] at hpl
        obtain ⟨ie, hie, rfl⟩ := hpl
        simp only [hi, hu, hzv, hie]
        exact e1
      · cases hpl
    · exact h.elim
  · exact h.elim
end
end Go.Sy
