/- Lemmas, part ZGA. Conditions: none. -/
import Derived.RangeFuncLeaves
import Derived.Laws.Sem
import Derived.Scope
import Derived.Laws.Cells
import Derived.Laws.CopyRow
import Derived.ChangeKeysEq
set_option linter.unusedVariables false
namespace Go.Sy
inductive D where
  | lit (v : Value)
  | sl (es : List (List D))
  | mp (es : List (Value × D))
instance : Inhabited D := ⟨.lit undef⟩
theorem addr_add (B off n : Nat) : (⟨B, off, none⟩ : Addr).add n = ⟨B, off + n, none⟩ := by
  unfold Addr.add
  by_cases h : n = 0
  · subst h; rfl
  · rw [if_neg h]
inductive DR (ok : Nat → Prop) (w : World) : D → Value → Prop where
  | lit (v : Value) (h : v.oneCell' = true) : DR ok w (.lit v) v
  | nil (a : Option Addr) (cap : Nat) : DR ok w (.sl []) (.slice a 0 cap)
  | sl (sz : Nat) (es : List (List D)) (B off cap : Nat) (f : Nat → Nat → Value) (hB : ok B) (hs : B < w.heap.size) (hc : es.length ≤ cap)
      (hz : ∀ i (h : i < es.length), (es[i]).length = sz)
      (hw : ∀ i (h : i < es.length) j, j < (es[i]).length → w.cell? ⟨B, off + (i * sz + j), none⟩ = some (f i j))
      (hr : ∀ i (h : i < es.length) j (hj : j < (es[i]).length), DR ok w ((es[i])[j]) (f i j)) :
      DR ok w (.sl es) (.slice (some ⟨B, off, none⟩) es.length cap)
  | mnil : DR ok w (.mp []) (.map none)
  | mp (es : List (Value × D)) (B : Nat) (xs : Array Go.MapEntry) (hB : ok B) (hs : B < w.heap.size) (h : w.heap[B]? = some (.map xs es.length)) (hl : xs.size = es.length)
      (hk : ∀ i (hi : i < es.length), (xs.getD i default).key = (es[i]).1 ∧ (xs.getD i default).born = i)
      (hv : ∀ i (hi : i < es.length), DR ok w (es[i]).2 (xs.getD i default).val) : DR ok w (.mp es) (.map (some B))
structure Ext (ok : Nat → Prop) (w : World) (ok' : Nat → Prop) (w' : World) : Prop where
  okm : ∀ B, B < w.heap.size → ok B → ok' B
  keep : ∀ B : Nat, B < w.heap.size → ok B → w'.heap[B]? = w.heap[B]?
  size : w.heap.size ≤ w'.heap.size
theorem Ext.weak {ok ok' : Nat → Prop} {w : World} (h : ∀ B, B < w.heap.size → ok B → ok' B) : Ext ok w ok' w := ⟨h, fun _ _ _ => rfl, Nat.le_refl _⟩
theorem Ext.cell {ok ok' : Nat → Prop} {w w' : World} (e : Ext ok w ok' w') {B off : Nat} (hB : ok B) (hs : B < w.heap.size) :
    w'.cell? ⟨B, off, none⟩ = w.cell? ⟨B, off, none⟩ := by
  unfold World.cell?
  simp only [e.keep B hs hB]
theorem DR.ext {ok ok' : Nat → Prop} {w w' : World} (e : Ext ok w ok' w') {x : D} {v : Value} (h : DR ok w x v) : DR ok' w' x v := by
  induction h with
  | lit v h => exact .lit v h
  | nil a cap => exact .nil a cap
  | sl sz es B off cap f hB hs hc hz hw hr ih =>
    exact .sl sz es B off cap f (e.okm B hs hB) (Nat.lt_of_lt_of_le hs e.size) hc hz (fun i h j hj => (e.cell hB hs).trans (hw i h j hj)) ih
  | mnil => exact .mnil
  | mp es B xs hB hs h hl hk hv ih => exact .mp es B xs (e.okm B hs hB) (Nat.lt_of_lt_of_le hs e.size) ((e.keep B hs hB).trans h) hl hk ih
structure Pl where
  blk : Nat
  sz : Nat
  tot : Nat
inductive SV where
  | unk
  | d (x : D)
  | agg (cs : List SV)
  | tup (vs : List SV)
  | ptr (id i j : Nat)
  | dp (cs : List D)
  | fp (cs : List SV)
  | slc (id sz off len cap : Nat)
  | dx (es : List (List D))
  | whn (b : Bool) (s : SV)
  | clo (fn : Fn) (first cap : List SV)
  | mapr (id : Nat)
  | yld (id : Nat)
  | ifc (t : TypeId) (v : SV)
instance : Inhabited SV := ⟨.unk⟩
inductive SR (pl : Nat → Option Pl) (ok : Nat → Prop) (w : World) : SV → Value → Prop where
  | unk (v : Value) : SR pl ok w .unk v
  | d (x : D) (v : Value) (h : DR ok w x v) : SR pl ok w (.d x) v
  | agg (cs : List SV) (vs : Array Value) (hl : vs.size = cs.length) (h : ∀ i (hi : i < cs.length), SR pl ok w (cs[i]) (vs.getD i undef)) : SR pl ok w (.agg cs) (.agg vs)
  | tup (cs : List SV) (vs : Array Value) (hl : vs.size = cs.length) (h : ∀ i (hi : i < cs.length), SR pl ok w (cs[i]) (vs.getD i undef)) : SR pl ok w (.tup cs) (.tuple vs)
  | ptr (id i j : Nat) (q : Pl) (h : pl id = some q) : SR pl ok w (.ptr id i j) (.pointer (some ⟨q.blk, i * q.sz + j, none⟩))
  | dp (cs : List D) (B off : Nat) (f : Nat → Value) (hB : ok B) (hs : B < w.heap.size)
      (hw : ∀ j, j < cs.length → w.cell? ⟨B, off + j, none⟩ = some (f j)) (hr : ∀ j (hj : j < cs.length), DR ok w (cs[j]) (f j)) :
      SR pl ok w (.dp cs) (.pointer (some ⟨B, off, none⟩))
  | fp (cs : List SV) (B off : Nat) (f : Nat → Value) (hB : ok B) (hs : B < w.heap.size)
      (hw : ∀ j, j < cs.length → w.cell? ⟨B, off + j, none⟩ = some (f j)) (hr : ∀ j (hj : j < cs.length), SR pl ok w (cs[j]) (f j)) :
      SR pl ok w (.fp cs) (.pointer (some ⟨B, off, none⟩))
  | slc (id sz off len cap cap' : Nat) (q : Pl) (h : pl id = some q) (hsz : q.sz = sz) (hc : len ≤ cap) (hc' : cap ≤ cap') (ht : (off + cap') * sz ≤ q.tot) :
      SR pl ok w (.slc id sz off len cap) (.slice (some ⟨q.blk, off * sz, none⟩) len cap')
  | slc0 (id sz off len cap : Nat) (q : Pl) (h : pl id = some q) (hsz : q.sz = sz) (ht : q.tot = 0) (h1 : off = 0) (h2 : len = 0) (h3 : cap = 0) (a : Option Addr) : SR pl ok w (.slc id sz off len cap) (.slice a 0 0)
  | dx (es : List (List D)) (a : Option Addr) (h : DR ok w (.sl es) (.slice a es.length es.length)) : SR pl ok w (.dx es) (.slice a es.length es.length)
  | whn (b : Bool) (s : SV) (v : Value) (h : b = true → SR pl ok w s v) (h0 : b = false → v = undef) : SR pl ok w (.whn b s) v
  | clo (fn : Fn) (first cap : List SV) (fs cs : Array Value) (hf : fs.size = first.length) (hc : cs.size = cap.length)
      (h1 : ∀ i (hi : i < first.length), SR pl ok w (first[i]) (fs.getD i undef)) (h2 : ∀ i (hi : i < cap.length), SR pl ok w (cap[i]) (cs.getD i undef)) :
      SR pl ok w (.clo fn first cap) (.func fn fs cs)
  | mapr (id : Nat) (q : Pl) (h : pl id = some q) : SR pl ok w (.mapr id) (.map (some q.blk))
  | yld (id : Nat) (q : Pl) (h : pl id = some q) : SR pl ok w (.yld id) (.func (.yield q.blk) #[] #[])
  | ifc (t : TypeId) (s : SV) (v : Value) (h : SR pl ok w s v) : SR pl ok w (.ifc t s) (.iface t v)
theorem SR.ext {pl pl' : Nat → Option Pl} {ok ok' : Nat → Prop} {w w' : World} (e : Ext ok w ok' w') (hp : ∀ id q, pl id = some q → pl' id = some q)
    {x : SV} {v : Value} (h : SR pl ok w x v) : SR pl' ok' w' x v := by
  induction h with
  | unk v => exact .unk v
  | d x v h => exact .d x v (h.ext e)
  | agg cs vs hl h ih => exact .agg cs vs hl ih
  | tup cs vs hl h ih => exact .tup cs vs hl ih
  | ptr id i j q h => exact .ptr id i j q (hp _ _ h)
  | dp cs B off f hB hs hw hr => exact .dp cs B off f (e.okm B hs hB) (Nat.lt_of_lt_of_le hs e.size) (fun j hj => (e.cell hB hs).trans (hw j hj)) (fun j hj => (hr j hj).ext e)
  | fp cs B off f hB hs hw hr ih => exact .fp cs B off f (e.okm B hs hB) (Nat.lt_of_lt_of_le hs e.size) (fun j hj => (e.cell hB hs).trans (hw j hj)) ih
  | slc id sz off len cap cap' q h hsz hc hc' ht => exact .slc id sz off len cap cap' q (hp _ _ h) hsz hc hc' ht
  | slc0 id sz off len cap q h hsz ht h1 h2 h3 a => exact .slc0 id sz off len cap q (hp _ _ h) hsz ht h1 h2 h3 a
  | dx es a h => exact .dx es a (h.ext e)
  | whn b s v h h0 ih => exact .whn b s v ih h0
  | clo fn first cap fs cs hf hc h1 h2 ih1 ih2 => exact .clo fn first cap fs cs hf hc ih1 ih2
  | mapr id q h => exact .mapr id q (hp _ _ h)
  | yld id q h => exact .yld id q (hp _ _ h)
  | ifc t s v h ih => exact .ifc t s v ih
inductive Obj where
  | arr (sz : Nat) (es : List (List SV))
  | map (es : List (Value × SV))
  | iter (es : List (Value × D)) (seen : List Nat)
  | raw (o : Go.Obj)
  | loop (fn : FuncId) (tm : List (Nat × SV)) (nt : Nat) (params : Array Tmp) (assign body : Code) (state : LoopState) (pending : Option Code) (df : Nat)
def MapR (pl : Nat → Option Pl) (ok : Nat → Prop) (w : World) (es : List (Value × SV)) (xs : Array Go.MapEntry) (clock : Nat) : Prop :=
  xs.size = es.length ∧ clock = es.length ∧ ∀ i (h : i < es.length), (xs.getD i default).key = (es[i]).1 ∧ (xs.getD i default).born = i ∧ SR pl ok w (es[i]).2 (xs.getD i default).val
def TmR (pl : Nat → Option Pl) (ok : Nat → Prop) (w : World) (tm : List (Nat × SV)) (tmps : Array Value) : Prop :=
  ∀ t s, tm.lookup t = some s → SR pl ok w s (tmps.getD t undef)
inductive ObjR (pl : Nat → Option Pl) (ok : Nat → Prop) (w : World) (q : Pl) : Obj → Prop where
  | arr (es : List (List SV)) (c : Array Value) (e : TypeId) (hne : q.tot ≠ 0) (h : w.heap[q.blk]? = some (.cells c e (0, 0))) (ht : c.size = q.tot) (hn : es.length * q.sz ≤ q.tot)
      (hz : ∀ i (h : i < es.length), (es[i]).length = q.sz)
      (hr : ∀ i (h : i < es.length) j (hj : j < (es[i]).length), SR pl ok w ((es[i])[j]) (c.getD (i * q.sz + j) undef)) : ObjR pl ok w q (.arr q.sz es)
  | vac (h : q.tot = 0) : ObjR pl ok w q (.arr q.sz [])
  | map (es : List (Value × SV)) (xs : Array Go.MapEntry) (clock : Nat) (hne : q.tot ≠ 0) (h : w.heap[q.blk]? = some (.map xs clock)) (hm : MapR pl ok w es xs clock) : ObjR pl ok w q (.map es)
  | iter (es : List (Value × D)) (seen : List Nat) (hne : q.tot ≠ 0) (m : Option Nat) (hd : DR ok w (.mp es) (.map m)) (h : w.heap[q.blk]? = some (.mapIter m es.length seen.toArray es.length)) : ObjR pl ok w q (.iter es seen)
  | raw (o : Go.Obj) (hne : q.tot ≠ 0) (h : w.heap[q.blk]? = some o) : ObjR pl ok w q (.raw o)
  | loop (fn : FuncId) (tm : List (Nat × SV)) (nt : Nat) (params : Array Tmp) (assign body : Code) (state : LoopState) (pending : Option Code) (df : Nat) (hne : q.tot ≠ 0) (tmps : Array Value) (db : Nat)
      (h : w.heap[q.blk]? = some (.loop { state, pending, fn, tmps, params, assign, body, defers := db })) (hs : tmps.size = nt) (ht : TmR pl ok w tm tmps) :
      ObjR pl ok w q (.loop fn tm nt params assign body state pending df)
end Go.Sy
namespace Go.Sy
structure St where
  tm : List (Nat × SV)
  hp : List (Nat × Obj)
  nx : Nat
  nt : Nat
  df : List Nat
  nb : Nat
def ownOf (pl : Nat → Option Pl) (hp : List (Nat × Obj)) (B : Nat) : Prop := ∃ p ∈ hp, ∃ q, pl p.1 = some q ∧ q.tot ≠ 0 ∧ q.blk = B
def okOf (O : Nat → Prop) (pl : Nat → Option Pl) (hp : List (Nat × Obj)) (B : Nat) : Prop := ¬ O B ∧ ¬ ownOf pl hp B
structure HS (G : Nat → Option (List D)) (O : Nat → Prop) (pb pl : Nat → Option Pl) (w : World) (hp : List (Nat × Obj)) (nx : Nat) : Prop where
  obj : ∀ p ∈ hp, ∃ q, pl p.1 = some q ∧ (q.tot ≠ 0 → q.blk < w.heap.size ∧ ¬ O q.blk) ∧ ObjR pl (okOf O pl hp) w q p.2
  apart : hp.Pairwise (fun p p' => p.1 ≠ p'.1 ∧ ∀ q q', pl p.1 = some q → pl p'.1 = some q' → q.tot ≠ 0 → q'.tot ≠ 0 → q.blk ≠ q'.blk)
  fresh : ∀ id, nx ≤ id → pl id = none
  old : ∀ B, O B → B < w.heap.size
  base : ∀ id q, pb id = some q → pl id = some q
  glob : ∀ g cs, G g = some cs → SR pl (okOf O pl hp) w (.dp cs) (.pointer (some ⟨g, 0, none⟩))
def Mk (a : Act) (B : Nat) : Prop := ∃ d ∈ a.defers, d.target = .collected B
def Ox (O : Nat → Prop) (a : Act) (B : Nat) : Prop := O B ∨ Mk a B
structure DfR (M : Nat) (df : List Nat) (ds : List Deferred) (w : World) : Prop where
  lo : M ≤ w.heap.size
  nil : df = [] → ds = []
  mks : ∀ d ∈ ds, ∃ B, d = { target := .collected B, args := #[] } ∧ M ≤ B ∧ w.heap[B]? = some (.deferred (some []))
  nd : ds.Pairwise (fun d d' => d.target ≠ d'.target)
structure R (G : Nat → Option (List D)) (O : Nat → Prop) (M : Nat) (pb pl : Nat → Option Pl) (st : St) (a : Act) (w : World) : Prop where
  hs : HS G (Ox O a) pb pl w st.hp st.nx
  tm : TmR pl (okOf (Ox O a) pl st.hp) w st.tm a.tmps
  nt : a.tmps.size = st.nt
  df : DfR M st.df a.defers w
  bd : ∀ id q, pb id = some q → id < st.nb
structure Step (own own' : Nat → Prop) (w w' : World) : Prop where
  size : w.heap.size ≤ w'.heap.size
  keep : ∀ B : Nat, B < w.heap.size → ¬ own B → w'.heap[B]? = w.heap[B]?
  os : w'.os = w.os
  out : w'.output = w.output
  own : ∀ B, own' B → own B ∨ w.heap.size ≤ B
theorem Step.refl (own : Nat → Prop) (w : World) : Step own own w w := ⟨Nat.le_refl _, fun _ _ _ => rfl, rfl, rfl, fun _ h => .inl h⟩
theorem Step.less {own own' : Nat → Prop} (w : World) (h : ∀ B, own' B → own B) : Step own own' w w := ⟨Nat.le_refl _, fun _ _ _ => rfl, rfl, rfl, fun B hB => .inl (h B hB)⟩
theorem Step.trans {o o' o'' : Nat → Prop} {w w' w'' : World} (h : Step o o' w w') (h' : Step o' o'' w' w'') : Step o o'' w w'' where
  size := Nat.le_trans h.size h'.size
  keep B hB ho := (h'.keep B (Nat.lt_of_lt_of_le hB h.size) (fun hc => (h.own B hc).elim ho (fun hle => absurd hB (by omega)))).trans (h.keep B hB ho)
  os := h'.os.trans h.os
  out := h'.out.trans h.out
  own B hB := (h'.own B hB).elim (fun hc => h.own B hc) (fun hle => .inr (Nat.le_trans h.size hle))
theorem Step.ext {O : Nat → Prop} {pl pl' : Nat → Option Pl} {hp hp' : List (Nat × Obj)} {w w' : World} (h : Step (ownOf pl hp) (ownOf pl' hp') w w') :
    Ext (okOf O pl hp) w (okOf O pl' hp') w' where
  okm B hB ho := ⟨ho.1, fun hc => (h.own B hc).elim ho.2 (fun hle => absurd hB (by omega))⟩
  keep B hB ho := h.keep B hB ho.2
  size := h.size
theorem DfR.step {own own' : Nat → Prop} {M : Nat} {df : List Nat} {ds : List Deferred} {w w' : World} (h : DfR M df ds w) (hn : ∀ B, (∃ d ∈ ds, d.target = .collected B) → ¬ own B) (st : Step own own' w w') : DfR M df ds w' where
  lo := Nat.le_trans h.lo st.size
  nil := h.nil
  mks d hd := by
    obtain ⟨B, e, h1, h2⟩ := h.mks d hd
    have hlt : B < w.heap.size := (Array.getElem?_eq_some_iff.1 h2).1
    exact ⟨B, e, h1, (st.keep B hlt (hn B ⟨d, hd, by rw [e]⟩)).trans h2⟩
  nd := h.nd
theorem R.mkOwn {G : Nat → Option (List D)} {O : Nat → Prop} {M : Nat} {pb pl : Nat → Option Pl} {st : St} {a : Act} {w : World} (h : R G O M pb pl st a w) (B : Nat) (hB : ∃ d ∈ a.defers, d.target = .collected B) : ¬ ownOf pl st.hp B := by
  rintro ⟨p, h1, q, h2, h3, rfl⟩
  obtain ⟨q', g1, g2, _⟩ := h.hs.obj p h1
  rw [h2] at g1; cases g1
  exact (g2 h3).2 (.inr hB)
theorem R.dfStep {G : Nat → Option (List D)} {O : Nat → Prop} {M : Nat} {pb pl : Nat → Option Pl} {st : St} {a : Act} {w w' : World} {own' : Nat → Prop} (h : R G O M pb pl st a w) (s : Step (ownOf pl st.hp) own' w w') : DfR M st.df a.defers w' := h.df.step h.mkOwn s
abbrev Fw (ro : Option Nat) : Fence := { Fence.wide with round := ro }
def Tr (P : Program) (G : Nat → Option (List D)) (ro : Option Nat) (c : Code) (st : St) (Q : Exit → St → Prop) : Prop :=
  ∀ O M pb pl a w, R G O M pb pl st a w →
    c.wpIn (Fw ro) 0 P (fun x a' w' => ∃ pl' st', Q x st' ∧ R G O M pb pl' st' a' w' ∧ Step (ownOf pl st.hp) (ownOf pl' st'.hp) w w') a w
def Imp (st st' : St) : Prop :=
  ∀ G O M pb pl a w, R G O M pb pl st a w → ∃ pl', R G O M pb pl' st' a w ∧ ∀ B, ownOf pl' st'.hp B → ownOf pl st.hp B
def ExS.thn (K : St → Prop) (Q : Exit → St → Prop) : Exit → St → Prop
  | .normal, st => K st
  | e, st => Q e st
def ExS.inBlock (id : Nat) (Q : Exit → St → Prop) : Exit → St → Prop
  | .exit id', st => if id' = id then Q .normal st else Q (.exit id') st
  | e, st => Q e st
section
variable {P : Program} {G : Nat → Option (List D)} {ro : Option Nat} {st : St} {Q : Exit → St → Prop}
theorem Tr.mono {c : Code} {Q' : Exit → St → Prop} (h : Tr P G ro c st Q) (hq : ∀ x s, Q x s → Q' x s) : Tr P G ro c st Q' :=
  fun O M pb pl a w hR => wpIn_mono (h O M pb pl a w hR) fun _ _ _ ⟨pl', st', q, r⟩ => ⟨pl', st', hq _ _ q, r⟩
theorem Tr.imp {c : Code} {st' : St} (hi : Imp st st') (h : Tr P G ro c st' Q) : Tr P G ro c st Q := by
  intro O M pb pl a w hR
  obtain ⟨pl₁, hR₁, hown⟩ := hi G O M pb pl a w hR
  exact wpIn_mono (h O M pb pl₁ a w hR₁) fun _ _ _ ⟨pl', s', q, r, s⟩ => ⟨pl', s', q, r, (Step.less w hown).trans s⟩
theorem Tr.skip (h : Q .normal st) : Tr P G ro .skip st Q := fun _ _ _ pl a w hR => wpIn_skip ⟨pl, st, h, hR, .refl _ _⟩
theorem Tr.label {l : Nat} (h : Q .normal st) : Tr P G ro (.label l) st Q := fun _ _ _ pl a w hR => wpIn_label ⟨pl, st, h, hR, .refl _ _⟩
theorem Tr.exit {id : Nat} (h : Q (.exit id) st) : Tr P G ro (.exit id) st Q := fun _ _ _ pl a w hR => wpIn_exit ⟨pl, st, h, hR, .refl _ _⟩
theorem Tr.ret (h : Q .ret st) : Tr P G ro .ret st Q := fun _ _ _ pl a w hR => wpIn_ret ⟨pl, st, h, hR, .refl _ _⟩
theorem Tr.seq {x y : Code} (h : Tr P G ro x st (ExS.thn (fun s => Tr P G ro y s Q) Q)) : Tr P G ro (.seq x y) st Q := by
  intro O M pb pl a w hR
  refine wpIn_seq (wpIn_mono (h O M pb pl a w hR) ?_)
  rintro e a₁ w₁ ⟨pl₁, s₁, q, r, s⟩
  cases e with
  | normal => exact wpIn_mono (q O M pb pl₁ a₁ w₁ r) fun _ _ _ ⟨pl', s', q', r', s''⟩ => ⟨pl', s', q', r', s.trans s''⟩
  | exit id => exact ⟨pl₁, s₁, q, r, s⟩
  | goto l => exact ⟨pl₁, s₁, q, r, s⟩
  | ret => exact ⟨pl₁, s₁, q, r, s⟩
  | panic ch => exact ⟨pl₁, s₁, q, r, s⟩
  | outgrown => exact ⟨pl₁, s₁, q, r, s⟩
theorem Tr.block {id : Nat} {c : Code} (h : Tr P G ro c st (ExS.inBlock id Q)) : Tr P G ro (.block id c) st Q := by
  intro O M pb pl a w hR
  refine wpIn_block (wpIn_mono (h O M pb pl a w hR) ?_)
  rintro e a₁ w₁ ⟨pl₁, s₁, q, r, s⟩
  cases e with
  | exit id' =>
    simp only [ExS.inBlock, Exit.inBlock] at q ⊢
    by_cases hid : id' = id
    · rw [if_pos hid] at q ⊢; exact ⟨pl₁, s₁, q, r, s⟩
    · rw [if_neg hid] at q ⊢; exact ⟨pl₁, s₁, q, r, s⟩
  | normal => exact ⟨pl₁, s₁, q, r, s⟩
  | goto l => exact ⟨pl₁, s₁, q, r, s⟩
  | ret => exact ⟨pl₁, s₁, q, r, s⟩
  | panic ch => exact ⟨pl₁, s₁, q, r, s⟩
  | outgrown => exact ⟨pl₁, s₁, q, r, s⟩
def svCell (v : Value) : SV := if v.oneCell' then (match v with | .slice none 0 0 => .dx [] | v => .d (.lit v)) else .unk
def svOf : Value → SV
  | .slice none 0 0 => .dx []
  | .agg cs => .agg (cs.toList.map svCell)
  | .tuple _ => .unk
  | v => .d (.lit v)
def ev (G : Nat → Option (List D)) (tm : List (Nat × SV)) : Operand → SV
  | .tmp t => (tm.lookup t).getD .unk
  | .const v => svOf v
  | .global g => match G g with | some cs => .dp cs | none => .unk
  | .func f => .clo (.func f) [] []
theorem svOf_cell {pl : Nat → Option Pl} {ok : Nat → Prop} {w : World} (v : Value) :
    SR pl ok w (svCell v) v := by
  unfold svCell
  by_cases h : v.oneCell' = true
  · rw [if_pos h]
    split
    · exact .dx [] none (.nil none 0)
    · exact .d _ _ (.lit _ h)
  · rw [if_neg h]; exact .unk _
theorem svOf_sound {pl : Nat → Option Pl} {ok : Nat → Prop} {w : World} (v : Value) : SR pl ok w (svOf v) v := by
  unfold svOf
  split
  · exact .dx [] none (.nil none 0)
  · rename_i cs
    refine .agg _ _ (by simp) fun i hi => ?_
    simp only [List.getElem_map, Array.getElem_toList]
    have hi' : i < cs.size := by simpa using hi
    simp only [Array.getD_eq_getD_getElem?, Array.getElem?_eq_getElem hi', Option.getD_some]
    exact svOf_cell _
  · exact .unk _
  · rename_i h1 h2 h3
    refine .d _ _ (.lit _ ?_)
    cases v <;> first | rfl | exact absurd rfl (h2 _) | exact absurd rfl (h3 _)
theorem ev_sound {O : Nat → Prop} {pb pl : Nat → Option Pl} {w : World} {hp : List (Nat × Obj)} {nx : Nat} (hs : HS G O pb pl w hp nx)
    {tm : List (Nat × SV)} {a : Act} (ht : TmR pl (okOf O pl hp) w tm a.tmps) (x : Operand) : SR pl (okOf O pl hp) w (ev G tm x) (a.eval x) := by
  cases x with
  | tmp t =>
    simp only [ev, Act.eval]
    cases h : tm.lookup t with
    | none => exact .unk _
    | some s => exact ht t s h
  | const v =>
    exact svOf_sound v
  | global g =>
    simp only [ev, Act.eval]
    cases h : G g with
    | none => exact .unk _
    | some cs => exact hs.glob g cs h
  | func f => exact .clo _ [] [] #[] #[] rfl rfl (fun i hi => absurd hi (by simp)) (fun i hi => absurd hi (by simp))
theorem SR.lit {pl : Nat → Option Pl} {ok : Nat → Prop} {w : World} {x v : Value} (h : SR pl ok w (.d (.lit x)) v) : v = x := by
  cases h with | d _ _ h => cases h with | lit _ _ => rfl
theorem Tr.cond {c : Operand} {x y : Code} {b : Bool} (hc : ev G st.tm c = .d (.lit (.bool b))) (h1 : b = true → Tr P G ro x st Q) (h2 : b = false → Tr P G ro y st Q) :
    Tr P G ro (.cond c x y) st Q := by
  intro O M pb pl a w hR
  have hv := ev_sound hR.hs hR.tm c
  rw [hc] at hv
  refine wpIn_cond hv.lit ?_
  cases b
  · exact h2 rfl O M pb pl a w hR
  · exact h1 rfl O M pb pl a w hR
theorem stepR_scope' {b : Frame} {a : Act} {k : List Item} {cs : List Frame} {w : World} {body : Code} :
    step P (lone (b.atR a (.code (.scope body) :: k)) cs w) = .next (lone (b.atR a (.code body :: .inScope body :: k)) cs w) :=
  step_lone_go (by simp [stepG, stepG.exec, Frame.atR])
theorem stepR_inScope' {b : Frame} {a : Act} {k : List Item} {cs : List Frame} {w : World} {body : Code} :
    step P (lone (b.atR a (.inScope body :: k)) cs w) = .next (lone (b.atR a k) cs w) :=
  step_lone_go (by simp [stepG, stepG.exec, Frame.atR])
theorem Tr.scope {body : Code} (h : Tr P G ro body st (fun x s => (∀ l, x ≠ .goto l) ∧ Q x s)) : Tr P G ro (.scope body) st Q := by
  intro O M pb pl a w hR b k cs hro hb hr
  obtain ⟨e, a₁, w₁, hq, harr⟩ := h O M pb pl a w hR b (.inScope body :: k) cs hro hb hr
  obtain ⟨pl₁, s₁, ⟨hg, q⟩, r, s⟩ := hq
  have h0 : (lone (b.atR a (.code (.scope body) :: k)) cs w).fenced P (Fw ro) := fenced_calm hb hr rfl
  cases e with
  | normal => exact ⟨.normal, a₁, w₁, ⟨pl₁, s₁, q, r, s⟩, .head h0 stepR_scope' (StepsIn.trans harr (.one (fenced_calm (fr := b.atR a₁ (.inScope body :: k)) hb hr rfl) stepR_inScope'))⟩
  | exit id =>
    have hx : exitTo id (.inScope body :: k) = exitTo id k := by simp [exitTo]
    exact ⟨_, a₁, w₁, ⟨pl₁, s₁, q, r, s⟩, fun k' hk => .head h0 stepR_scope' (harr.1 k' (by rw [hx]; exact hk)),
      fun hr' hk => let ⟨k₁, h1, h2⟩ := harr.2 hr' (by rw [hx]; exact hk); ⟨k₁, h1, .head h0 stepR_scope' h2⟩⟩
  | goto l => exact absurd rfl (hg l)
  | ret => exact ⟨_, a₁, w₁, ⟨pl₁, s₁, q, r, s⟩, .of_steps (.one h0 stepR_scope') harr⟩
  | panic ch => exact ⟨_, a₁, w₁, ⟨pl₁, s₁, q, r, s⟩, .of_steps (.one h0 stepR_scope') harr⟩
  | outgrown => exact ⟨_, a₁, w₁, ⟨pl₁, s₁, q, r, s⟩, .of_steps (.one h0 stepR_scope') harr⟩
theorem Tr.loop {c : Code} (I : Nat → St → Prop) (n : Nat) (h₀ : I n st)
    (round : ∀ n s, I n s → Tr P G ro c s (ExS.thn (fun s' => ∃ m, m < n ∧ I m s') Q)) : Tr P G ro (.loop c) st Q := by
  intro O M pb pl a w hR b k cs hro hb hr
  have key : ∀ n s pl a w', I n s → R G O M pb pl s a w' →
      ∃ e a' w'', (∃ pl' st', Q e st' ∧ R G O M pb pl' st' a' w'' ∧ Step (ownOf pl s.hp) (ownOf pl' st'.hp) w' w'') ∧
        ArrivesIn (Machine.fenced P (Fw ro)) P (lone (b.atR a (.code c :: .inLoop c :: k)) cs w') b k cs e a' w'' := by
    intro n
    induction n using Nat.strongRecOn with
    | _ n ih =>
      intro s pl a w hI hR
      obtain ⟨e, a₁, w₁, ⟨pl₁, s₁, q, r, st₁⟩, harr⟩ := round n s hI O M pb pl a w hR b (.inLoop c :: k) cs hro hb hr
      cases e with
      | normal =>
        obtain ⟨m, hm, hI₁⟩ := q
        obtain ⟨e₂, a₂, w₂, ⟨pl₂, s₂, q₂, r₂, st₂⟩, harr₂⟩ := ih m hm s₁ pl₁ a₁ w₁ hI₁ r
        exact ⟨e₂, a₂, w₂, ⟨pl₂, s₂, q₂, r₂, st₁.trans st₂⟩, .of_steps (StepsIn.trans harr (.one (fenced_calm (fr := b.atR a₁ (.inLoop c :: k)) hb hr rfl) stepR_inLoop)) harr₂⟩
      | exit id => exact ⟨_, a₁, w₁, ⟨pl₁, s₁, q, r, st₁⟩, .pass (x := .inLoop c) rfl (fun _ _ => .inl (by simp)) harr⟩
      | goto l => exact ⟨_, a₁, w₁, ⟨pl₁, s₁, q, r, st₁⟩, .pass (x := .inLoop c) rfl (fun _ _ => .inl (by simp)) harr⟩
      | ret => exact ⟨_, a₁, w₁, ⟨pl₁, s₁, q, r, st₁⟩, .pass (x := .inLoop c) rfl (fun _ _ => .inl (by simp)) harr⟩
      | panic ch => exact ⟨_, a₁, w₁, ⟨pl₁, s₁, q, r, st₁⟩, .pass (x := .inLoop c) rfl (fun _ _ => .inl (by simp)) harr⟩
      | outgrown => exact ⟨_, a₁, w₁, ⟨pl₁, s₁, q, r, st₁⟩, .pass (x := .inLoop c) rfl (fun _ _ => .inl (by simp)) harr⟩
  obtain ⟨e, a', w', hq, harr⟩ := key n st pl a w h₀ hR
  exact ⟨e, a', w', hq, .of_steps (.one (fenced_calm (fr := b.atR a (.code (.loop c) :: k)) hb hr rfl) stepR_loop) harr⟩
end
end Go.Sy
namespace Go.Sy
def RunOp (P : Program) (o : Oper) (ρ : Operand → Value) (w : World) (K : Value → World → Prop) : Prop :=
  match (execOp ρ o).run P w with
  | .ok (.value v) w' => K v w'
  | .ok .skip w' => K undef w'
  | .ok (.enter f args) w' => CallsIn Fence.wide 0 P f args w' fun e w'' => ∃ v, e = .returned v ∧ K v w''
  | .ok (.round l f tmps assign body) w' => RoundIn Fence.wide 0 P l f tmps assign body w' fun e w'' => ∃ v, e = .returned v ∧ K v w''
  | _ => False
theorem RunOp.wpIn {P : Program} {ro : Option Nat} {o : Oper} {a : Act} {w : World} {K : Value → World → Prop} {next : Act → World → Prop} {Q : Exit → Act → World → Prop}
    (hd : ∀ c, o.op ≠ .defer c) (h : RunOp P o a.eval w K) (hk : ∀ v w', K v w' → next (a.put o.dst v) w') : o.wpIn (Fw ro) 0 P a w next Q := by
  refine ⟨fun _ _ => trivial, ?_⟩
  show o.uponIn (Fw ro) 0 P a next Q ((o.semAt ro a.eval).run P w)
  rw [Oper.semAt_eq _ _ _ hd]
  unfold RunOp at h
  split at h
  · rename_i v w' he; rw [he]; exact hk _ _ h
  · rename_i w' he; rw [he]; exact hk _ _ h
  · rename_i f args w' he; rw [he]
    refine ⟨fun hc => absurd hc (by simp [Fence.wide]), ?_⟩
    have h' : CallsIn (Fw ro) 0 P f args w' (fun e w'' => ∃ v, e = .returned v ∧ K v w'') := h
    refine h'.mono ?_
    rintro e w'' ⟨v, rfl, hK⟩
    exact hk _ _ hK
  · rename_i l f tmps assign body w' he; rw [he]
    refine ⟨fun hc => absurd hc (by simp [Fence.wide]), ?_⟩
    have h' : RoundIn (Fw ro) 0 P l f tmps assign body w' (fun e w'' => ∃ v, e = .returned v ∧ K v w'') := h
    refine h'.mono ?_
    rintro e w'' ⟨v, rfl, hK⟩
    exact hk _ _ hK
  · exact h.elim
abbrev HpT := List (Nat × Obj)
abbrev KT := SV → HpT → Nat → Prop
def Fin (G : Nat → Option (List D)) (O : Nat → Prop) (pb pl : Nat → Option Pl) (w : World) (hp : HpT) (K : KT) (v : Value) (w' : World) : Prop :=
  ∃ pl' r hp' nx', K r hp' nx' ∧ HS G O pb pl' w' hp' nx' ∧ SR pl' (okOf O pl' hp') w' r v ∧ Step (ownOf pl hp) (ownOf pl' hp') w w' ∧ ∀ id q, pl id = some q → pl' id = some q
theorem Fin.same {G : Nat → Option (List D)} {O : Nat → Prop} {pb pl : Nat → Option Pl} {w : World} {hp : HpT} {nx : Nat} {K : KT} {r : SV} {v : Value}
    (hs : HS G O pb pl w hp nx) (hK : K r hp nx) (h : SR pl (okOf O pl hp) w r v) : Fin G O pb pl w hp K v w :=
  ⟨pl, r, hp, nx, hK, hs, h, .refl _ _, fun _ _ h => h⟩
def tsz (P : Program) (t : TypeId) : Option Nat := (P.info? t).map (·.size)
def tagg (P : Program) (t : TypeId) : Option Bool := (P.underlying t).map fun | .struct _ | .array _ _ => true | _ => false
def tfld (P : Program) (t : TypeId) (f : Nat) : Option (Nat × Nat) :=
  match P.underlying t with
  | some (.struct fs) => (fs[f]?).bind fun x => (tsz P x.type).map fun n => (x.offset, n)
  | _ => none
def telem (P : Program) (t : TypeId) : Option Nat := match P.underlying t with | some (.slice e) => tsz P e | _ => none
def tarr (P : Program) (t : TypeId) : Option (Nat × Nat) := match P.underlying t with | some (.array n e) => (tsz P e).map fun s => (n, s) | _ => none
section
variable {P : Program} {w : World} {t : TypeId}
theorem run_tsz {n : Nat} (h : tsz P t = some n) : (sizeOf t).run P w = .ok n w := by
  simp only [tsz, Option.map_eq_some_iff] at h
  obtain ⟨i, hi, rfl⟩ := h
  simp [sizeOf, run_typeInfo w hi]
theorem run_tagg {b : Bool} (h : tagg P t = some b) : (isAgg t).run P w = .ok b w := by
  simp only [tagg, Option.map_eq_some_iff] at h
  obtain ⟨d, hd, rfl⟩ := h
  simp only [isAgg, Sem.run_bind, run_underlying hd, Result.andThen_ok]
  cases d <;> rfl
theorem telem_some {n : Nat} (h : telem P t = some n) : ∃ e, P.underlying t = some (.slice e) ∧ tsz P e = some n := by
  unfold telem at h
  split at h
  · exact ⟨_, ‹_›, h⟩
  · cases h
theorem tarr_some {n s : Nat} (h : tarr P t = some (n, s)) : ∃ e, P.underlying t = some (.array n e) ∧ tsz P e = some s := by
  unfold tarr at h
  split at h
  · rename_i m e he
    simp only [Option.map_eq_some_iff] at h
    obtain ⟨x, hx, hx'⟩ := h
    cases hx'
    exact ⟨_, he, hx⟩
  · cases h
theorem tfld_some {f o n : Nat} (h : tfld P t f = some (o, n)) : ∃ fs x, P.underlying t = some (.struct fs) ∧ fs[f]? = some x ∧ x.offset = o ∧ tsz P x.type = some n := by
  unfold tfld at h
  split at h
  · rename_i fs he
    simp only [Option.bind_eq_some_iff, Option.map_eq_some_iff] at h
    obtain ⟨x, hx, m, hm, hx'⟩ := h
    cases hx'
    exact ⟨fs, x, he, hx, rfl, hm⟩
  · cases h
end
def z7 (op : BinOp) (k : IntKind) (a b : Int) (K : SV → Prop) : Prop :=
  match op with
  | .add => K (.d (.lit (.int k (k.wrap (a + b)))))
  | .sub => K (.d (.lit (.int k (k.wrap (a - b)))))
  | .mul => K (.d (.lit (.int k (k.wrap (a * b)))))
  | .quo => b ≠ 0 ∧ K (.d (.lit (.int k (k.wrap (a.tdiv b)))))
  | .rem => b ≠ 0 ∧ K (.d (.lit (.int k (a.tmod b))))
  | .and => K (.d (.lit (.int k (k.wrap (BitVec.ofInt k.bits a &&& BitVec.ofInt k.bits b).toNat))))
  | .or => K (.d (.lit (.int k (k.wrap (BitVec.ofInt k.bits a ||| BitVec.ofInt k.bits b).toNat))))
  | .xor => K (.d (.lit (.int k (k.wrap (BitVec.ofInt k.bits a ^^^ BitVec.ofInt k.bits b).toNat))))
  | .andNot => K (.d (.lit (.int k (k.wrap (BitVec.ofInt k.bits a &&& ~~~ BitVec.ofInt k.bits b).toNat))))
  | .eql => K (.d (.lit (.bool (a == b))))
  | .neq => K (.d (.lit (.bool (a != b))))
  | .lss => K (.d (.lit (.bool (decide (a < b)))))
  | .leq => K (.d (.lit (.bool (decide (a ≤ b)))))
  | .gtr => K (.d (.lit (.bool (decide (a > b)))))
  | .geq => K (.d (.lit (.bool (decide (a ≥ b)))))
  | _ => False
def EqAgg (P : Program) (t : TypeId) (n : Nat) : Prop :=
  ∀ (w : World) (xs ys : Array Value) (aS0 bs : List Int), aS0.length = n → bs.length = n → xs = (aS0.map fun x => Value.int .i64 x).toArray → ys = (bs.map fun x => Value.int .i64 x).toArray →
    (∀ op x y, (eqGuard op t x y (.agg xs) (.agg ys)).run P w = .ok () w) ∧ (Op.equal t (.agg xs) (.agg ys)).run P w = .ok (aS0 == bs) w
def svInts : List SV → Option (List Int)
  | [] => some []
  | .d (.lit (.int .i64 n)) :: l => (svInts l).map (n :: ·)
  | _ => none
def yB (P : Program) (op : BinOp) (t : TypeId) (x y : SV) (K : SV → Prop) : Prop :=
  match x, y with
  | .d (.lit (.int k a)), .d (.lit (.int k' b)) =>
    match op with
    | .shl => 0 ≤ b ∧ K (.d (.lit (.int k (k.wrap (a * 2 ^ min b.toNat k.bits)))))
    | .shr => 0 ≤ b ∧ K (.d (.lit (.int k (a.fdiv (2 ^ min b.toNat k.bits)))))
    | op => k = k' ∧ z7 op k a b K
  | .d (.lit (.bool a)), .d (.lit (.bool b)) =>
    P.underlying t = some .bool ∧ match op with
    | .eql => K (.d (.lit (.bool (a == b))))
    | .neq => K (.d (.lit (.bool (!(a == b)))))
    | _ => False
  | .agg xs, .agg ys =>
    ∃ aS0 bs, svInts xs = some aS0 ∧ svInts ys = some bs ∧ aS0.length = bs.length ∧ EqAgg P t aS0.length ∧ match op with
    | .eql => K (.d (.lit (.bool (aS0 == bs))))
    | .neq => K (.d (.lit (.bool (!(aS0 == bs)))))
    | _ => False
  | _, _ => False
def zK (op : UnOp) (x : SV) (K : SV → Prop) : Prop :=
  match op, x with
  | .not, .d (.lit (.bool b)) => K (.d (.lit (.bool (!b))))
  | .neg, .d (.lit (.int k n)) => K (.d (.lit (.int k (k.wrap (0 - n)))))
  | _, _ => False
def zX (P : Program) (s t : TypeId) (x : SV) (K : SV → Prop) : Prop :=
  match x with
  | .d (.lit (.int _ n)) => ∃ k, P.underlying t = some (.int k) ∧ (P.underlying s).isSome ∧ K (.d (.lit (.int k (k.wrap n))))
  | _ => False
def zI (c a b : SV) (K : SV → Prop) : Prop :=
  match c, a, b with
  | .d (.lit (.bool c)), .d (.lit (.bool x)), .d (.lit (.bool false)) => K (.d (.lit (.bool (c && x))))
  | .d (.lit (.bool c)), .whn g (.d (.lit (.bool x))), .d (.lit (.bool false)) => (c = true → g = true) ∧ K (.d (.lit (.bool (c && x))))
  | .d (.lit (.bool c)), .d (.lit (.bool true)), .d (.lit (.bool y)) => K (.d (.lit (.bool (c || y))))
  | .d (.lit (.bool c)), .d (.lit (.bool true)), .whn g (.d (.lit (.bool y))) => (c = false → g = true) ∧ K (.d (.lit (.bool (c || y))))
  | .d (.lit (.bool c)), a, b => K (if c then a else b)
  | _, _, _ => False
def zH (x : SV) (i : Nat) (K : SV → Prop) : Prop :=
  match x with
  | .tup vs => i < vs.length ∧ K (vs.getD i .unk)
  | _ => False
def zR (x : SV) (K : SV → Prop) : Prop :=
  match x with
  | .ptr id i j => K (.ptr id i j)
  | .dp cs => K (.dp cs)
  | .fp cs => K (.fp cs)
  | .clo (.func f) a b => K (.clo (.func f) a b)
  | _ => False
def zA (P : Program) (t : TypeId) (x : SV) (f : Nat) (K : SV → Prop) : Prop :=
  match tfld P t f with
  | some (o, n) => n ≠ 0 ∧ match x with
    | .ptr id i j => K (.ptr id i (j + o))
    | .dp cs => K (.dp (cs.drop o))
    | .fp cs => K (.fp (cs.drop o))
    | _ => False
  | none => False
def yD (P : Program) (t : TypeId) (x : SV) (f : Nat) (K : SV → Prop) : Prop :=
  match P.underlying t with
  | some (.struct fs) => match fs[f]? with
    | some u => match tagg P u.type, tsz P u.type, x with
      | some true, some n, .agg cs => u.offset + n ≤ cs.length ∧ K (.agg ((cs.drop u.offset).take n))
      | some false, some _, .agg cs => u.offset < cs.length ∧ K (cs.getD u.offset .unk)
      | _, _, _ => False
    | none => False
  | _ => False
def z5 (P : Program) (t : TypeId) (x i : SV) (K : SV → Prop) : Prop :=
  match i with
  | .d (.lit (.int _ n)) =>
    match telem P t with
    | some sz => match x with
      | .slc id sz' off len _ => sz' = sz ∧ 0 ≤ n ∧ n < len ∧ K (.ptr id (off + n.toNat) 0)
      | .d (.sl es) => 0 ≤ n ∧ n < es.length ∧ (es.getD n.toNat []).length = sz ∧ K (.dp (es.getD n.toNat []))
      | .dx es => 0 ≤ n ∧ n < es.length ∧ (es.getD n.toNat []).length = sz ∧ K (.dp (es.getD n.toNat []))
      | _ => False
    | none => match tarr P t with
      | some (len, sz) => 0 ≤ n ∧ n < len ∧ match x with
        | .ptr id a b => K (.ptr id a (b + n.toNat * sz))
        | .dp cs => K (.dp (cs.drop (n.toNat * sz)))
        | .fp cs => K (.fp (cs.drop (n.toNat * sz)))
        | _ => False
      | none => False
  | _ => False
def zD (P : Program) (t : TypeId) (x : SV) (hp : HpT) (K : SV → Prop) : Prop :=
  match tagg P t, tsz P t with
  | some ag, some n => match x with
    | .ptr id i j => match hp.lookup id with
      | some (.arr _ es) => i < es.length ∧ match ag with
        | true => j + n ≤ (es.getD i []).length ∧ K (.agg (((es.getD i []).drop j).take n))
        | false => j < (es.getD i []).length ∧ K ((es.getD i []).getD j .unk)
      | _ => False
    | .dp cs => match ag with
      | true => n ≤ cs.length ∧ K (.agg ((cs.take n).map .d))
      | false => 0 < cs.length ∧ K (.d (cs.getD 0 default))
    | .fp cs => match ag with
      | true => n ≤ cs.length ∧ K (.agg (cs.take n))
      | false => 0 < cs.length ∧ K (cs.getD 0 .unk)
    | _ => False
  | _, _ => False
def zL (P : Program) (t : TypeId) (x : SV) (K : SV → Prop) : Prop :=
  match P.underlying t, x with
  | some (.slice _), .slc _ _ _ len _ => K (.d (.lit (.int .i64 len)))
  | some (.slice _), .d (.sl es) => K (.d (.lit (.int .i64 es.length)))
  | some (.slice _), .dx es => K (.d (.lit (.int .i64 es.length)))
  | some .string, .d (.lit (.string s)) => K (.d (.lit (.int .i64 s.size)))
  | some (.array n _), _ => K (.d (.lit (.int .i64 n)))
  | _, _ => False
section
variable {P : Program} {G : Nat → Option (List D)} {O : Nat → Prop} {pb pl : Nat → Option Pl} {w : World} {hp : HpT} {nx : Nat} {ok : Nat → Prop}
theorem getD_at {vs : Array Value} {i : Nat} (h : i < vs.size) : vs[i]? = some (vs.getD i undef) := by
  simp [Array.getD_eq_getD_getElem?, h]
theorem run_binInt {op : BinOp} {t : TypeId} {k : IntKind} {a b : Int} {K : SV → Prop} (hop : op ≠ .shl ∧ op ≠ .shr) (h : z7 op k a b K) :
    ∃ r v, K r ∧ SR pl ok w r v ∧ (binOp op t (.int k a) (.int k b)).run P w = .ok v w := by
  cases op <;> simp only [z7] at h <;> first | exact h.elim | skip
  case quo => exact ⟨_, _, h.2, .d _ _ (.lit _ rfl), by simp [binOp, Op.intDiv, h.1]⟩
  case rem => exact ⟨_, _, h.2, .d _ _ (.lit _ rfl), by simp [binOp, Op.intDiv, h.1]⟩
  all_goals exact ⟨_, _, h, .d _ _ (.lit _ rfl), by simp [binOp, Op.intArith, Op.intBits, Op.intCmp]⟩
theorem svInts_some {pl : Nat → Option Pl} {ok : Nat → Prop} {w : World} : ∀ {xs : List SV} {aS0 : List Int} {vs : Array Value}, svInts xs = some aS0 → vs.size = xs.length →
    (∀ i (hi : i < xs.length), SR pl ok w (xs[i]) (vs.getD i undef)) → vs = (aS0.map fun x => Value.int .i64 x).toArray ∧ aS0.length = xs.length := by
  intro xs aS0 vs h hl hr
  have key : ∀ (xs : List SV) (aS0 : List Int), svInts xs = some aS0 → aS0.length = xs.length ∧ ∀ i (hi : i < xs.length) (hi' : i < aS0.length), xs[i] = .d (.lit (.int .i64 aS0[i])) := by
    intro xs
    induction xs with
    | nil => intro aS0 h; simp [svInts] at h; subst h; exact ⟨rfl, fun i hi => absurd hi (by simp)⟩
    | cons x l ih =>
      intro aS0 h
      unfold svInts at h
      split at h
      · rename_i he; cases he
      · rename_i n l' he
        cases he
        simp only [Option.map_eq_some_iff] at h
        obtain ⟨bs, hb, rfl⟩ := h
        obtain ⟨h1, h2⟩ := ih bs hb
        refine ⟨by simp [h1], fun i hi hi' => ?_⟩
        cases i with
        | zero => rfl
        | succ i => exact h2 i (by simpa using hi) (by simpa using hi')
      · cases h
  obtain ⟨h1, h2⟩ := key xs aS0 h
  refine ⟨?_, h1⟩
  apply Array.ext
  · simp [hl, h1]
  · intro i h3 h4
    have hi : i < xs.length := by omega
    have hr' := hr i hi
    rw [h2 i hi (by omega)] at hr'
    have := hr'.lit
    simp only [Array.getD_eq_getD_getElem?, Array.getElem?_eq_getElem h3, Option.getD_some] at this
    simp [this]
theorem run_equalIn_bool {t : TypeId} (d : Nat) (a b : Bool) (hu : P.underlying t = some .bool) : (Op.equalIn (d + 1) t (.bool a) (.bool b)).run P w = .ok (a == b) w := by
  simp [Op.equalIn, run_underlying hu]
theorem run_exBin {op : BinOp} {t : TypeId} {x y : SV} {vx vy : Value} {K : SV → Prop} (hx : SR pl ok w x vx) (hy : SR pl ok w y vy) (h : yB P op t x y K) (ox oy : Operand) :
    ∃ r v, K r ∧ SR pl ok w r v ∧ ((do eqGuard op t ox oy vx vy; binOp op t vx vy : Sem Value)).run P w = .ok v w := by
  unfold yB at h
  split at h
  · rename_i k a k' b
    cases hx.lit; cases hy.lit
    have hg : (eqGuard op t ox oy (.int k a) (.int k' b)).run P w = .ok () w := by cases op <;> rfl
    simp only [Sem.run_bind, hg, Result.andThen_ok]
    split at h
    · refine ⟨_, _, h.2, .d _ _ (.lit _ rfl), ?_⟩
      have : ¬ b < 0 := by omega
      simp [binOp, Op.shift, this]
    · refine ⟨_, _, h.2, .d _ _ (.lit _ rfl), ?_⟩
      have : ¬ b < 0 := by omega
      simp [binOp, Op.shift, this]
    · rename_i h1 h2
      obtain ⟨rfl, h⟩ := h
      exact run_binInt ⟨h1, h2⟩ h
  · rename_i a b
    cases hx.lit; cases hy.lit
    obtain ⟨hu, h⟩ := h
    have hg : (eqGuard op t ox oy (.bool a) (.bool b)).run P w = .ok () w := by cases op <;> rfl
    simp only [Sem.run_bind, hg, Result.andThen_ok]
    have he : (Op.equal t (.bool a) (.bool b)).run P w = .ok (a == b) w := by
      exact run_equalIn_bool 9999 a b hu
    split at h
    · exact ⟨_, _, h, .d _ _ (.lit _ rfl), by simp [binOp, he]⟩
    · exact ⟨_, _, h, .d _ _ (.lit _ rfl), by simp [binOp, he]⟩
    · exact h.elim
  · rename_i xs ys
    obtain ⟨aS0, bs, h1, h2, hl, heq, h⟩ := h
    cases hx with | agg _ us hul hur =>
    cases hy with | agg _ vs hvl hvr =>
    obtain ⟨e1, l1⟩ := svInts_some h1 hul hur
    obtain ⟨e2, l2⟩ := svInts_some h2 hvl hvr
    obtain ⟨g, e⟩ := heq w us vs aS0 bs rfl hl.symm e1 e2
    simp only [Sem.run_bind, g, Result.andThen_ok]
    split at h
    · exact ⟨_, _, h, .d _ _ (.lit _ rfl), by simp [binOp, e]⟩
    · exact ⟨_, _, h, .d _ _ (.lit _ rfl), by simp [binOp, e]⟩
    · exact h.elim
  · exact h.elim
theorem run_exUn {op : UnOp} {x : SV} {vx : Value} {K : SV → Prop} (hx : SR pl ok w x vx) (h : zK op x K) :
    ∃ r v, K r ∧ SR pl ok w r v ∧ (Op.unary op vx).run P w = .ok v w := by
  unfold zK at h
  split at h
  · cases hx.lit; exact ⟨_, _, h, .d _ _ (.lit _ rfl), by simp [Op.unary]⟩
  · cases hx.lit; exact ⟨_, _, h, .d _ _ (.lit _ rfl), by simp [Op.unary, Op.intArith]⟩
  · exact h.elim
theorem run_exConv {s t : TypeId} {x : SV} {vx : Value} {K : SV → Prop} (hx : SR pl ok w x vx) (h : zX P s t x K) :
    ∃ r v, K r ∧ SR pl ok w r v ∧ (convert s t vx).run P w = .ok v w := by
  unfold zX at h
  split at h
  · rename_i k0 n
    cases hx.lit
    obtain ⟨k, hk, hs, h⟩ := h
    obtain ⟨ds, hds⟩ := Option.isSome_iff_exists.1 hs
    refine ⟨_, _, h, .d _ _ (.lit _ rfl), ?_⟩
    cases ds <;> simp [convert, run_underlying hk, run_underlying hds, Conv.intToInt]
  · exact h.elim
theorem SR.whnT {b : Bool} {s : SV} {v : Value} (h : SR pl ok w (.whn b s) v) (hb : b = true) : SR pl ok w s v := by
  cases h with | whn _ _ _ h _ => exact h hb
theorem run_exPick {c a b : SV} {vc va vb : Value} {K : SV → Prop} (hc : SR pl ok w c vc) (ha : SR pl ok w a va) (hb : SR pl ok w b vb) (h : zI c a b K) :
    ∃ r v, K r ∧ SR pl ok w r v ∧ (do pure (Next.value (if ← asBool vc then va else vb)) : Sem Next).run P w = .ok (.value v) w := by
  unfold zI at h
  split at h
  · cases hc.lit; rename_i c x
    cases ha.lit; cases hb.lit
    cases c
    · exact ⟨_, _, h, .d _ _ (.lit _ rfl), by simp [asBool]⟩
    · exact ⟨_, _, h, .d _ _ (.lit _ rfl), by simp [asBool]⟩
  · cases hc.lit; rename_i c g x
    cases hb.lit
    cases c
    · exact ⟨_, _, h.2, .d _ _ (.lit _ rfl), by simp [asBool]⟩
    · cases (ha.whnT (h.1 rfl)).lit
      exact ⟨_, _, h.2, .d _ _ (.lit _ rfl), by simp [asBool]⟩
  · cases hc.lit; rename_i c y
    cases ha.lit; cases hb.lit
    cases c
    · exact ⟨_, _, h, .d _ _ (.lit _ rfl), by simp [asBool]⟩
    · exact ⟨_, _, h, .d _ _ (.lit _ rfl), by simp [asBool]⟩
  · cases hc.lit; rename_i c g y
    cases ha.lit
    cases c
    · cases (hb.whnT (h.1 rfl)).lit
      exact ⟨_, _, h.2, .d _ _ (.lit _ rfl), by simp [asBool]⟩
    · exact ⟨_, _, h.2, .d _ _ (.lit _ rfl), by simp [asBool]⟩
  · rename_i bb _ _ _ _
    cases hc.lit
    cases bb
    · exact ⟨_, _, h, hb, by simp [asBool]⟩
    · exact ⟨_, _, h, ha, by simp [asBool]⟩
  · exact h.elim
theorem run_exExtract {x : SV} {i : Nat} {vx : Value} {K : SV → Prop} (hx : SR pl ok w x vx) (h : zH x i K) :
    ∃ r v, K r ∧ SR pl ok w r v ∧ (Instr.extract vx i).run P w = .ok v w := by
  unfold zH at h
  split at h
  · rename_i vs
    cases hx with | tup _ us hl hr =>
    have := hr i h.1
    refine ⟨_, _, h.2, ?_, by simp only [Instr.extract, getD_at (show i < us.size by rw [hl]; exact h.1)]; rfl⟩
    simpa [List.getD, h.1] using this
  · exact h.elim
theorem run_fieldPlace_off {B off : Nat} {f : Field} {n : Nat} (hn : tsz P f.type = some n) (h0 : n ≠ 0) :
    (fieldPlace ⟨B, off, none⟩ f).run P w = .ok ⟨B, off + f.offset, none⟩ w := by
  simp [fieldPlace, run_tsz hn, h0, addr_add]
theorem run_exFieldAddr {t : TypeId} {x : SV} {f : Nat} {vx : Value} {K : SV → Prop} (hx : SR pl ok w x vx) (h : zA P t x f K) :
    ∃ r v, K r ∧ SR pl ok w r v ∧ (Instr.fieldAt t vx f).run P w = .ok v w := by
  unfold zA at h
  split at h
  · rename_i o n hf
    obtain ⟨fs, u, hu, hfu, rfl, hn⟩ := tfld_some hf
    obtain ⟨h0, h⟩ := h
    split at h
    · rename_i id i j
      cases hx with | ptr _ _ _ q hq =>
      refine ⟨_, _, h, .ptr id i (j + u.offset) q hq, ?_⟩
      simp [Instr.fieldAt, run_underlying hu, hfu, Instr.sureAddr, run_fieldPlace_off hn h0, Nat.add_assoc]
    · rename_i cs
      cases hx with | dp _ B off g hB hs hw hr =>
      refine ⟨_, .pointer (some ⟨B, off + u.offset, none⟩), h, .dp _ B (off + u.offset) (fun j => g (u.offset + j)) hB hs ?_ ?_, ?_⟩
      · intro j hj
        rw [Nat.add_assoc]
        exact hw _ (by simp at hj; omega)
      · intro j hj
        simp only [List.getElem_drop]
        exact hr _ _
      · simp [Instr.fieldAt, run_underlying hu, hfu, Instr.sureAddr, run_fieldPlace_off hn h0]
    · rename_i cs
      cases hx with | fp _ B off g hB hs hw hr =>
      refine ⟨_, .pointer (some ⟨B, off + u.offset, none⟩), h, SR.fp _ B (off + u.offset) (fun j => g (u.offset + j)) hB hs ?_ ?_, ?_⟩
      · intro j hj
        rw [Nat.add_assoc]
        exact hw _ (by simp at hj; omega)
      · intro j hj
        simp only [List.getElem_drop]
        exact hr _ _
      · simp [Instr.fieldAt, run_underlying hu, hfu, Instr.sureAddr, run_fieldPlace_off hn h0]
    · exact h.elim
  · exact h.elim
theorem run_exField {t : TypeId} {x : SV} {f : Nat} {vx : Value} {K : SV → Prop} (hx : SR pl ok w x vx) (h : yD P t x f K) :
    ∃ r v, K r ∧ SR pl ok w r v ∧ (Instr.field t vx f).run P w = .ok v w := by
  unfold yD at h
  split at h
  · rename_i fs hfs
    split at h
    · rename_i u hu
      split at h
      · rename_i n cs hag hsz
        cases hx with | agg _ us hl hr =>
        refine ⟨_, .agg (us.extract u.offset (u.offset + n)), h.2, .agg _ _ ?_ ?_, ?_⟩
        · simp; omega
        · intro i hi
          simp only [List.getElem_take, List.getElem_drop]
          have hi' : i < n := by simp at hi; omega
          have := hr (u.offset + i) (by omega)
          simp only [Array.getD_eq_getD_getElem?] at this ⊢
          rw [Array.getElem?_extract_of_lt (by omega)]
          rw [Array.getElem?_eq_getElem (show u.offset + i < us.size by omega)] at this
          exact this
        · simp [Instr.field, run_underlying hfs, hu, part, run_tagg hag, run_tsz hsz, asAgg]
      · rename_i n cs hag hsz
        cases hx with | agg _ us hl hr =>
        refine ⟨_, us.getD u.offset undef, h.2, ?_, ?_⟩
        · simpa [List.getD, h.1] using hr u.offset h.1
        · simp only [Instr.field, Sem.run_bind, run_underlying hfs, Result.andThen_ok, hu, asAgg, Sem.run_pure, part, run_tagg hag]
          simp [Array.getD_eq_getD_getElem?, show u.offset < us.size by omega]
      · exact h.elim
    · exact h.elim
  · exact h.elim
theorem DR.index {es : List (List D)} {v : Value} (h : DR ok w (.sl es) v) {n : Nat} (hn : n < es.length) :
    ∃ B off cap sz, v = .slice (some ⟨B, off, none⟩) es.length cap ∧ (es[n]).length = sz ∧ SR pl ok w (.dp (es[n])) (.pointer (some ⟨B, off + n * sz, none⟩)) := by
  cases h with
  | nil a cap => simp at hn
  | sl sz _ B off cap f hB hs hc hz hw hr =>
    refine ⟨B, off, cap, sz, rfl, hz n hn, .dp _ B (off + n * sz) (fun j => f n j) hB hs ?_ ?_⟩
    · intro j hj
      rw [Nat.add_assoc]
      exact hw n hn j hj
    · intro j hj
      exact hr n hn j hj
theorem run_exIndexAddr {t : TypeId} {x i : SV} {vx vi : Value} {K : SV → Prop} (hx : SR pl ok w x vx) (hi : SR pl ok w i vi) (h : z5 P t x i K) :
    ∃ r v, K r ∧ SR pl ok w r v ∧ (Instr.indexAt t vx vi).run P w = .ok v w := by
  unfold z5 at h
  split at h
  · rename_i k n
    cases hi.lit
    split at h
    · rename_i sz htl
      obtain ⟨e, hu, hsz⟩ := telem_some htl
      split at h
      · rename_i id sz' off len cap
        obtain ⟨rfl, h0, hlt, h⟩ := h
        cases hx with
        | slc _ _ _ _ _ cap' q hq hqs hc hc' ht =>
          refine ⟨_, _, h, .ptr id _ 0 q hq, ?_⟩
          simp [Instr.indexAt, asIntOf, run_underlying hu, h0, hlt, run_tsz hsz, addr_add, hqs, Nat.add_mul]
        | slc0 _ _ _ _ _ q hq hqs ht h1 h2 h3 a => omega
      · rename_i es
        obtain ⟨h0, hlt, hl, h⟩ := h
        have hn : n.toNat < es.length := by omega
        cases hx with | d _ _ hd =>
        obtain ⟨B, off, cap, sz', rfl, hs', hr⟩ := hd.index (pl := pl) hn
        have he : es.getD n.toNat [] = es[n.toNat] := by simp [List.getD, hn]
        rw [he] at h hl
        refine ⟨_, _, h, hr, ?_⟩
        have : sz' = sz := by omega
        subst this
        simp [Instr.indexAt, asIntOf, run_underlying hu, h0, hlt, run_tsz hsz, addr_add]
      · rename_i es
        obtain ⟨h0, hlt, hl, h⟩ := h
        have hn : n.toNat < es.length := by omega
        cases hx with | dx _ a hd =>
        obtain ⟨B, off, cap, sz', he0, hs', hr⟩ := hd.index (pl := pl) hn
        cases he0
        have he : es.getD n.toNat [] = es[n.toNat] := by simp [List.getD, hn]
        rw [he] at h hl
        refine ⟨_, _, h, hr, ?_⟩
        have : sz' = sz := by omega
        subst this
        simp [Instr.indexAt, asIntOf, run_underlying hu, h0, hlt, run_tsz hsz, addr_add]
      · exact h.elim
    · split at h
      · rename_i len sz hta
        obtain ⟨e, hu, hsz⟩ := tarr_some hta
        obtain ⟨h0, hlt, h⟩ := h
        split at h
        · rename_i id a b
          cases hx with | ptr _ _ _ q hq =>
          refine ⟨_, _, h, .ptr id a _ q hq, ?_⟩
          simp [Instr.indexAt, asIntOf, run_underlying hu, Instr.sureAddr, h0, hlt, run_tsz hsz, addr_add, Nat.add_assoc]
        · rename_i cs
          cases hx with | dp _ B off g hB hs hw hr =>
          refine ⟨_, .pointer (some ⟨B, off + n.toNat * sz, none⟩), h, .dp _ B _ (fun j => g (n.toNat * sz + j)) hB hs ?_ ?_, ?_⟩
          · intro j hj
            rw [Nat.add_assoc]
            exact hw _ (by simp at hj; omega)
          · intro j hj
            simp only [List.getElem_drop]
            exact hr _ _
          · simp [Instr.indexAt, asIntOf, run_underlying hu, Instr.sureAddr, h0, hlt, run_tsz hsz, addr_add]
        · rename_i cs
          cases hx with | fp _ B off g hB hs hw hr =>
          refine ⟨_, .pointer (some ⟨B, off + n.toNat * sz, none⟩), h, SR.fp _ B _ (fun j => g (n.toNat * sz + j)) hB hs ?_ ?_, ?_⟩
          · intro j hj
            rw [Nat.add_assoc]
            exact hw _ (by simp at hj; omega)
          · intro j hj
            simp only [List.getElem_drop]
            exact hr _ _
          · simp [Instr.indexAt, asIntOf, run_underlying hu, Instr.sureAddr, h0, hlt, run_tsz hsz, addr_add]
        · exact h.elim
      · exact h.elim
  · exact h.elim
theorem run_loadVar_agg {t : TypeId} {n B off : Nat} {f : Nat → Value} (ha : tagg P t = some true) (hn : tsz P t = some n)
    (h : ∀ j, j < n → w.cell? ⟨B, off + j, none⟩ = some (f j)) : (loadVar t ⟨B, off, none⟩).run P w = .ok (.agg ((List.range n).map f).toArray) w := by
  have := run_loadCells (P := P) w ⟨B, off, none⟩ n f (fun j hj => by rw [addr_add]; exact h j hj)
  simp [loadVar, run_tagg ha, run_tsz hn, this]
theorem run_loadVar_one {t : TypeId} {B off : Nat} {v : Value} (ha : tagg P t = some false) (h : w.cell? ⟨B, off, none⟩ = some v) :
    (loadVar t ⟨B, off, none⟩).run P w = .ok v w := by
  simp [loadVar, run_tagg ha, h]
theorem lookup_mem {α : Type} {l : List (Nat × α)} {k : Nat} {x : α} (h : l.lookup k = some x) : (k, x) ∈ l := by
  induction l with
  | nil => cases h
  | cons p l ih =>
    obtain ⟨k', y⟩ := p
    simp only [List.lookup_cons] at h
    split at h
    · rename_i he
      have hk : k = k' := by simpa using he
      cases h; subst hk; exact List.mem_cons_self
    · exact List.mem_cons_of_mem _ (ih h)
theorem HS.cells {id sz : Nat} {es : List (List SV)} (hs : HS G O pb pl w hp nx) (h : hp.lookup id = some (.arr sz es)) {q : Pl} (hq : pl id = some q) {i : Nat} (hi : i < es.length) :
    q.sz = sz ∧ ∃ c e, w.heap[q.blk]? = some (.cells c e (0, 0)) ∧ c.size = q.tot ∧ (es[i]).length = sz ∧ (i + 1) * sz ≤ q.tot ∧
      ∀ j (hj : j < (es[i]).length), SR pl (okOf O pl hp) w ((es[i])[j]) (c.getD (i * sz + j) undef) ∧ w.cell? ⟨q.blk, i * q.sz + j, none⟩ = some (c.getD (i * sz + j) undef) := by
  obtain ⟨q', hq', _, ho⟩ := hs.obj _ (lookup_mem h)
  simp only at hq' ho
  rw [hq] at hq'
  cases hq'
  cases ho with
  | vac h => simp at hi
  | arr _ c e hne hc ht hn hz hr =>
    have hle : (i + 1) * q.sz ≤ q.tot := Nat.le_trans (Nat.mul_le_mul_right _ hi) hn
    refine ⟨rfl, c, e, hc, ht, hz i hi, hle, fun j hj => ⟨hr i hi j hj, ?_⟩⟩
    have hj' := hz i hi
    have : i * q.sz + j < c.size := by rw [ht]; rw [Nat.add_mul] at hle; omega
    simp [World.cell?, hc, Array.getD_eq_getD_getElem?, this]
theorem run_exLoad {t : TypeId} {x : SV} {vx : Value} {K : SV → Prop} (hs : HS G O pb pl w hp nx) (hx : SR pl (okOf O pl hp) w x vx) (h : zD P t x hp K) :
    ∃ r v, K r ∧ SR pl (okOf O pl hp) w r v ∧ (Instr.loadAt t vx).run P w = .ok v w := by
  unfold zD at h
  split at h
  · rename_i ag n hag hn
    split at h
    · rename_i id i j
      cases hx with | ptr _ _ _ q hq =>
      split at h
      · rename_i sz es hl
        obtain ⟨hi, h⟩ := h
        have he : es.getD i [] = es[i] := by simp [List.getD, hi]
        rw [he] at h
        obtain ⟨hsz, c, e, hc, ht, hz, hle, hr⟩ := hs.cells hl hq hi
        cases ag with
        | true =>
          obtain ⟨hj, h⟩ := h
          refine ⟨_, .agg ((List.range n).map fun m => c.getD (i * sz + (j + m)) undef).toArray, h, .agg _ _ (by simp; omega) ?_, ?_⟩
          · intro m hm
            have hm' : m < n := by simp at hm; omega
            have := (hr (j + m) (by omega)).1
            simpa [List.getElem_take, List.getElem_drop, Array.getD_eq_getD_getElem?, hm'] using this
          · simp only [Instr.loadAt, Instr.sureAddr, Sem.run_bind, Sem.run_pure, Result.andThen_ok]
            exact run_loadVar_agg hag hn fun m hm => by rw [Nat.add_assoc]; exact (hr (j + m) (by omega)).2
        | false =>
          obtain ⟨hj, h⟩ := h
          refine ⟨_, c.getD (i * sz + j) undef, h, ?_, ?_⟩
          · simpa [List.getD, hj] using (hr j hj).1
          · simp only [Instr.loadAt, Instr.sureAddr, Sem.run_bind, Sem.run_pure, Result.andThen_ok]
            exact run_loadVar_one hag (hr j hj).2
      · exact h.elim
    · rename_i cs
      cases hx with | dp _ B off f hB hs' hw hr =>
      cases ag with
      | true =>
        obtain ⟨hle, h⟩ := h
        refine ⟨_, _, h, .agg _ ((List.range n).map f).toArray (by simp; omega) ?_, ?_⟩
        · intro m hm
          have hm' : m < n := by simp at hm; omega
          have := hr m (by omega)
          simp only [List.getElem_map, List.getElem_take, Array.getD_eq_getD_getElem?]
          simpa [hm'] using SR.d _ _ this
        · simp only [Instr.loadAt, Instr.sureAddr, Sem.run_bind, Sem.run_pure, Result.andThen_ok]
          exact run_loadVar_agg hag hn fun m hm => hw m (by omega)
      | false =>
        obtain ⟨hlt, h⟩ := h
        refine ⟨_, f 0, h, ?_, ?_⟩
        · have := hr 0 hlt
          simpa [List.getD, hlt] using SR.d _ _ this
        · simp only [Instr.loadAt, Instr.sureAddr, Sem.run_bind, Sem.run_pure, Result.andThen_ok]
          exact run_loadVar_one hag (by simpa using hw 0 hlt)
    · rename_i cs
      cases hx with | fp _ B off f hB hs' hw hr =>
      cases ag with
      | true =>
        obtain ⟨hle, h⟩ := h
        refine ⟨_, _, h, .agg _ ((List.range n).map f).toArray (by simp; omega) ?_, ?_⟩
        · intro m hm
          have hm' : m < n := by simp at hm; omega
          have := hr m (by omega)
          simp only [List.getElem_take, Array.getD_eq_getD_getElem?]
          simpa [hm'] using this
        · simp only [Instr.loadAt, Instr.sureAddr, Sem.run_bind, Sem.run_pure, Result.andThen_ok]
          exact run_loadVar_agg hag hn fun m hm => hw m (by omega)
      | false =>
        obtain ⟨hlt, h⟩ := h
        refine ⟨_, f 0, h, ?_, ?_⟩
        · have := hr 0 hlt
          simpa [List.getD, hlt] using this
        · simp only [Instr.loadAt, Instr.sureAddr, Sem.run_bind, Sem.run_pure, Result.andThen_ok]
          exact run_loadVar_one hag (by simpa using hw 0 hlt)
    · exact h.elim
  · exact h.elim
theorem DR.len {es : List (List D)} {v : Value} (h : DR ok w (.sl es) v) : ∃ a cap, v = .slice a es.length cap := by
  cases h with
  | nil a cap => exact ⟨a, cap, rfl⟩
  | sl sz _ B off cap f hB hs hc hz hw hr => exact ⟨_, cap, rfl⟩
theorem run_exLen {t u : TypeId} {x : SV} {vx : Value} {K : SV → Prop} (hx : SR pl ok w x vx) (h : zL P t x K) :
    ∃ r v, K r ∧ SR pl ok w r v ∧ (Builtin.len_ #[t] u #[vx]).run P w = .ok v w := by
  unfold zL at h
  split at h
  · rename_i e _ _ _ len _ hu
    cases hx with
    | slc _ _ _ _ _ cap' q hq hqs hc hc' ht => exact ⟨_, _, h, .d _ _ (.lit _ rfl), by simp [Builtin.len_, run_underlying hu, goInt]⟩
    | slc0 _ _ _ _ _ q hq hqs ht h1 h2 h3 a => subst h2; exact ⟨_, _, h, .d _ _ (.lit _ rfl), by simp [Builtin.len_, run_underlying hu, goInt]⟩
  · rename_i e es hu
    cases hx with | d _ _ hd =>
    obtain ⟨a, cap, rfl⟩ := hd.len
    exact ⟨_, _, h, .d _ _ (.lit _ rfl), by simp [Builtin.len_, run_underlying hu, goInt]⟩
  · rename_i e es hu
    cases hx with | dx _ a hd =>
    exact ⟨_, _, h, .d _ _ (.lit _ rfl), by simp [Builtin.len_, run_underlying hu, goInt]⟩
  · rename_i s hu
    cases hx.lit
    exact ⟨_, _, h, .d _ _ (.lit _ rfl), by simp [Builtin.len_, run_underlying hu, goInt]⟩
  · rename_i n e hu
    exact ⟨_, _, h, .d _ _ (.lit _ rfl), by simp [Builtin.len_, run_underlying hu, goInt]⟩
  · exact h.elim
end
end Go.Sy
