/- Lemmas, part ZGE. Conditions: none. -/
import Derived.Test.YtijechcadlklhaaGreatZGD
set_option linter.unusedVariables false
namespace Go.Sy
section
variable {P : Program} {G : Nat → Option (List D)} {O : Nat → Prop} {pb pl pl' : Nat → Option Pl} {w w' : World} {hp hp' : HpT} {nx nx' : Nat} {ok ok' : Nat → Prop}
def yH (P : Program) (t : TypeId) (x : SV) (hp : HpT) (K : HpT → Prop) : Prop :=
  match telem P t, tez P t with
  | some 1, some [z] => z.one = true ∧ match x with
    | .slc id sz' off len _ => sz' = 1 ∧ match hp.lookup id with
      | some (.arr sz es) => off + len ≤ es.length ∧ K (upd hp id (.arr sz (es.take off ++ List.replicate len [z] ++ es.drop (off + len))))
      | _ => False
    | _ => False
  | _, _ => False
theorem clear_rows {es : List (List SV)} {off len : Nat} {z : SV} (h : off + len ≤ es.length) (i : Nat) :
    (es.take off ++ List.replicate len [z] ++ es.drop (off + len))[i]? = if off ≤ i ∧ i < off + len then some [z] else es[i]? := by
  rw [List.append_assoc]
  by_cases h1 : i < off
  · rw [if_neg (by omega), List.getElem?_append_left (by simp; omega), List.getElem?_take, if_pos h1]
  · rw [List.getElem?_append_right (by simp; omega)]
    have e : (es.take off).length = off := by simp; omega
    rw [e]
    by_cases h2 : i < off + len
    · rw [if_pos ⟨by omega, h2⟩, List.getElem?_append_left (by simp; omega), List.getElem?_replicate, if_pos (by omega)]
    · rw [if_neg (by omega), List.getElem?_append_right (by simp; omega), List.length_replicate, List.getElem?_drop]
      congr 1
      omega
theorem run_exClear {t u : TypeId} {x : SV} {vx : Value} {K : HpT → Prop} (hs : HS G O pb pl w hp nx) (hx : SR pl (okOf O pl hp) w x vx) (h : yH P t x hp K) :
    ∃ v w' hp', (Builtin.clear_ #[t] u #[vx]).run P w = .ok v w' ∧ K hp' ∧ HS G O pb pl w' hp' nx ∧ Step (ownOf pl hp) (ownOf pl hp') w w' := by
  unfold yH at h
  split at h
  · rename_i z htl htz
    obtain ⟨e, hu, hesz⟩ := telem_some htl
    have hz0 : tzero P e = some [z] := by simpa [tez, hu] using htz
    obtain ⟨i, zv, hi, hzv, hzc⟩ := tzero_some hz0
    have hzs : zv.cells.size = 1 := by
      have := congrArg List.length hzc
      simpa using this.symm
    have hzz : (zeroValue e).run P w = .ok zv w := by simp [zeroValue, run_typeInfo w hi, hzv]
    have hzr : SR pl (okOf O pl hp) w z (zv.cells.getD 0 undef) := by
      have := zeroCells_rel (pl := pl) (ok := okOf O pl hp) (w := w) zv 0 (by simp [hzs])
      simpa [← hzc] using this
    obtain ⟨hzone, h⟩ := h
    split at h
    · rename_i id sz' off len cap
      obtain ⟨rfl, h⟩ := h
      split at h
      · rename_i sz es hl
        obtain ⟨hle, hK⟩ := h
        obtain ⟨q', hq', hlt, ho⟩ := hs.obj _ (lookup_mem hl)
        simp only at hq' ho
        have none0 : len = 0 → ∀ a cap', vx = .slice a 0 cap' → ∃ v w' hp', (Builtin.clear_ #[t] u #[vx]).run P w = .ok v w' ∧ K hp' ∧ HS G O pb pl w' hp' nx ∧ Step (ownOf pl hp) (ownOf pl hp') w w' := by
          intro h0 a cap' hv
          subst h0 hv
          have e0 : es.take off ++ List.replicate 0 [z] ++ es.drop (off + 0) = es := by simp
          rw [e0] at hK
          have hup : upd hp id (.arr sz es) = hp := by
            have : ∀ (l : HpT), l.lookup id = some (.arr sz es) → upd l id (.arr sz es) = l := by
              intro l
              induction l with
              | nil => intro h; simp at h
              | cons p l ih =>
                obtain ⟨k, o⟩ := p
                intro h
                unfold upd
                by_cases hk : k = id
                · subst hk
                  rw [if_pos rfl]
                  simp only [List.lookup_cons, beq_self_eq_true] at h
                  cases h; rfl
                · rw [if_neg hk]
                  have hb : (id == k) = false := by simpa using Ne.symm hk
                  simp only [List.lookup_cons, hb] at h
                  rw [ih h]
            exact this hp hl
          rw [hup] at hK
          refine ⟨.tuple #[], w, hp, ?_, hK, hs, .refl _ _⟩
          cases a <;> simp [Builtin.clear_, run_underlying hu, Result.andThen]
        cases hx with
        | slc0 _ _ _ _ _ q hq hsz ht h1 h2 h3 a => exact none0 h2 a 0 rfl
        | slc _ _ _ _ _ cap' q hq hsz hc hc' ht =>
          by_cases h0 : len = 0
          · exact none0 h0 _ cap' (by rw [h0])
          · rw [hq] at hq'
            have hqq := Option.some.inj hq'
            subst hqq
            cases ho with
            | vac hv0 => simp at hle; omega
            | arr _ c ec hne hc0 hct hn hz hr =>
              have hO1 := hsz.symm
              rw [Nat.mul_one]
              have hrun := run_storeCells_at P q.blk off ec (Builtin.zeroCells zv.cells len).toList 0 c w hc0 (by simp [size_zeroCells, hzs]; rw [← hO1] at hn; omega) (by
                intro v hv
                simp only [Builtin.zeroCells, Array.toList_map, List.mem_map] at hv
                obtain ⟨k, hk, rfl⟩ := hv
                have hk0 : k % zv.cells.size < zv.cells.size := Nat.mod_lt _ (by omega)
                have : k % zv.cells.size = 0 := by omega
                rw [this]
                have e1 : zv.cells[0]! = zv.cells.getD 0 undef := by
                  have : 0 < zv.cells.size := by omega
                  simp [Array.getD_eq_getD_getElem?, this]
                rw [e1]
                exact hzr.oneCell hzone)
              rw [Nat.add_zero] at hrun
              have hrow := setRow_heap w q.blk c (c.toList.take off ++ (Builtin.zeroCells zv.cells len).toList ++ c.toList.drop (off + (Builtin.zeroCells zv.cells len).toList.length)).toArray ec (0, 0) hc0
              have hzl : (Builtin.zeroCells zv.cells len).toList.length = len := by simp [size_zeroCells, hzs]
              obtain ⟨g1, g2⟩ := hs.write (o := .arr q.sz (es.take off ++ List.replicate len [z] ++ es.drop (off + len))) (w' := w.setRow q.blk (c.toList.take off ++ (Builtin.zeroCells zv.cells len).toList ++ c.toList.drop (off + (Builtin.zeroCells zv.cells len).toList.length)).toArray) ⟨_, lookup_mem hl⟩ hq hne (by simp) (fun B hB => setRow_other w q.blk B _ hB) rfl rfl (fun ext => by
                have hgoal : ObjR pl (okOf O pl (upd hp id (.arr q.sz (es.take off ++ List.replicate len [z] ++ es.drop (off + len))))) (w.setRow q.blk (c.toList.take off ++ (Builtin.zeroCells zv.cells len).toList ++ c.toList.drop (off + (Builtin.zeroCells zv.cells len).toList.length)).toArray) q (.arr q.sz (es.take off ++ List.replicate len [z] ++ es.drop (off + len))) := by
                  have hlen : (es.take off ++ List.replicate len [z] ++ es.drop (off + len)).length = es.length := by simp; omega
                  refine .arr _ _ ec hne hrow (by simp [size_zeroCells, hzs]; rw [← hO1] at hn; omega) (by rw [hlen]; exact hn) (fun i hi => ?_) fun i hi j hj => ?_
                  · have hg := clear_rows (z := z) hle i
                    rw [List.getElem?_eq_getElem hi] at hg
                    split at hg
                    · rw [Option.some.inj hg, hsz]; rfl
                    · rw [List.getElem?_eq_getElem (show i < es.length by omega)] at hg
                      rw [Option.some.inj hg]
                      exact hz i (by omega)
                  · have hg := clear_rows (z := z) hle i
                    rw [List.getElem?_eq_getElem hi] at hg
                    have hidx : i * q.sz + j = i + j := by rw [hsz, Nat.mul_one]
                    simp only [hidx]
                    rw [splice_getD c off _ (by rw [hzl, hct]; rw [hsz] at hn; omega)]
                    split at hg
                    · rename_i hin
                      have hg' := Option.some.inj hg
                      simp only [hg'] at hj ⊢
                      have hj0 : j = 0 := by simpa using hj
                      subst hj0
                      rw [if_pos (by rw [hzl]; omega)]
                      have : (Builtin.zeroCells zv.cells len).toList.getD (i + 0 - off) undef = zv.cells.getD 0 undef := by
                        have hlt2 : i - off < len := by omega
                        have h1 : 0 < zv.cells.size := by omega
                        simp [Builtin.zeroCells, List.getD_eq_getElem?_getD, hzs, hlt2, Array.getD_eq_getD_getElem?, Nat.mod_one]
                      rw [this]
                      exact hzr.ext ext (fun _ _ h => h)
                    · rename_i hout
                      rw [List.getElem?_eq_getElem (show i < es.length by omega)] at hg
                      have hg' := Option.some.inj hg
                      simp only [hg'] at hj ⊢
                      have hjz := hz i (by omega)
                      have hj0 : j = 0 := by omega
                      subst hj0
                      rw [if_neg (by rw [hzl]; omega)]
                      have := (hr i (by omega) 0 hj).ext ext (fun _ _ h => h)
                      rw [hidx] at this
                      exact this
                exact hgoal)
              refine ⟨.tuple #[], _, _, ?_, hK, g1, g2⟩
              obtain ⟨len', rfl⟩ : ∃ len', len = len' + 1 := ⟨len - 1, by omega⟩
              have : (Builtin.clear_ #[t] u #[.slice (some ⟨q.blk, off, none⟩) (len' + 1) cap']).run P w = ((storeCells ⟨q.blk, off, none⟩ (Builtin.zeroCells zv.cells (len' + 1)).toList).run P w).andThen fun _ w' => .ok (.tuple #[]) w' := by
                simp [Builtin.clear_, run_underlying hu, hzz, Result.andThen]
              rw [this, hrun]; rfl
      · exact h.elim
    · exact h.elim
  · exact h.elim
def RoundH (P : Program) (G : Nat → Option (List D)) (l : Nat) (args : List SV) (hp : HpT) (nx : Nat) (K : KT) : Prop :=
  ∀ (O : Nat → Prop) (pb pl : Nat → Option Pl) (w : World) (vs : Array Value) (q : Pl), HS G O pb pl w hp nx → vs.size = args.length → (∀ i (h : i < args.length), SR pl (okOf O pl hp) w (args[i]) (vs.getD i undef)) → pl l = some q →
    ∃ f tmps assign body, (Instr.yield q.blk vs).run P w = .ok (.round q.blk f tmps assign body) w ∧
      RoundIn Fence.wide 0 P q.blk f tmps assign body w fun e w' => ∃ v, e = .returned v ∧ Fin G O pb pl w hp K v w'
end
end Go.Sy
namespace Go.Sy
def okFn (P : Program) (f : FuncId) : Bool := match P.funcs[f]? with | some fn => !(fn.name == "runtime.NumGoroutine") && fn.body.isSome | none => false
def CallH (P : Program) (G : Nat → Option (List D)) (f : FuncId) (args : List SV) (hp : HpT) (nx : Nat) (K : KT) : Prop :=
  okFn P f = true ∧ ∀ (O : Nat → Prop) (pb pl : Nat → Option Pl) (w : World) (vs : Array Value), HS G O pb pl w hp nx → vs.size = args.length → (∀ i (h : i < args.length), SR pl (okOf O pl hp) w (args[i]) (vs.getD i undef)) →
    CallsIn Fence.wide 0 P f vs w fun e w' => ∃ v, e = .returned v ∧ Fin G O pb pl w hp K v w'
def CallP (P : Program) (G : Nat → Option (List D)) (f : FuncId) (args : List SV) (r : SV) : Prop :=
  okFn P f = true ∧ ∀ (O : Nat → Prop) (pl : Nat → Option Pl) (w : World) (vs : Array Value), (∀ B, O B → B < w.heap.size) → (∀ g cs, G g = some cs → SR pl (fun B => ¬ O B) w (.dp cs) (.pointer (some ⟨g, 0, none⟩))) →
    vs.size = args.length → (∀ i (h : i < args.length), SR pl (fun B => ¬ O B) w (args[i]) (vs.getD i undef)) →
    CallsIn Fence.wide 0 P f vs w fun e w' => ∃ v, e = .returned v ∧ SR pl (fun B => ¬ O B) w' r v ∧ Add w w'
section
variable {P : Program} {G : Nat → Option (List D)} {O : Nat → Prop} {pb pl pl' : Nat → Option Pl} {w w' : World} {hp hp' : HpT} {nx nx' : Nat} {ok ok' : Nat → Prop}
theorem run_callFunc {f : FuncId} {args : Array Value} (h : okFn P f = true) : (callFunc f args).run P w = .ok (.enter f args) w := by
  unfold okFn at h
  unfold callFunc
  split at h
  · rename_i fn hfn
    simp only [Bool.and_eq_true, Bool.not_eq_true'] at h
    have h1 : fn.name ≠ "runtime.NumGoroutine" := by simpa using h.1
    have h2 : fn.body ≠ none := by
      intro hb
      rw [hb] at h
      simp at h
    simp [program, Sem.run, Sem.bind, bind, hfn, h1, h2]
    try simp [pure, Sem.run]
  · cases h
theorem CallH.mono {f : FuncId} {args : List SV} {K K' : KT} (h : CallH P G f args hp nx K) (hk : ∀ r hp' nx', K r hp' nx' → K' r hp' nx') : CallH P G f args hp nx K' :=
  ⟨h.1, fun O pb pl w vs hs hl hr => (h.2 O pb pl w vs hs hl hr).mono fun _ _ ⟨v, e, pl', r, hp', nx', hK, rest⟩ => ⟨v, e, pl', r, hp', nx', hk _ _ _ hK, rest⟩⟩
theorem okO (O : Nat → Prop) (pl : Nat → Option Pl) (hp : HpT) (w : World) : Ext (okOf O pl hp) w (fun B => ¬ (O B ∨ ownOf pl hp B)) w :=
  Ext.weak fun B _ h => fun hc => hc.elim h.1 h.2
theorem okO' (O : Nat → Prop) (pl : Nat → Option Pl) (hp : HpT) (w : World) : Ext (fun B => ¬ (O B ∨ ownOf pl hp B)) w (okOf O pl hp) w :=
  Ext.weak fun B _ h => ⟨fun hO => h (.inl hO), fun ho => h (.inr ho)⟩
theorem HS.own_lt (hs : HS G O pb pl w hp nx) {B : Nat} (h : ownOf pl hp B) : B < w.heap.size := by
  obtain ⟨p, h1, q, h2, h3, rfl⟩ := h
  obtain ⟨q', g1, g2, _⟩ := hs.obj p h1
  rw [h2] at g1; cases g1
  exact (g2 h3).1
theorem CallP.use {f : FuncId} {args : List SV} {r : SV} (h : CallP P G f args r) {K : KT} (hK : K r hp nx) : CallH P G f args hp nx K := by
  refine ⟨h.1, fun O pb pl w vs hs hl hr => ?_⟩
  refine (h.2 (fun B => O B ∨ ownOf pl hp B) pl w vs (fun B hB => hB.elim (hs.old B) hs.own_lt) (fun g cs hg => (hs.glob g cs hg).ext (okO O pl hp w) fun _ _ h => h) hl
    (fun i hi => (hr i hi).ext (okO O pl hp w) fun _ _ h => h)).mono ?_
  rintro e w' ⟨v, rfl, hv, ha⟩
  exact ⟨v, rfl, pl, r, hp, nx, hK, hs.add ha, hv.ext (okO' O pl hp w') (fun _ _ h => h), ha.step, fun _ _ h => h⟩
def zB (P : Program) (G : Nat → Option (List D)) (c : Call) (ρ : Operand → SV) (hp : HpT) (nx : Nat) (K : KT) : Prop :=
  match c.callee with
  | .value f => match ρ f with
    | .clo (.func fid) first cap => CallH P G fid (first ++ c.args.toList.map ρ ++ cap) hp nx K
    | .yld l => RoundH P G l (c.args.toList.map ρ) hp nx K
    | _ => False
  | .builtin .clear => match c.argTypes.toList, c.args.toList with
    | [t], [x] => yH P t (ρ x) hp fun hp' => K .unk hp' nx
    | _, _ => False
  | .builtin .len => match c.argTypes.toList, c.args.toList with
    | [t], [x] => zL P t (ρ x) fun r => K r hp nx
    | _, _ => False
  | .builtin .append => match c.argTypes.toList, c.args.toList with
    | [t, t'], [s, x] => zQ P t t' (ρ s) (ρ x) hp nx K
    | _, _ => False
  | .builtin .max => yJ true (c.args.toList.map ρ) fun r => K r hp nx
  | .builtin .min => yJ false (c.args.toList.map ρ) fun r => K r hp nx
  | _ => False
def exq (P : Program) (G : Nat → Option (List D)) (o : Oper) (ρ : Operand → SV) (hp : HpT) (nx : Nat) (K : KT) : Prop :=
  match o.op with
  | .move x => K (ρ x) hp nx
  | .assign x => K (ρ x) hp nx
  | .pick c a b => zI (ρ c) (ρ a) (ρ b) fun r => K r hp nx
  | .binOp op t a b _ => yB P op t (ρ a) (ρ b) fun r => K r hp nx
  | .unOp op _ a => zK op (ρ a) fun r => K r hp nx
  | .convert s t x => zX P s t (ρ x) fun r => K r hp nx
  | .extract x i => zH (ρ x) i fun r => K r hp nx
  | .makeFunc fn first cap => K (.clo fn (first.toList.map ρ) (cap.toList.map ρ)) hp nx
  | .nilCheck x => zR (ρ x) fun r => K r hp nx
  | .fieldAddr t x f => zA P t (ρ x) f fun r => K r hp nx
  | .field t x f => yD P t (ρ x) f fun r => K r hp nx
  | .indexAddr t x i => z5 P t (ρ x) (ρ i) fun r => K r hp nx
  | .slice t x lo hi mx => zV P t (ρ x) (lo.map ρ) (hi.map ρ) (mx.map ρ) fun r => K r hp nx
  | .load t x => zD P t (ρ x) hp fun r => K r hp nx
  | .store t x v => yC P t (ρ x) (ρ v) hp fun hp' => K .unk hp' nx
  | .alloc t => zN P t hp nx K
  | .box _ v => zM (ρ v) hp nx K
  | .build t parts => zO P t (parts.toList.map fun p => (p.1, ρ p.2)) fun r => K r hp nx
  | .buildSlice t len parts => zG P t len (parts.toList.map fun p => (p.1, ρ p.2)) hp nx K
  | .makeSlice t l c => z6 P t (ρ l) (ρ c) hp nx K
  | .makeMap _ none => K (.mapr nx) ((nx, .map []) :: hp) (nx + 1)
  | .lookup t x i ok => zW P t (ρ x) (ρ i) ok hp fun r => K r hp nx
  | .mapUpdate t m k v => zU P t (ρ m) (ρ k) (ρ v) hp fun hp' => K .unk hp' nx
  | .insert t m k v => zU P t (ρ m) (ρ k) (ρ v) hp fun hp' => K .unk hp' nx
  | .range t x => yG P t (ρ x) hp nx K
  | .next x false => yQ (ρ x) hp fun r hp' => K r hp' nx
  | .entry x => yA (ρ x) hp fun r => K r hp nx
  | .call c => zB P G c ρ hp nx K
  | _ => False
theorem RunOp.value {o : Oper} {ρ : Operand → Value} {K : Value → World → Prop} {v : Value} (h : (execOp ρ o).run P w = .ok (.value v) w') (hK : K v w') : RunOp P o ρ w K := by
  unfold RunOp; rw [h]; exact hK
theorem RunOp.skip {o : Oper} {ρ : Operand → Value} {K : Value → World → Prop} (h : (execOp ρ o).run P w = .ok .skip w') (hK : K undef w') : RunOp P o ρ w K := by
  unfold RunOp; rw [h]; exact hK
theorem listR {ρ : Operand → SV} {ρc : Operand → Value} (hρ : ∀ x, SR pl ok w (ρ x) (ρc x)) (l : Array Operand) :
    (l.map ρc).size = (l.toList.map ρ).length ∧ ∀ i (h : i < (l.toList.map ρ).length), SR pl ok w ((l.toList.map ρ)[i]) ((l.map ρc).getD i undef) := by
  refine ⟨by simp, fun i hi => ?_⟩
  have hi' : i < l.size := by simpa using hi
  simp only [List.getElem_map, Array.getElem_toList, Array.getD_eq_getD_getElem?, Array.getElem?_map, Array.getElem?_eq_getElem hi', Option.map_some, Option.getD_some]
  exact hρ _
theorem append3 {ok : Nat → Prop} {a b c : List SV} {va vb vc : Array Value} (ha : va.size = a.length) (hb : vb.size = b.length) (hc : vc.size = c.length)
    (ra : ∀ i (h : i < a.length), SR pl ok w (a[i]) (va.getD i undef)) (rb : ∀ i (h : i < b.length), SR pl ok w (b[i]) (vb.getD i undef)) (rc : ∀ i (h : i < c.length), SR pl ok w (c[i]) (vc.getD i undef)) :
    (va ++ vb ++ vc).size = (a ++ b ++ c).length ∧ ∀ i (h : i < (a ++ b ++ c).length), SR pl ok w ((a ++ b ++ c)[i]) ((va ++ vb ++ vc).getD i undef) := by
  refine ⟨by simp [ha, hb, hc], fun i hi => ?_⟩
  simp only [Array.getD_eq_getD_getElem?] at ra rb rc ⊢
  simp only [List.length_append] at hi
  by_cases h1 : i < a.length
  · rw [List.getElem_append_left (by simp; omega), List.getElem_append_left h1, Array.getElem?_append_left (by simp; omega), Array.getElem?_append_left (by omega)]
    exact ra i h1
  · by_cases h2 : i < a.length + b.length
    · rw [List.getElem_append_left (by simp; omega), List.getElem_append_right (by omega), Array.getElem?_append_left (by simp; omega), Array.getElem?_append_right (by omega)]
      rw [ha]
      exact rb _ (by omega)
    · rw [List.getElem_append_right (by simp; omega), Array.getElem?_append_right (by simp; omega)]
      have e : i - (va ++ vb).size = i - (a ++ b).length := by simp [ha, hb]
      rw [e]
      exact rc _ (by simp; omega)
theorem OptR.map {ρ : Operand → SV} {ρc : Operand → Value} (hρ : ∀ x, SR pl ok w (ρ x) (ρc x)) (x : Option Operand) : OptR pl ok w (x.map ρ) (x.map ρc) := by
  cases x with
  | none => exact trivial
  | some x => exact hρ x
theorem yV {o : Oper} {c : Call} (ho : o.op = .call c) {ρ : Operand → SV} {ρc : Operand → Value} {K : KT} (hs : HS G O pb pl w hp nx) (hρ : ∀ x, SR pl (okOf O pl hp) w (ρ x) (ρc x)) (h : zB P G c ρ hp nx K) :
    RunOp P o ρc w (Fin G O pb pl w hp K) := by
  unfold zB at h
  obtain ⟨callee, args, ats⟩ := c
  split at h
  · rename_i f hc
    simp only at hc
    subst hc
    split at h
    · rename_i fid first cap hf
      have hv := hρ f
      rw [hf] at hv
      generalize hvf : ρc f = vf at hv
      cases hv with | clo _ _ _ fs cs h1 h2 h3 h4 =>
      obtain ⟨hl, hr⟩ := listR hρ args
      obtain ⟨g1, g2⟩ := append3 h1 hl h2 h3 hr h4
      have hrun : (execOp ρc o).run P w = .ok (.enter fid (fs ++ args.map ρc ++ cs)) w := by
        simp [execOp, ho, resolve, hvf, Deferred.ofValue, invoke, run_callFunc h.1]
      unfold RunOp
      rw [hrun]
      exact h.2 O pb pl w _ hs g1 g2
    · rename_i l hf
      have hv := hρ f
      rw [hf] at hv
      generalize hvf : ρc f = vf at hv
      cases hv with | yld _ q hq =>
      obtain ⟨hl, hr⟩ := listR hρ args
      obtain ⟨fn, tmps, assign, body, g1, g2⟩ := h O pb pl w _ q hs hl hr hq
      have hrun : (execOp ρc o).run P w = .ok (.round q.blk fn tmps assign body) w := by
        simp [execOp, ho, resolve, hvf, Deferred.ofValue, invoke, g1]
      unfold RunOp
      rw [hrun]
      exact g2
    · exact h.elim
  · rename_i hc
    simp only at hc
    subst hc
    split at h
    · rename_i t x h1 h2
      have e1 : ats = #[t] := by simpa using congrArg List.toArray h1
      have e2 : args = #[x] := by simpa using congrArg List.toArray h2
      subst e1 e2
      obtain ⟨v, w', hp', hrun, hK, g1, g2⟩ := run_exClear (P := P) (u := o.type) hs (hρ x) h
      exact .value (v := v) (by simp [execOp, ho, resolve, invoke, builtin, hrun]) ⟨pl, _, hp', nx, hK, g1, .unk _, g2, fun _ _ h => h⟩
    · exact h.elim
  · rename_i hc
    simp only at hc
    subst hc
    split at h
    · rename_i t x h1 h2
      have e1 : ats = #[t] := by simpa using congrArg List.toArray h1
      have e2 : args = #[x] := by simpa using congrArg List.toArray h2
      subst e1 e2
      obtain ⟨r, v, hK, hv, hrun⟩ := run_exLen (P := P) (u := o.type) (hρ x) h
      exact .value (by simp [execOp, ho, resolve, invoke, builtin, hrun]) (Fin.same hs hK hv)
    · exact h.elim
  · rename_i hc
    simp only at hc
    subst hc
    split at h
    · rename_i t t' s x h1 h2
      have e1 : ats = #[t, t'] := by simpa using congrArg List.toArray h1
      have e2 : args = #[s, x] := by simpa using congrArg List.toArray h2
      subst e1 e2
      obtain ⟨v, w', hrun, hf⟩ := run_exAppend (u := o.type) hs (hρ s) (hρ x) h
      exact .value (by simp [execOp, ho, resolve, invoke, builtin, hrun]) hf
    · exact h.elim
  · rename_i hc
    simp only at hc
    subst hc
    obtain ⟨hl, hr⟩ := listR hρ args
    obtain ⟨r, v, hK, hv, hrun⟩ := run_exMax (P := P) (at_ := ats) (t := o.type) hl hr h
    exact .value (by simp [execOp, ho, resolve, invoke, builtin, hrun]) (Fin.same hs hK hv)
  · rename_i hc
    simp only at hc
    subst hc
    obtain ⟨hl, hr⟩ := listR hρ args
    obtain ⟨r, v, hK, hv, hrun⟩ := run_exMin (P := P) (at_ := ats) (t := o.type) hl hr h
    exact .value (by simp [execOp, ho, resolve, invoke, builtin, hrun]) (Fin.same hs hK hv)
  · exact h.elim
theorem exq_sound {o : Oper} {ρ : Operand → SV} {ρc : Operand → Value} {K : KT} (hs : HS G O pb pl w hp nx) (hρ : ∀ x, SR pl (okOf O pl hp) w (ρ x) (ρc x)) (h : exq P G o ρ hp nx K) :
    RunOp P o ρc w (Fin G O pb pl w hp K) := by
  unfold exq at h
  split at h
  · rename_i x ho; exact .value (by simp [execOp, ho]) (Fin.same hs h (hρ x))
  · rename_i x ho; exact .value (by simp [execOp, ho]) (Fin.same hs h (hρ x))
  · rename_i c a b ho
    obtain ⟨r, v, hK, hv, hrun⟩ := run_exPick (P := P) (hρ c) (hρ a) (hρ b) h
    exact .value (by simp only [execOp, ho]; exact hrun) (Fin.same hs hK hv)
  · rename_i op t a b t' ho
    obtain ⟨r, v, hK, hv, hrun⟩ := run_exBin (hρ a) (hρ b) h a b
    refine .value ?_ (Fin.same hs hK hv)
    simp only [execOp, ho, Sem.run_bind] at hrun ⊢
    simp only [hrun, Result.andThen_ok, Sem.run_pure]
  · rename_i op t a ho
    obtain ⟨r, v, hK, hv, hrun⟩ := run_exUn (P := P) (hρ a) h
    exact .value (by simp [execOp, ho, hrun]) (Fin.same hs hK hv)
  · rename_i s t x ho
    obtain ⟨r, v, hK, hv, hrun⟩ := run_exConv (P := P) (hρ x) h
    exact .value (by simp [execOp, ho, hrun]) (Fin.same hs hK hv)
  · rename_i x i ho
    obtain ⟨r, v, hK, hv, hrun⟩ := run_exExtract (P := P) (hρ x) h
    exact .value (by simp [execOp, ho, hrun]) (Fin.same hs hK hv)
  · rename_i fn first cap ho
    obtain ⟨h1, h2⟩ := listR hρ first
    obtain ⟨h3, h4⟩ := listR hρ cap
    exact .value (by simp [execOp, ho, Instr.makeFunc]) (Fin.same hs h (.clo fn _ _ _ _ h1 h3 h2 h4))
  · rename_i x ho
    unfold zR at h
    have hx := hρ x
    split at h
    · rename_i id i j he
      rw [he] at hx
      generalize hv : ρc x = v at hx
      cases hx with | ptr _ _ _ q hq => exact .value (by simp [execOp, ho, hv]) (Fin.same hs h (.ptr id i j q hq))
    · rename_i cs he
      rw [he] at hx
      generalize hv : ρc x = v at hx
      cases hx with | dp _ B off f h1 h2 h3 h4 => exact .value (by simp [execOp, ho, hv]) (Fin.same hs h (.dp cs B off f h1 h2 h3 h4))
    · rename_i cs he
      rw [he] at hx
      generalize hv : ρc x = v at hx
      cases hx with | fp _ B off f h1 h2 h3 h4 => exact .value (by simp [execOp, ho, hv]) (Fin.same hs h (.fp cs B off f h1 h2 h3 h4))
    · rename_i f a b he
      rw [he] at hx
      generalize hv : ρc x = v at hx
      cases hx with | clo _ _ _ fs cs h1 h2 h3 h4 => exact .value (by simp [execOp, ho, hv]) (Fin.same hs h (.clo _ _ _ fs cs h1 h2 h3 h4))
    · exact h.elim
  · rename_i t x f ho
    obtain ⟨r, v, hK, hv, hrun⟩ := run_exFieldAddr (P := P) (hρ x) h
    exact .value (by simp [execOp, ho, hrun]) (Fin.same hs hK hv)
  · rename_i t x f ho
    obtain ⟨r, v, hK, hv, hrun⟩ := run_exField (P := P) (hρ x) h
    exact .value (by simp [execOp, ho, hrun]) (Fin.same hs hK hv)
  · rename_i t x i ho
    obtain ⟨r, v, hK, hv, hrun⟩ := run_exIndexAddr (P := P) (hρ x) (hρ i) h
    exact .value (by simp [execOp, ho, hrun]) (Fin.same hs hK hv)
  · rename_i t x lo hi mx ho
    obtain ⟨r, v, hK, hv, hrun⟩ := run_exSlice (P := P) (hρ x) (OptR.map hρ lo) (OptR.map hρ hi) (OptR.map hρ mx) h
    exact .value (by simp [execOp, ho, hrun]) (Fin.same hs hK hv)
  · rename_i t x ho
    obtain ⟨r, v, hK, hv, hrun⟩ := run_exLoad (P := P) hs (hρ x) h
    exact .value (by simp [execOp, ho, hrun]) (Fin.same hs hK hv)
  · rename_i t x v ho
    obtain ⟨w', hp', hrun, hK, h1, h2⟩ := run_exStore (P := P) hs (hρ x) (hρ v) h
    exact .skip (by simp [execOp, ho, hrun]) ⟨pl, _, hp', nx, hK, h1, .unk _, h2, fun _ _ h => h⟩
  · rename_i t ho
    obtain ⟨v, w', hrun, hf⟩ := run_exAlloc (P := P) hs h
    exact .value (by simp [execOp, ho, hrun]) hf
  · rename_i t v ho
    obtain ⟨u, w', hrun, hf⟩ := run_exBox (P := P) (t := t) hs (hρ v) h
    exact .value (by simp [execOp, ho, hrun]) hf
  · rename_i t parts ho
    obtain ⟨r, v, hK, hv, hrun⟩ := run_exBuild (P := P) (pl := pl) (ok := okOf O pl hp) (w := w) (vparts := parts.map fun p => (p.1, ρc p.2)) (by simp [Function.comp_def]) (by
      intro i h1 h2
      simp only [List.getElem_map, Array.toList_map]
      exact hρ _) h
    exact .value (by simp [execOp, ho, hrun]) (Fin.same hs hK hv)
  · rename_i t len parts ho
    obtain ⟨v, w', hrun, hf⟩ := run_exBuildSlice (P := P) (vparts := parts.map fun p => (p.1, ρc p.2)) hs (by simp) (by simp [Function.comp_def]) (by
      intro i hi
      have hi' : i < parts.size := by simpa using hi
      simp only [List.getElem_map, Array.getElem_toList, Array.getD_eq_getD_getElem?, Array.getElem?_map, Array.getElem?_eq_getElem hi', Option.map_some, Option.getD_some]
      exact hρ _) h
    exact .value (by simp [execOp, ho, hrun]) hf
  · rename_i t l c ho
    obtain ⟨v, w', hrun, hf⟩ := run_exMakeSlice (P := P) hs (hρ l) (hρ c) h
    exact .value (by simp [execOp, ho, hrun]) hf
  · rename_i t ho
    obtain ⟨v, w', hrun, hf⟩ := run_exMakeMap (P := P) (t := t) hs h
    exact .value (by simp [execOp, ho, hrun]) hf
  · rename_i t x i b ho
    obtain ⟨r, v, hK, hv, hrun⟩ := run_exLookup (P := P) hs (hρ x) (hρ i) h
    exact .value (by simp [execOp, ho, hrun]) (Fin.same hs hK hv)
  · rename_i t m k v ho
    obtain ⟨w', hp', hrun, hK, h1, h2⟩ := run_exMapUpdate (P := P) hs (hρ m) (hρ k) (hρ v) h
    exact .skip (by simp [execOp, ho, hrun]) ⟨pl, _, hp', nx, hK, h1, .unk _, h2, fun _ _ h => h⟩
  · rename_i t m k v ho
    obtain ⟨w', hp', hrun, hK, h1, h2⟩ := run_exMapUpdate (P := P) hs (hρ m) (hρ k) (hρ v) h
    exact .skip (by simp [execOp, ho, hrun]) ⟨pl, _, hp', nx, hK, h1, .unk _, h2, fun _ _ h => h⟩
  · rename_i t x ho
    obtain ⟨v, w', hrun, hf⟩ := run_exRange (P := P) hs (hρ x) h
    exact .value (by simp [execOp, ho, hrun]) hf
  · rename_i x ho
    obtain ⟨v, w', hrun, pl', r, hp', nx', ⟨hK, rfl⟩, h1, h2, h3, h4⟩ := run_exNext (P := P) (ty := o.type) hs (hρ x) h
    exact .value (by simp [execOp, ho, hrun]) ⟨pl', r, hp', _, hK, h1, h2, h3, h4⟩
  · rename_i x ho
    obtain ⟨r, v, hK, hv, hrun⟩ := run_exEntry (P := P) hs (hρ x) h
    exact .value (by simp [execOp, ho, hrun]) (Fin.same hs hK hv)
  · rename_i c ho
    exact yV ho hs hρ h
  · exact h.elim
end
end Go.Sy
namespace Go.Sy
def gcond (s : SV) (want : Bool) : Option Bool :=
  match s, want with
  | .d (.lit (.bool x)), true => some x
  | .d (.lit (.bool x)), false => some (!x)
  | .whn g (.d (.lit (.bool x))), true => some (g && x)
  | .whn g (.d (.lit (.bool x))), false => some (g && !x)
  | _, _ => none
def bval : Value → Option Bool
  | .bool x => some x
  | _ => none
def gstrip : SV → SV
  | .whn b s => if b then s else .unk
  | s => s
def putT (dst : Option Tmp) (r : SV) (tm : List (Nat × SV)) : List (Nat × SV) := match dst with | none => tm | some d => (d, r) :: tm
def dstOk (dst : Option Tmp) (nt : Nat) : Prop := match dst with | none => True | some d => d < nt
def Gd (b : Bool) (A K : SV → Prop) : Prop := ∃ r, (b = true → A r) ∧ K r
def exO (P : Program) (G : Nat → Option (List D)) (all : List Oper) (o : Oper) (st : St) (K : St → Prop) : Prop :=
  dstOk o.dst st.nt ∧
  match o.guard with
  | none => exq P G o (ev G st.tm) st.hp st.nx fun r hp nx => K ⟨putT o.dst r st.tm, hp, nx, st.nt, st.df, st.nb⟩
  | some (j, want) => match (all[j]?).bind (·.dst) with
    | some g => match gcond ((st.tm.lookup g).getD .unk) want with
      | some b => Gd b (fun r => exq P G o (fun x => gstrip (ev G st.tm x)) st.hp st.nx fun r' hp' nx' => r' = r ∧ hp' = st.hp ∧ nx' = st.nx)
          (fun r => K ⟨putT o.dst (.whn b r) st.tm, st.hp, st.nx, st.nt, st.df, st.nb⟩) ∨
          (b = true ∧ exq P G o (fun x => gstrip (ev G st.tm x)) st.hp st.nx fun r' hp' nx' => K ⟨putT o.dst (.whn true r') st.tm, hp', nx', st.nt, st.df, st.nb⟩)
      | none => False
    | none => False
def z8 (P : Program) (G : Nat → Option (List D)) (all : List Oper) : List Oper → St → (St → Prop) → Prop
  | [], st, K => K st
  | o :: os, st, K => exO P G all o st fun st' => z8 P G all os st' K
section
variable {P : Program} {G : Nat → Option (List D)} {ro : Option Nat} {M : Nat} {O : Nat → Prop} {pb pl pl' : Nat → Option Pl} {w w' : World} {hp hp' : HpT} {nx nx' : Nat} {ok ok' : Nat → Prop}
theorem exq_defer {o : Oper} {ρ : Operand → SV} {K : KT} (h : exq P G o ρ hp nx K) : ∀ c, o.op ≠ .defer c := by
  intro c hc
  unfold exq at h
  rw [hc] at h
  exact h
theorem R.put {st : St} {a : Act} {r : SV} {v : Value} {dst : Option Tmp} {hp' : HpT} {nx' : Nat} (hR : R G O M pb pl st a w) (hd : dstOk dst st.nt) (hs : HS G (Ox O a) pb pl' w' hp' nx')
    (hst : Step (ownOf pl st.hp) (ownOf pl' hp') w w') (hpl : ∀ id q, pl id = some q → pl' id = some q) (hv : SR pl' (okOf (Ox O a) pl' hp') w' r v) :
    R G O M pb pl' ⟨putT dst r st.tm, hp', nx', st.nt, st.df, st.nb⟩ (a.put dst v) w' := by
  have e : Ext (okOf (Ox O a) pl st.hp) w (okOf (Ox O a) pl' hp') w' := hst.ext
  have hdf := hR.dfStep hst
  cases dst with
  | none => exact ⟨hs, hR.tm.ext e hpl, hR.nt, hdf, hR.bd⟩
  | some d =>
    refine ⟨hs, ?_, ?_, hdf, hR.bd⟩
    · show TmR pl' (okOf (Ox O a) pl' hp') w' ((d, r) :: st.tm) (a.tmps.setIfInBounds d v)
      intro t s hl
      simp only [List.lookup_cons] at hl
      split at hl
      · rename_i he
        have ht : t = d := by simpa using he
        subst ht
        cases hl
        have : t < a.tmps.size := by rw [hR.nt]; exact hd
        simpa [Array.getD_eq_getD_getElem?, this] using hv
      · rename_i he
        have ht : d ≠ t := by intro hc; subst hc; simp at he
        have := (hR.tm t s hl).ext e hpl
        simpa [Array.getD_eq_getD_getElem?, Array.getElem?_setIfInBounds_ne ht] using this
    · simpa [Act.put] using hR.nt
theorem gstrip_sound {s : SV} {v : Value} (h : SR pl ok w s v) : SR pl ok w (gstrip s) v := by
  unfold gstrip
  split
  · rename_i b s
    cases b
    · exact .unk _
    · exact h.whnT rfl
  · exact h
theorem gcond_sound {s : SV} {v : Value} {want b : Bool} (h : SR pl ok w s v) (hg : gcond s want = some b) : (bval v == some want) = true ↔ b = true := by
  unfold gcond at hg
  split at hg
  · cases h.lit; cases hg; rename_i x; cases x <;> simp [bval]
  · cases h.lit; cases hg; rename_i x; cases x <;> simp [bval]
  · rename_i g x
    cases hg
    cases h with | whn _ _ _ h h0 =>
    cases g
    · have := h0 rfl
      subst this
      simp [undef, bval]
    · cases (h rfl).lit; cases x <;> simp [bval]
  · rename_i g x
    cases hg
    cases h with | whn _ _ _ h h0 =>
    cases g
    · have := h0 rfl
      subst this
      simp [undef, bval]
    · cases (h rfl).lit; cases x <;> simp [bval]
  · cases hg
theorem z9 {ops : Array Oper} {K : St → Prop} {Q : Exit → Act → World → Prop} : ∀ (os : List Oper) (k : Nat) (st : St) (pl : Nat → Option Pl) (a : Act) (w : World),
    ops.toList.drop k = os → z8 P G ops.toList os st K → R G O M pb pl st a w →
    (∀ pl' st' a' w', K st' → R G O M pb pl' st' a' w' → Step (ownOf pl st.hp) (ownOf pl' st'.hp) w w' → Q .normal a' w') →
    wpOpsIn (Fw ro) 0 P ops Q (List.range' k os.length) a w
  | [], k, st, pl, a, w, _, h, hR, hQ => hQ pl st a w h hR (.refl _ _)
  | o :: os, k, st, pl, a, w, hk, h, hR, hQ => by
    have hget : ops[k]? = some o := by
      have : (ops.toList.drop k)[0]? = some o := by rw [hk]; rfl
      simpa using this
    have hk' : ops.toList.drop (k + 1) = os := by
      rw [← List.drop_drop, hk]; rfl
    simp only [List.length_cons, List.range'_succ, wpOpsIn, hget]
    obtain ⟨hd, h⟩ := h
    have hev := ev_sound hR.hs hR.tm
    split at h
    · rename_i hg
      have hw : Region.wanted o (yielded ops a.tmps) = true := by simp [Region.wanted, hg]
      rw [if_pos hw]
      refine (exq_sound hR.hs hev h).wpIn (exq_defer h) ?_
      rintro v w' ⟨pl', r, hp', nx', hK, hs', hv, hst, hpl⟩
      exact z9 os (k + 1) _ pl' _ w' hk' hK (hR.put hd hs' hst hpl hv) fun pl₂ st₂ a₂ w₂ h1 h2 h3 => hQ pl₂ st₂ a₂ w₂ h1 h2 (hst.trans h3)
    · rename_i j want hg
      split at h
      · rename_i g hgd
        split at h
        · rename_i b hb
          have hgv : SR pl (okOf (Ox O a) pl st.hp) w ((st.tm.lookup g).getD .unk) (a.tmps.getD g undef) := by
            have := hev (.tmp g)
            simpa [ev, Act.eval] using this
          have hgs := gcond_sound hgv hb
          have hwanted : Region.wanted o (yielded ops a.tmps) = b := by
            have hy : yielded ops a.tmps j = bval (a.tmps.getD g undef) := by
              unfold yielded
              have : (ops[j]?).bind (·.dst) = some g := by simpa using hgd
              rw [this]
              simp only [Option.bind_some, Array.getD_eq_getD_getElem?]
              cases a.tmps[g]? with
              | none => simp [undef, bval]
              | some v => cases v <;> rfl
            simp only [Region.wanted, hg, hy]
            cases hbb : b
            · cases hv : (bval (a.tmps.getD g undef) == some want)
              · rfl
              · rw [hgs.1 hv] at hbb; cases hbb
            · exact hgs.2 hbb
          rw [hwanted]
          rcases h with ⟨r, hex, hK⟩ | ⟨rfl, hex⟩
          · cases b
            · simp only [Bool.false_eq_true, if_false]
              refine ⟨fun _ _ => trivial, ?_⟩
              exact z9 os (k + 1) _ pl _ w hk' hK (hR.put hd hR.hs (.refl _ _) (fun _ _ h => h) (.whn false r undef (fun h => by cases h) (fun _ => rfl))) hQ
            · simp only [if_true]
              have hex' := hex rfl
              refine (exq_sound hR.hs (fun x => gstrip_sound (hev x)) hex').wpIn (exq_defer hex') ?_
              rintro v w' ⟨pl', r', hp', nx', ⟨rfl, rfl, rfl⟩, hs', hv, hst, hpl⟩
              exact z9 os (k + 1) _ pl' _ w' hk' hK (hR.put hd hs' hst hpl (.whn true _ v (fun _ => hv) (fun h => by cases h))) fun pl₂ st₂ a₂ w₂ h1 h2 h3 => hQ pl₂ st₂ a₂ w₂ h1 h2 (hst.trans h3)
          · simp only [if_true]
            refine (exq_sound hR.hs (fun x => gstrip_sound (hev x)) hex).wpIn (exq_defer hex) ?_
            rintro v w' ⟨pl', r', hp', nx', hK, hs', hv, hst, hpl⟩
            exact z9 os (k + 1) _ pl' _ w' hk' hK (hR.put hd hs' hst hpl (.whn true _ v (fun _ => hv) (fun h => by cases h))) fun pl₂ st₂ a₂ w₂ h1 h2 h3 => hQ pl₂ st₂ a₂ w₂ h1 h2 (hst.trans h3)
        · exact h.elim
      · exact h.elim
theorem Tr.region {id : Nat} {ops : Array Oper} {st : St} {Q : Exit → St → Prop} (h : z8 P G ops.toList ops.toList st (Q .normal)) : Tr P G ro (.region id ops false) st Q := by
  intro O M pb pl a w hR
  refine wpIn_region ?_
  have := z9 (ro := ro) (Q := fun x a' w' => ∃ pl' st', Q x st' ∧ R G O M pb pl' st' a' w' ∧ Step (ownOf pl st.hp) (ownOf pl' st'.hp) w w') ops.toList 0 st pl a w rfl h hR
    (fun pl' st' a' w' h1 h2 h3 => ⟨pl', st', h1, h2, h3⟩)
  rw [List.range_eq_range']
  simpa using this
def GdO (P : Program) (G : Nat → Option (List D)) (all : List Oper) (o : Oper) (os : List Oper) (st : St) (b : Bool) (K : St → Prop) : Prop :=
  (∃ r, (b = true → exq P G o (fun x => gstrip (ev G st.tm x)) st.hp st.nx fun r' hp' nx' => r' = r ∧ hp' = st.hp ∧ nx' = st.nx) ∧ z8 P G all os ⟨putT o.dst (.whn b r) st.tm, st.hp, st.nx, st.nt, st.df, st.nb⟩ K) ∨
  (b = true ∧ exq P G o (fun x => gstrip (ev G st.tm x)) st.hp st.nx fun r' hp' nx' => z8 P G all os ⟨putT o.dst (.whn true r') st.tm, hp', nx', st.nt, st.df, st.nb⟩ K)
theorem GdO.mk {all : List Oper} {o : Oper} {os : List Oper} {st : St} {b : Bool} {K : St → Prop} (r : SV) (h : b = true → exq P G o (fun x => gstrip (ev G st.tm x)) st.hp st.nx fun r' hp' nx' => r' = r ∧ hp' = st.hp ∧ nx' = st.nx)
    (k : z8 P G all os ⟨putT o.dst (.whn b r) st.tm, st.hp, st.nx, st.nt, st.df, st.nb⟩ K) : GdO P G all o os st b K := .inl ⟨r, h, k⟩
theorem GdO.now {all : List Oper} {o : Oper} {os : List Oper} {st : St} {b : Bool} {K : St → Prop} (hb : b = true)
    (h : exq P G o (fun x => gstrip (ev G st.tm x)) st.hp st.nx fun r' hp' nx' => z8 P G all os ⟨putT o.dst (.whn true r') st.tm, hp', nx', st.nt, st.df, st.nb⟩ K) : GdO P G all o os st b K := .inr ⟨hb, h⟩
theorem GdO.no {all : List Oper} {o : Oper} {os : List Oper} {st : St} {b : Bool} {K : St → Prop} (hb : b = false)
    (k : z8 P G all os ⟨putT o.dst (.whn false .unk) st.tm, st.hp, st.nx, st.nt, st.df, st.nb⟩ K) : GdO P G all o os st b K := by
  subst hb
  exact .inl ⟨.unk, (fun h => by cases h), k⟩
def CallO (P : Program) (G : Nat → Option (List D)) (all : List Oper) (dst : Option Tmp) (f : FuncId) (args : List SV) (os : List Oper) (st : St) (K : St → Prop) : Prop :=
  CallH P G f args st.hp st.nx fun r hp nx => z8 P G all os ⟨putT dst r st.tm, hp, nx, st.nt, st.df, st.nb⟩ K
theorem CallO.use {all : List Oper} {dst : Option Tmp} {f : FuncId} {args : List SV} {os : List Oper} {st : St} {K : St → Prop} {r : SV} (h : CallP P G f args r)
    (k : z8 P G all os ⟨putT dst r st.tm, st.hp, st.nx, st.nt, st.df, st.nb⟩ K) : CallO P G all dst f args os st K := h.use k
def RoundO (P : Program) (G : Nat → Option (List D)) (all : List Oper) (dst : Option Tmp) (l : Nat) (args : List SV) (os : List Oper) (st : St) (K : St → Prop) : Prop :=
  RoundH P G l args st.hp st.nx fun r hp nx => z8 P G all os ⟨putT dst r st.tm, hp, nx, st.nt, st.df, st.nb⟩ K
def zE (P : Program) (G : Nat → Option (List D)) (all : List Oper) (o : Oper) (os : List Oper) (st : St) (K : St → Prop) : Prop :=
  match o.guard with
  | none => match o.op with
    | .call ⟨.value f, args, _⟩ => match ev G st.tm f with
      | .clo (.func fid) first cap => CallO P G all o.dst fid (first ++ args.toList.map (ev G st.tm) ++ cap) os st K
      | .yld l => RoundO P G all o.dst l (args.toList.map (ev G st.tm)) os st K
      | _ => False
    | _ => exq P G o (ev G st.tm) st.hp st.nx fun r hp nx => z8 P G all os ⟨putT o.dst r st.tm, hp, nx, st.nt, st.df, st.nb⟩ K
  | some (j, want) => match (all[j]?).bind (·.dst) with
    | some g => match gcond ((st.tm.lookup g).getD .unk) want with
      | some b => GdO P G all o os st b K
      | none => False
    | none => False
theorem xC {all : List Oper} {o : Oper} {os : List Oper} {st : St} {K : St → Prop} : z8 P G all (o :: os) st K = (dstOk o.dst st.nt ∧ zE P G all o os st K) := by
  simp only [z8, exO, zE]
  obtain ⟨dst, op, type, pos, after, guard⟩ := o
  cases guard with
  | none =>
    cases op <;> try rfl
    rename_i c
    obtain ⟨callee, args, ats⟩ := c
    cases callee <;> rfl
  | some g => rfl
theorem xJ {all : List Oper} {st : St} {K : St → Prop} : z8 P G all [] st K = K st := rfl
end
end Go.Sy
namespace Go.Sy
def Pure (s : SV) : Prop := ∀ pl pl' ok w v, SR pl ok w s v → SR pl' ok w s v
theorem Pure.d (x : D) : Pure (.d x) := fun _ _ _ _ _ h => by cases h with | d _ _ h => exact .d _ _ h
theorem Pure.dx (es : List (List D)) : Pure (.dx es) := fun _ _ _ _ _ h => by cases h with | dx _ a h => exact .dx _ a h
theorem Pure.dp (cs : List D) : Pure (.dp cs) := fun _ _ _ _ _ h => by cases h with | dp _ B off f h1 h2 h3 h4 => exact .dp _ B off f h1 h2 h3 h4
theorem Pure.fp {cs : List SV} (h : ∀ c ∈ cs, Pure c) : Pure (.fp cs) := fun pl pl' ok w v hv => by
  cases hv with | fp _ B off f h1 h2 h3 h4 => exact .fp _ B off f h1 h2 h3 fun j hj => h _ (List.getElem_mem hj) pl pl' ok w _ (h4 j hj)
theorem Pure.agg {cs : List SV} (h : ∀ c ∈ cs, Pure c) : Pure (.agg cs) := fun _ _ _ _ _ hr => by
  cases hr with | agg _ vs hl hr => exact .agg _ vs hl fun i hi => h _ (List.getElem_mem hi) _ _ _ _ _ (hr i hi)
theorem Pure.tup {cs : List SV} (h : ∀ c ∈ cs, Pure c) : Pure (.tup cs) := fun _ _ _ _ _ hr => by
  cases hr with | tup _ vs hl hr => exact .tup _ vs hl fun i hi => h _ (List.getElem_mem hi) _ _ _ _ _ (hr i hi)
theorem Pure.clo {fn : Fn} {a b : List SV} (h1 : ∀ c ∈ a, Pure c) (h2 : ∀ c ∈ b, Pure c) : Pure (.clo fn a b) := fun _ _ _ _ _ hr => by
  cases hr with | clo _ _ _ fs cs hf hc r1 r2 => exact .clo _ _ _ fs cs hf hc (fun i hi => h1 _ (List.getElem_mem hi) _ _ _ _ _ (r1 i hi)) (fun i hi => h2 _ (List.getElem_mem hi) _ _ _ _ _ (r2 i hi))
theorem Pure.mapd (l : List D) : ∀ c ∈ l.map SV.d, Pure c := by
  intro c hc
  obtain ⟨x, _, rfl⟩ := List.mem_map.1 hc
  exact Pure.d x
def argTm : Nat → List SV → List (Nat × SV)
  | _, [] => []
  | k, s :: l => (k, s) :: argTm (k + 1) l
theorem argTm_lookup : ∀ (l : List SV) (k t : Nat) (s : SV), (argTm k l).lookup t = some s → k ≤ t ∧ ∃ h : t - k < l.length, l[t - k] = s
  | [], k, t, s, h => by simp [argTm] at h
  | x :: l, k, t, s, h => by
    simp only [argTm, List.lookup_cons] at h
    split at h
    · rename_i he
      have : t = k := by simpa using he
      subst this
      cases h
      exact ⟨Nat.le_refl _, by simp, by simp⟩
    · rename_i he
      obtain ⟨h1, h2, h3⟩ := argTm_lookup l (k + 1) t s h
      refine ⟨by omega, by simp; omega, ?_⟩
      have e : t - k = (t - (k + 1)) + 1 := by omega
      simp only [e, List.getElem_cons_succ]
      exact h3
def ResOK (P : Program) (st : St) (rv : ResultVar) (r : SV) : Prop :=
  match rv with
  | .tmp t => st.tm.lookup t = some r
  | .cell a t => match st.tm.lookup a with
    | some p => zD P t p st.hp fun r' => r' = r
    | none => False
def ResL (P : Program) (st : St) : List ResultVar → List SV → Prop
  | [], [] => True
  | rv :: l, r :: rs => ResOK P st rv r ∧ ResL P st l rs
  | _, _ => False
def Res (P : Program) (rvs : List ResultVar) (st : St) (r : SV) : Prop :=
  match rvs with
  | [rv] => ResOK P st rv r
  | rvs => match r with
    | .tup rs => ResL P st rvs rs
    | _ => False
section
variable {P : Program} {G : Nat → Option (List D)} {ro : Option Nat} {M : Nat} {O : Nat → Prop} {pb pl pl' : Nat → Option Pl} {w w' : World} {hp hp' : HpT} {nx nx' : Nat} {ok ok' : Nat → Prop}
theorem ResOK_run {st : St} {a : Act} {rv : ResultVar} {r : SV} (hR : R G O M pb pl st a w) (h : ResOK P st rv r) :
    ∃ v, (match rv with | .tmp t => pure (a.tmps.getD t undef) | .cell x t => do loadVar t (← asAddr (a.tmps.getD x undef)) : Sem Value).run P w = .ok v w ∧ SR pl (okOf (Ox O a) pl st.hp) w r v := by
  unfold ResOK at h
  split at h
  · exact ⟨_, rfl, hR.tm _ _ h⟩
  · rename_i x t
    split at h
    · rename_i p hp
      obtain ⟨r', v, hK, hv, hrun⟩ := run_exLoad (P := P) hR.hs (hR.tm _ _ hp) h
      subst hK
      refine ⟨v, ?_, hv⟩
      have hsv := hR.tm _ _ hp
      generalize hv0 : a.tmps.getD x undef = v0 at hsv hrun
      unfold Instr.loadAt Instr.sureAddr at hrun
      cases v0 <;> simp [stuck] at hrun
      rename_i ad
      cases ad with
      | none => simp at hrun
      | some ad => simpa [asAddr, hv0] using hrun
    · exact h.elim
theorem ResL_run {st : St} {a : Act} (hR : R G O M pb pl st a w) : ∀ (rvs : List ResultVar) (rs : List SV), ResL P st rvs rs →
    ∃ vs : List Value, vs.length = rs.length ∧ (rvs.mapM (fun rv => (match rv with | .tmp t => pure (a.tmps.getD t undef) | .cell x t => do loadVar t (← asAddr (a.tmps.getD x undef)) : Sem Value))).run P w = .ok vs w ∧
      ∀ i (h : i < rs.length) (h' : i < vs.length), SR pl (okOf (Ox O a) pl st.hp) w (rs[i]) (vs[i])
  | [], [], _ => ⟨[], rfl, rfl, fun i hi => absurd hi (by simp)⟩
  | [], _ :: _, h => h.elim
  | _ :: _, [], h => h.elim
  | rv :: rvs, r :: rs, h => by
    obtain ⟨v, h1, h2⟩ := ResOK_run hR h.1
    obtain ⟨vs, h3, h4, h5⟩ := ResL_run hR rvs rs h.2
    refine ⟨v :: vs, by simp [h3], ?_, ?_⟩
    · simp only [List.mapM_cons, Sem.run_bind, h1, Result.andThen_ok, h4, Sem.run_pure]
    · intro i hi hi'
      cases i with
      | zero => exact h2
      | succ i => exact h5 i (by simpa using hi) (by simpa using hi')
theorem Res_run {st : St} {a : Act} {fn : Func} {r : SV} (hR : R G O M pb pl st a w) (h : Res P fn.results.toList st r) :
    ∃ v, (results fn a.tmps).run P w = .ok v w ∧ SR pl (okOf (Ox O a) pl st.hp) w r v := by
  have key : ∀ rs, ResL P st fn.results.toList rs → ∃ vs : List Value, vs.length = rs.length ∧ (results fn a.tmps).run P w = .ok (if h : vs.toArray.size = 1 then vs.toArray[0] else .tuple vs.toArray) w ∧
      ∀ i (h : i < rs.length) (h' : i < vs.length), SR pl (okOf (Ox O a) pl st.hp) w (rs[i]) (vs[i]) := by
    intro rs h
    obtain ⟨vs, h1, h2, h3⟩ := ResL_run hR _ rs h
    refine ⟨vs, h1, ?_, h3⟩
    have e : (fn.results.mapM (m := Sem) (fun rv => (match rv with | .tmp t => pure (a.tmps.getD t undef) | .cell x t => do loadVar t (← asAddr (a.tmps.getD x undef)) : Sem Value))).run P w = .ok vs.toArray w := by
      rw [← Array.toArray_toList (xs := fn.results), List.mapM_toArray]
      simp only [Sem.run_map, h2, Result.andThen_ok]
    unfold results
    rw [Sem.run_bind]
    exact (congrArg (fun x => Result.andThen x fun vs w' => (pure (if h : vs.size = 1 then vs[0] else .tuple vs) : Sem Value).run P w') e).trans rfl
  unfold Res at h
  split at h
  · rename_i rv hrv
    obtain ⟨vs, h1, h2, h3⟩ := key [r] (by rw [hrv]; exact ⟨h, trivial⟩)
    have hl : vs.length = 1 := h1
    obtain ⟨v, rfl⟩ := List.length_eq_one_iff.1 hl
    exact ⟨v, by rw [h2]; rfl, h3 0 (by simp) (by simp)⟩
  · rename_i hne
    split at h
    · rename_i rs
      obtain ⟨vs, h1, h2, h3⟩ := key rs h
      have hlen : rs.length = fn.results.toList.length := by
        have : ∀ (rvs : List ResultVar) (rs : List SV), ResL P st rvs rs → rs.length = rvs.length := by
          intro rvs
          induction rvs with
          | nil => intro rs h; cases rs with | nil => rfl | cons => exact h.elim
          | cons rv rvs ih => intro rs h; cases rs with | nil => exact h.elim | cons r rs => simp [ih rs h.2]
        exact this _ _ h
      have hn1 : ¬ vs.toArray.size = 1 := by
        intro hc
        have hc' : fn.results.toList.length = 1 := by
          rw [← hlen, ← h1]; simpa using hc
        obtain ⟨rv, hrv⟩ := List.length_eq_one_iff.1 hc'
        exact hne rv hrv
      rw [dif_neg hn1] at h2
      refine ⟨_, h2, .tup _ _ (by simpa using h1) fun i hi => ?_⟩
      have hi' : i < vs.length := by omega
      simpa [Array.getD_eq_getD_getElem?, hi'] using h3 i hi hi'
    · exact h.elim
theorem marks_run {fn : Func} {a : Act} {R' : Ending → World → Prop} {n : Nat} : ∀ (ds : List Deferred) (w : World),
    (∀ d ∈ ds, ∃ B, d = { target := .collected B, args := #[] } ∧ w.heap[B]? = some (.deferred (some []))) → ds.Pairwise (fun d d' => d.target ≠ d'.target) →
    (∀ w' : World, w'.heap.size = w.heap.size → (∀ B : Nat, (¬ ∃ d ∈ ds, d.target = .collected B) → w'.heap[B]? = w.heap[B]?) → w'.os = w.os → w'.output = w.output → LeavesInM Fence.wide n P fn a.tmps R' [] .returning w') →
    LeavesInM Fence.wide n P fn a.tmps R' ds .returning w
  | [], w, _, _, hk => hk w rfl (fun _ _ => rfl) rfl rfl
  | d :: ds, w, hm, hnd, hk => by
    obtain ⟨B, hd, hB⟩ := hm d List.mem_cons_self
    subst hd
    have hlt := heap_lt hB
    cases hnd with | cons hn1 hn2 =>
    refine ⟨by simp, .inl ⟨B, { w with heap := w.heap.setIfInBounds B (.deferred none) }, rfl, ?_, ?_⟩⟩
    · simp [Instr.takeDeferred, getObj, setObj, Sem.run, Sem.bind, bind, hB]
    · have hk2 : ∀ B' : Nat, B' ≠ B → ({ w with heap := w.heap.setIfInBounds B (.deferred none) } : World).heap[B']? = w.heap[B']? := by
        intro B' hB'
        exact Array.getElem?_setIfInBounds_ne (Ne.symm hB')
      refine marks_run ds _ (fun d' hd' => ?_) hn2 (fun w' h1 h2 h3 h4 => hk w' (by rw [h1]; simp) (fun B' hB' => ?_) h3 h4)
      · obtain ⟨B', e, hB'⟩ := hm d' (List.mem_cons_of_mem _ hd')
        refine ⟨B', e, ?_⟩
        rw [hk2 B' (fun hc => hn1 d' hd' (by rw [e, hc]))]
        exact hB'
      · rw [h2 B' (fun ⟨d', g1, g2⟩ => hB' ⟨d', List.mem_cons_of_mem _ g1, g2⟩)]
        refine hk2 B' (fun hc => hB' ⟨_, List.mem_cons_self, by rw [hc]⟩)
theorem HS.others (hs : HS G O pb pl w hp nx) (hsz : w'.heap.size = w.heap.size) (hk : ∀ B : Nat, ¬ O B → w'.heap[B]? = w.heap[B]?) : HS G O pb pl w' hp nx ∧ Ext (okOf O pl hp) w (okOf O pl hp) w' := by
  have e : Ext (okOf O pl hp) w (okOf O pl hp) w' := ⟨fun _ _ h => h, fun B _ h => hk B h.1, by omega⟩
  refine ⟨⟨fun p h => ?_, hs.apart, hs.fresh, fun B hB => by rw [hsz]; exact hs.old B hB, hs.base, fun g cs hg => (hs.glob g cs hg).ext e fun _ _ h => h⟩, e⟩
  obtain ⟨q, h1, h2, h3⟩ := hs.obj p h
  exact ⟨q, h1, fun ht => ⟨by rw [hsz]; exact (h2 ht).1, (h2 ht).2⟩, h3.ext e (fun _ _ h => h) fun ht _ => hk _ (h2 ht).2⟩
theorem HS.lessO {O' : Nat → Prop} (hs : HS G O pb pl w hp nx) (h : ∀ B, O' B → O B) : HS G O' pb pl w hp nx ∧ Ext (okOf O pl hp) w (okOf O' pl hp) w := by
  have e : Ext (okOf O pl hp) w (okOf O' pl hp) w := Ext.weak fun B _ hB => ⟨fun hc => hB.1 (h B hc), hB.2⟩
  refine ⟨⟨fun p hp0 => ?_, hs.apart, hs.fresh, fun B hB => hs.old B (h B hB), hs.base, fun g cs hg => (hs.glob g cs hg).ext e fun _ _ h => h⟩, e⟩
  obtain ⟨q, h1, h2, h3⟩ := hs.obj p hp0
  exact ⟨q, h1, fun ht => ⟨(h2 ht).1, fun hc => (h2 ht).2 (h _ hc)⟩, h3.ext e (fun _ _ h => h) fun _ _ => rfl⟩
theorem Ox_nil {a : Act} (h : a.defers = []) (B : Nat) (hB : Ox O a B) : O B := by
  rcases hB with hB | ⟨d, hd, _⟩
  · exact hB
  · rw [h] at hd; simp at hd
theorem CallH.of_body {f : FuncId} {fn : Func} {c : Code} {args : List SV} {K : KT} (hf : P.funcs[f]? = some fn) (hb : fn.body = some c) (hok : okFn P f = true)
    (h : Tr P G none c ⟨argTm 0 args, hp, nx, max args.length fn.ntmps, [], nx⟩ fun x st => (x = .normal ∨ x = .ret) ∧ ∃ r, Res P fn.results.toList st r ∧ K r st.hp st.nx) :
    CallH P G f args hp nx K := by
  refine ⟨hok, fun O pb pl w vs hs hl hr => ?_⟩
  refine callsIn_of_wp_marks hf hb trivial ?_
  obtain ⟨hs0, e0⟩ := hs.lessO (O' := Ox O { tmps := vs ++ Array.replicate (fn.ntmps - vs.size) undef, defers := [] }) (Ox_nil rfl)
  have hR : R G O w.heap.size pl pl ⟨argTm 0 args, hp, nx, max args.length fn.ntmps, [], nx⟩ { tmps := vs ++ Array.replicate (fn.ntmps - vs.size) undef, defers := [] } w := by
    refine ⟨{ hs0 with base := fun _ _ h => h }, ?_, ?_, ⟨Nat.le_refl _, fun _ => rfl, fun d hd => by simp at hd, .nil⟩, fun id q h => hs.id_lt h⟩
    · intro t s hlk
      obtain ⟨_, h1, h2⟩ := argTm_lookup _ _ _ _ hlk
      simp only [Nat.sub_zero] at h1 h2
      have := (hr t h1).ext e0 (fun _ _ h => h)
      rw [h2] at this
      simp only [Array.getD_eq_getD_getElem?] at this ⊢
      rw [Array.getElem?_append_left (by omega)]
      exact this
    · simp; omega
  refine wpIn_mono (h O w.heap.size pl pl _ w hR) ?_
  rintro x a' w' ⟨pl', st', ⟨hx, r, hres, hK⟩, hR', hst⟩
  have hpost : bodyPostM (Fw none) 0 P fn (fun e w'' => ∃ v, e = .returned v ∧ Fin G O pb pl w hp K v w'') .ret a' w' := by
    show LeavesInM _ _ _ _ _ _ a'.defers .returning w'
    refine marks_run (a := a') a'.defers w' (fun d hd => ?_) hR'.df.nd fun w2 h1 h2 h3 h4 => ?_
    · obtain ⟨B, g1, _, g2⟩ := hR'.df.mks d hd
      exact ⟨B, g1, g2⟩
    · obtain ⟨hs2, e2⟩ := hR'.hs.others h1 (fun B hB => h2 B fun hc => hB (.inr hc))
      obtain ⟨hs3, e3⟩ := hs2.lessO (O' := Ox (Ox O a') { a' with defers := [] }) (Ox_nil rfl)
      have hR2 : R G (Ox O a') 0 pl pl' st' { a' with defers := [] } w2 :=
        ⟨hs3, (hR'.tm.ext e2 (fun _ _ h => h)).ext e3 (fun _ _ h => h), hR'.nt, ⟨Nat.zero_le _, fun _ => rfl, fun d hd => by simp at hd, .nil⟩, hR'.bd⟩
      obtain ⟨v, hrun, hv⟩ := Res_run hR2 hres
      obtain ⟨hs4, e4⟩ := hs3.lessO (O' := O) (fun B hB => .inl (.inl hB))
      refine ⟨v, hrun, v, rfl, pl', r, st'.hp, st'.nx, hK, { hs4 with base := fun id q h => hs4.base id q (hs.base id q h) }, hv.ext e4 (fun _ _ h => h), ?_, fun id q h => hs4.base id q h⟩
      refine ⟨by rw [h1]; exact hst.size, fun B hB hn => ?_, h3.trans hst.os, h4.trans hst.out, hst.own⟩
      rw [h2 B ?_]
      · exact hst.keep B hB hn
      · rintro ⟨d, hd, ht⟩
        obtain ⟨B', g1, g2, _⟩ := hR'.df.mks d hd
        rw [g1] at ht
        simp only [Target.collected.injEq] at ht
        omega
  rcases hx with rfl | rfl
  · exact hpost
  · exact hpost
theorem HS.nil {O : Nat → Prop} (ho : ∀ B, O B → B < w.heap.size) (hg : ∀ g cs, G g = some cs → SR pl (fun B => ¬ O B) w (.dp cs) (.pointer (some ⟨g, 0, none⟩))) (n : Nat) :
    HS G O (fun _ => none) (fun _ => none) w [] n where
  obj p h := by simp at h
  apart := .nil
  fresh _ _ := rfl
  old := ho
  base _ _ h := by cases h
  glob g cs h := (Pure.dp cs _ _ _ _ _ (hg g cs h)).ext (Ext.weak fun B _ h => ⟨h, fun ⟨p, h1, _⟩ => by simp at h1⟩) fun _ _ h => h
theorem CallP.of_body {f : FuncId} {fn : Func} {c : Code} {args : List SV} {r : SV} (hf : P.funcs[f]? = some fn) (hb : fn.body = some c) (hok : okFn P f = true) (hargs : ∀ s ∈ args, Pure s) (hr : Pure r)
    (h : Tr P G none c ⟨argTm 0 args, [], 0, max args.length fn.ntmps, [], 0⟩ fun x st => (x = .normal ∨ x = .ret) ∧ Res P fn.results.toList st r) :
    CallP P G f args r := by
  refine ⟨hok, fun O pl w vs ho hg hl hra => ?_⟩
  have hH : CallH P G f args [] 0 (fun r' _ _ => r' = r) := CallH.of_body hf hb hok (h.mono fun x s ⟨a, c⟩ => ⟨a, r, c, rfl⟩)
  refine (hH.2 O (fun _ => none) (fun _ => none) w vs (HS.nil ho hg 0) hl fun i hi => ?_).mono ?_
  · exact (hargs _ (List.getElem_mem hi) _ _ _ _ _ (hra i hi)).ext (Ext.weak fun B _ h => ⟨h, fun ⟨p, h1, _⟩ => by simp at h1⟩) fun _ _ h => h
  · rintro e w' ⟨v, rfl, pl', r', hp', nx', rfl, hs', hv, hst, _⟩
    refine ⟨v, rfl, (hr _ pl _ _ _ hv).ext (Ext.weak fun B _ h => h.1) fun _ _ h => h, hst.size, fun B hB => hst.keep B hB fun ⟨p, h1, _⟩ => by simp at h1, hst.os, hst.out⟩
end
end Go.Sy
