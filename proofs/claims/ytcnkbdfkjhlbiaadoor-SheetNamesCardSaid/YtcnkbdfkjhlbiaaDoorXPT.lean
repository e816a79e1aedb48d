/- Lemmas, part XPT. Conditions: none. -/
import Derived.Test.YtcnkbdfkjhlbiaaDoorXPP
import Derived.Test.YtcnkbdfkjhlbiaaDoorXPS
set_option linter.unusedVariables false
namespace Go.Proofs.YtcnkbdfkjhlbiaaDoor
open Go.Sy
set_option maxRecDepth 8000
abbrev key4 (a b c d : Int) : Value := .agg #[.int .i64 a, .int .i64 b, .int .i64 c, .int .i64 d]
theorem key_chk (e : Bool) (w : World) (a b c d : Int) : (Instr.checkKey e 10000 128 (key4 a b c d)).run Tryd.prog w = .ok () w := by
  kernel_rfl
theorem key_same (a b c d : Int) : Instr.sameBits 10000 (key4 a b c d) (key4 a b c d) = true := by
  simp [Instr.sameBits]
theorem und128 : (match Tryd.prog.underlying 128 with | some (.struct fs) => fs.toList.map (fun f => (f.name == "_", f.type, f.offset)) | _ => []) = [(false, 3, 0), (false, 126, 1)] := by kernel_rfl
theorem stood128 : Tryd.prog.stoodInHeld 128 = false := by kernel_rfl
theorem eq_int (d : Nat) (w : World) (a b : Int) : (Op.equalIn (d + 1) 3 (.int .i64 a) (.int .i64 b)).run Tryd.prog w = .ok (a == b) w := by
  simp [Op.equalIn, run_underlying ty.und3]
theorem part_b (w : World) (a b c d : Int) : (part 126 #[.int .i64 a, .int .i64 b, .int .i64 c, .int .i64 d] 1).run Tryd.prog w = .ok (.agg #[.int .i64 b, .int .i64 c, .int .i64 d]) w := by kernel_rfl
theorem part_a (w : World) (a b c d : Int) : (part 3 #[.int .i64 a, .int .i64 b, .int .i64 c, .int .i64 d] 0).run Tryd.prog w = .ok (.int .i64 a) w := by kernel_rfl
theorem part_0 (w : World) (a b c : Int) : (part 3 #[.int .i64 a, .int .i64 b, .int .i64 c] 0).run Tryd.prog w = .ok (.int .i64 a) w := by kernel_rfl
theorem part_1 (w : World) (a b c : Int) : (part 3 #[.int .i64 a, .int .i64 b, .int .i64 c] 1).run Tryd.prog w = .ok (.int .i64 b) w := by kernel_rfl
theorem part_2 (w : World) (a b c : Int) : (part 3 #[.int .i64 a, .int .i64 b, .int .i64 c] 2).run Tryd.prog w = .ok (.int .i64 c) w := by kernel_rfl
theorem size3 (w : World) : (sizeOf 3).run Tryd.prog w = .ok 1 w := by kernel_rfl
theorem eq_arr (d : Nat) (w : World) (a b c a' b' c' : Int) : (Op.equalIn (d + 2) 126 (.agg #[.int .i64 a, .int .i64 b, .int .i64 c]) (.agg #[.int .i64 a', .int .i64 b', .int .i64 c'])).run Tryd.prog w = .ok (a == a' && (b == b' && c == c')) w := by
  rw [Op.equalIn]
  have p0 := part_0 w a b c
  have p1 := part_1 w a b c
  have p2 := part_2 w a b c
  have q0 := part_0 w a' b' c'
  have q1 := part_1 w a' b' c'
  have q2 := part_2 w a' b' c'
  have e0 := eq_int d w a a'
  have e1 := eq_int d w b b'
  have e2 := eq_int d w c c'
  cases h0 : (a == a') <;> cases h1 : (b == b') <;> cases h2 : (c == c') <;> rw [h0] at e0 <;> rw [h1] at e1 <;> rw [h2] at e2 <;>
    simp [run_underlying ty.und126, Std.Legacy.Range.forIn_eq_forIn_range', List.range', p0, p1, p2, q0, q1, q2, e0, e1, e2]
theorem fields128 : ∃ f0 f1 : Field, Tryd.prog.underlying 128 = some (.struct #[f0, f1]) ∧ f0.name ≠ "_" ∧ f0.type = 3 ∧ f0.offset = 0 ∧ f1.name ≠ "_" ∧ f1.type = 126 ∧ f1.offset = 1 := by
  have h := und128
  split at h
  · rename_i fs hu
    obtain ⟨l⟩ := fs
    match l, h with
    | [f0, f1], h =>
      simp only [List.map_cons, List.map_nil, List.cons.injEq, Prod.mk.injEq, and_true] at h
      exact ⟨f0, f1, hu, by simpa using h.1.1, h.1.2.1, h.1.2.2, by simpa using h.2.1, h.2.2.1, h.2.2.2⟩
  · cases h
theorem eq_key (d : Nat) (w : World) (a b c e a' b' c' e' : Int) : (Op.equalIn (d + 3) 128 (key4 a b c e) (key4 a' b' c' e')).run Tryd.prog w = .ok (a == a' && (b == b' && (c == c' && e == e'))) w := by
  obtain ⟨f0, f1, hu, n0, t0, o0, n1, t1, o1⟩ := fields128
  rw [Op.equalIn]
  have p0 := part_a w a b c e
  have p1 := part_b w a b c e
  have q0 := part_a w a' b' c' e'
  have q1 := part_b w a' b' c' e'
  have e0 := eq_int (d + 1) w a a'
  have e1 := eq_arr d w b c e b' c' e'
  have hs := stood128
  cases h0 : (a == a') <;> cases h1 : (b == b' && (c == c' && e == e')) <;> rw [h0] at e0 <;> rw [h1] at e1 <;>
    simp [run_underlying hu, hs, n0, n1, t0, t1, o0, o1, p0, p1, q0, q1, e0, e1]
theorem key4_inj {a b c e a' b' c' e' : Int} : key4 a b c e = key4 a' b' c' e' ↔ (a == a' && (b == b' && (c == c' && e == e'))) = true := by
  simp
def Key (v : Value) : Prop := ∃ a b c e : Int, v = key4 a b c e
open Classical in
theorem eq_keys (w : World) {x y : Value} (hx : Key x) (hy : Key y) : (Op.equal 128 x y).run Tryd.prog w = .ok (decide (x = y)) w := by
  obtain ⟨a, b, c, e, rfl⟩ := hx
  obtain ⟨a', b', c', e', rfl⟩ := hy
  have h : (Op.equal 128 (key4 a b c e) (key4 a' b' c' e')).run Tryd.prog w = .ok (a == a' && (b == b' && (c == c' && e == e'))) w := eq_key 9997 w a b c e a' b' c' e'
  rw [h]
  congr 1
  cases hb : (a == a' && (b == b' && (c == c' && e == e')))
  · have : ¬ key4 a b c e = key4 a' b' c' e' := fun h2 => by rw [key4_inj.1 h2] at hb; cases hb
    simp only [this, decide_false]
  · have : key4 a b c e = key4 a' b' c' e' := key4_inj.2 hb
    simp only [this, decide_true]
theorem asking (w : World) {k : Value} (hk : Key k) : ∀ (es : List MapEntry) (i : Nat), (∀ e ∈ es, Key e.key) → ∃ r, (Instr.findAsking 128 k es i).run Tryd.prog w = .ok r w ∧
    match r with
    | none => ∀ e ∈ es, e.key ≠ k
    | some (j, v) => ∃ n, j = i + n ∧ ∃ h : n < es.length, (es[n]).key = k ∧ (es[n]).val = v ∧ ∀ m (hm : m < n), (es[m]).key ≠ k
  | [], i, _ => ⟨none, rfl, fun e he => by cases he⟩
  | e :: es, i, h => by
    have hq := eq_keys w hk (h e List.mem_cons_self)
    by_cases hke : k = e.key
    · simp only [hke, decide_true] at hq
      refine ⟨some (i, e.val), ?_, 0, rfl, by simp, hke.symm, rfl, fun m hm => absurd hm (Nat.not_lt_zero _)⟩
      unfold Instr.findAsking
      rw [hke]
      simp only [Sem.run_bind, hq, Result.andThen_ok, if_true, Sem.run_pure]
    · simp only [hke, decide_false] at hq
      obtain ⟨r, hr, hm⟩ := asking w hk es (i + 1) (fun x hx => h x (List.mem_cons_of_mem _ hx))
      refine ⟨r, ?_, ?_⟩
      · unfold Instr.findAsking
        simp only [Sem.run_bind, hq, Result.andThen_ok, Bool.false_eq_true, if_false, hr]
      · cases r with
        | none =>
          intro x hx
          rcases List.mem_cons.1 hx with rfl | hx
          · exact fun h2 => hke h2.symm
          · exact hm x hx
        | some jv =>
          obtain ⟨j, v⟩ := jv
          obtain ⟨n, rfl, hn, h1, h2, h3⟩ := hm
          refine ⟨n + 1, by omega, by simpa using hn, h1, h2, fun m hm => ?_⟩
          cases m with
          | zero => exact fun h2 => hke h2.symm
          | succ m => exact h3 m (by omega)
theorem keyT : KeyT Tryd.prog 128 Key where
  chk v hv b w := by obtain ⟨x, y, z, u, rfl⟩ := hv; exact key_chk b w x y z u
  same k hk := by obtain ⟨x, y, z, u, rfl⟩ := hk; exact key_same x y z u
  find es k hk h w := by
    obtain ⟨f0, f1, hu, _⟩ := fields128
    obtain ⟨r, hr, hm⟩ := asking w hk es 0 h
    refine ⟨r, ?_, ?_⟩
    · unfold Instr.findKey
      simp only [Sem.run_bind, run_underlying hu, Result.andThen_ok]
      cases es with
      | nil => simpa [Instr.findNow, Instr.findAsking] using hr
      | cons e es => simpa [Instr.findNow, Instr.sameNow] using hr
    · cases r with
      | none => exact hm
      | some jv =>
        obtain ⟨j, v⟩ := jv
        obtain ⟨n, hn, h1, h2, h3, h4⟩ := hm
        have : j = n := by omega
        subst this
        exact ⟨h1, h2, h3, h4⟩
theorem mapOk120 {ks : List Value} (h : ∀ k ∈ ks, Key k) : MapOk Tryd.prog 120 ks := ⟨128, 3, Key, by kernel_rfl, keyT, h⟩
theorem mapOk129 {ks : List Value} (h : ∀ k ∈ ks, Key k) : MapOk Tryd.prog 129 ks := ⟨128, 4, Key, by kernel_rfl, keyT, h⟩
end Go.Proofs.YtcnkbdfkjhlbiaaDoor
namespace Go.Proofs.YtcnkbdfkjhlbiaaDoor
open Go.Sy
set_option maxRecDepth 8000
abbrev K4 := Int × Int × Int × Int
abbrev kv (s : K4) : Value := key4 s.1 s.2.1 s.2.2.1 s.2.2.2
abbrev Mem := List (K4 × Int)
def mm (m : Mem) : List (Value × SV) := m.map fun e => (kv e.1, I e.2)
theorem kv_inj (a b : K4) (h : kv a = kv b) : a = b := by
  obtain ⟨a1, a2, a3, a4⟩ := a
  obtain ⟨b1, b2, b3, b4⟩ := b
  have := key4_inj.1 h
  simp only [Bool.and_eq_true, beq_iff_eq] at this
  obtain ⟨rfl, rfl, rfl, rfl⟩ := this
  rfl
theorem mm_find (m : Mem) (p a b d : Int) : mfind (mm m) (key4 p a b d) = (m.lookup (p, a, b, d)).map I :=
  mfind_map (key := kv) (val := I) kv_inj (p, a, b, d) m
theorem mm_put (m : Mem) (p a b d v : Int) : mput (mm m) (key4 p a b d) (I v) = mm (aput m (p, a, b, d) v) :=
  mput_map (key := kv) (val := I) kv_inj (p, a, b, d) v m
theorem mm_ok (m : Mem) (p a b d : Int) : MapOk Tryd.prog 120 (key4 p a b d :: (mm m).map (·.1)) :=
  mapOk120 fun k hk => by
    rcases List.mem_cons.1 hk with rfl | hk
    · exact ⟨_, _, _, _, rfl⟩
    · obtain ⟨e, he, rfl⟩ := List.mem_map.1 hk
      obtain ⟨x, _, rfl⟩ := List.mem_map.1 he
      exact ⟨_, _, _, _, rfl⟩
theorem mz120 : tmz Tryd.prog 120 = some (.int .i64 0) := by kernel_rfl
theorem mz129 : tmz Tryd.prog 129 = some (.bool false) := by kernel_rfl
def solStep (c : Coding) (go : List Int → Mem → Int × Mem) (p : Nat) (es : List Int) (x : Int × Mem) (code : Nat) : Int × Mem :=
  let nx := c.next p es code
  if nx.2.2 then
    let y := go nx.1.2 x.2
    (if y.1 ≠ -1 ∧ (x.1 = -1 ∨ wr64 (y.1 + nx.2.1) < x.1) then wr64 (y.1 + nx.2.1) else x.1, y.2)
  else x
def keyOf (p : Nat) (es : List Int) : K4 := (p, es.getD 0 0, es.getD 1 0, es.getD 2 0)
def Coding.solveGo (c : Coding) : Nat → Nat → List Int → Mem → Int × Mem
  | 0, _, _, m => (0, m)
  | f + 1, p, es, m => match m.lookup (keyOf p es) with
    | some n => (n, m)
    | none =>
      let r := (List.range 10).foldl (solStep c (c.solveGo f (p + 1)) p es) (-1, m)
      (r.1, aput r.2 (keyOf p es) r.1)
def fr (F : List (Nat × List Int)) : HpT := F.map fun e => (e.1, .arr 4 [e.2.map I])
abbrev caps : List SV := [.ptr 0 0 0, .ptr 3 0 0, .ptr 4 0 0]
def base (c : Coding) (m : Mem) : HpT := [(4, .arr 1 [[.clo (.func 124) [] caps]]), (3, .arr 3 [[SL c.codes, SI c.wrong, .mapr 2]]), (2, .map (mm m)), (1, .arr 3 [[.dx [], .dx [], .d (.lit (.map none))]]), (0, .arr 2 [[SL c.codes, SI c.wrong]])]
theorem fr_look {F : List (Nat × List Int)} {k : Nat} (h : ∀ e ∈ F, k ≠ e.1) (l : HpT) : (fr F ++ l).lookup k = l.lookup k := by
  induction F with
  | nil => rfl
  | cons e F ih =>
    show List.lookup k ((e.1, _) :: (fr F ++ l)) = _
    have : (k == e.1) = false := by simpa using h e List.mem_cons_self
    rw [List.lookup_cons, this]
    exact ih fun x hx => h x (List.mem_cons_of_mem _ hx)
theorem fr_upd {F : List (Nat × List Int)} {k : Nat} {o : Sy.Obj} (h : ∀ e ∈ F, k ≠ e.1) (l : HpT) : upd (fr F ++ l) k o = fr F ++ upd l k o := by
  induction F with
  | nil => rfl
  | cons e F ih =>
    have hne : ¬ e.1 = k := fun hc => h e List.mem_cons_self hc.symm
    show upd ((e.1, _) :: (fr F ++ l)) k o = _
    simp only [upd, hne, if_false]
    rw [ih fun x hx => h x (List.mem_cons_of_mem _ hx)]; rfl
theorem fr_tn {r : Nat → Nat} {hp hp' : HpT} {F : List (Nat × List Int)} (h : ∀ e ∈ F, r e.1 = e.1) : F2 (fun p p' => p.1 = r p'.1 ∧ TnO r hp hp' p.2 p'.2) (fr F) (fr F) := by
  unfold fr
  refine F2.map fun e he => ⟨(h e he).symm, TnO.arr (.cons (F2.map fun _ _ => TnS.d _) .nil)⟩
theorem base_tn {r : Nat → Nat} {hp hp' : HpT} {c : Coding} {m : Mem} (h : ∀ i, i < 5 → r i = i) : F2 (fun p p' => p.1 = r p'.1 ∧ TnO r hp hp' p.2 p'.2) (base c m) (base c m) := by
  have h0 := h 0 (by omega)
  have h1 := h 1 (by omega)
  have h2 := h 2 (by omega)
  have h3 := h 3 (by omega)
  have h4 := h 4 (by omega)
  refine .cons ⟨h4.symm, TnO.arr (.cons (.cons (TnS.clo .nil (.cons (TnS.ptr h0) (.cons (TnS.ptr h3) (.cons (TnS.ptr h4) .nil)))) .nil) .nil)⟩ (.cons ⟨h3.symm, TnO.arr (.cons (.cons (TnS.d _) (.cons (TnS.d _) (.cons (TnS.mapr h2) .nil))) .nil)⟩
    (.cons ⟨h2.symm, TnO.map (F2.map fun _ _ => ⟨rfl, TnS.d _⟩)⟩ (.cons ⟨h1.symm, TnO.arr (.cons (.cons (TnS.dx _) (.cons (TnS.dx _) (.cons (TnS.d _) .nil))) .nil)⟩ (.cons ⟨h0.symm, TnO.arr (.cons (.cons (TnS.d _) (.cons (TnS.d _) .nil)) .nil)⟩ .nil))))
def FromP (c : Coding) (f : Nat) : Prop := ∀ (p : Nat) (a b d : Int) (m : Mem) (F : List (Nat × List Int)) (nx : Nat), p + f = c.cols → 5 ≤ nx → (∀ e ∈ F, 5 ≤ e.1 ∧ e.1 < nx) →
  CallH Tryd.prog G0 124 [.agg (sol p [a, b, d]), .ptr 0 0 0, .ptr 3 0 0, .ptr 4 0 0] (fr F ++ base c m) nx (Det (I (c.solveGo f p [a, b, d] m).1) (fr F ++ base c (c.solveGo f p [a, b, d] m).2) nx)
theorem goF_tn {nx : Nat} {hp hp' : HpT} {F : List (Nat × List Int)} {c : Coding} {m : Mem} (h5 : 5 ≤ nx) (hF : ∀ e ∈ F, 5 ≤ e.1 ∧ e.1 < nx) : F2 (fun p p' => p.1 = (fun i => if i < nx then i else i + 1) p'.1 ∧ TnO (fun i => if i < nx then i else i + 1) hp hp' p.2 p'.2) (fr F ++ base c m) (fr F ++ base c m) :=
  F2.append (fr_tn (r := fun i => if i < nx then i else i + 1) fun e he => if_pos (hF e he).2) (base_tn (r := fun i => if i < nx then i else i + 1) fun i hi => if_pos (by omega))
theorem solTo_succ {c : Coding} {go : List Int → Mem → Int × Mem} {p : Nat} {es : List Int} {x : Int × Mem} {k : Nat} : (List.range (k + 1)).foldl (solStep c go p es) x = solStep c go p es ((List.range k).foldl (solStep c go p es) x) k := by
  simp [List.range_succ]
abbrev yA := And.intro ty.sz0 <| And.intro ty.agg0 <| And.intro ty.elem0 <| And.intro ty.sz3 <| And.intro ty.agg3 <| And.intro ty.elem3 <| And.intro ty.zero3 <| And.intro ty.und3 <| And.intro ty.sz4 <| And.intro ty.agg4 <| And.intro ty.elem4 <| And.intro ty.zero4 <| And.intro ty.und4 <| And.intro ty.sz39 <| And.intro ty.agg39 <| And.intro ty.elem39 <| And.intro ty.by39 <| And.intro ty.ez39 <| And.intro ty.zero39 <| And.intro ty.und39 <| And.intro ty.sz43 <| And.intro ty.agg43 <| And.intro ty.elem43 <| And.intro ty.by43 <| And.intro ty.ez43 <| And.intro ty.zero43 <| And.intro ty.und43 <| And.intro ty.sz59 <| And.intro ty.agg59 <| And.intro ty.fld59_0 <| And.intro ty.fld59_1 <| And.intro ty.elem59 <| And.intro ty.zero59 <| And.intro ty.pl59 <| And.intro ty.sz120 <| And.intro ty.agg120 <| And.intro ty.elem120 <| And.intro ty.zero120 <| And.intro ty.sz122 <| And.intro ty.agg122 <| And.intro ty.fld122_0 <| And.intro ty.fld122_1 <| And.intro ty.elem122 <| And.intro ty.zero122 <| And.intro ty.pl122 <| And.intro ty.sz128 <| And.intro ty.agg128 <| And.intro ty.fld128_0 <| And.intro ty.fld128_1 <| And.intro ty.elem128 <| And.intro ty.zero128 <| And.intro ty.pl128 <| And.intro ty.sz130 <| And.intro ty.agg130 <| And.intro ty.elem130 <| And.intro ty.sz165 <| And.intro ty.agg165 <| And.intro ty.elem165 <| And.intro ty.sz174 <| And.intro ty.agg174 <| And.intro ty.elem174 <| ty.zero174
set_option maxHeartbeats 4000000 in
theorem from_step (c : Coding) (hc : CodingOk c) (h0 : 0 < c.codes.length) (f : Nat) (ih : ∀ f', f' + 1 = f → FromP c f') : FromP c f := by
  intro p a b d m F nx hpf h5 hF
  have hq0 := fr_look (F := F) (k := 0) (fun e he => by have := (hF e he).1; omega)
  have hq2 := fr_look (F := F) (k := 2) (fun e he => by have := (hF e he).1; omega)
  have hq3 := fr_look (F := F) (k := 3) (fun e he => by have := (hF e he).1; omega)
  have hq4 := fr_look (F := F) (k := 4) (fun e he => by have := (hF e he).1; omega)
  have hu2 := fun o => fr_upd (F := F) (k := 2) (o := o) (fun e he => by have := (hF e he).1; omega)
  have n0 : (0 == nx) = false := by simp; omega
  have n2 : (2 == nx) = false := by simp; omega
  have n3 : (3 == nx) = false := by simp; omega
  have n4 : (4 == nx) = false := by simp; omega
  have m0 : (0 == nx + 1) = false := by simp
  have m2 : (2 == nx + 1) = false := by simp; omega
  have m3 : (3 == nx + 1) = false := by simp; omega
  have m4 : (4 == nx + 1) = false := by simp; omega
  have k1 : (nx == nx + 1) = false := by simp
  have e2 : ¬ nx = 2 := by omega
  have b0 : ∀ m, (base c m).lookup 0 = some (.arr 2 [[SL c.codes, SI c.wrong]]) := fun _ => rfl
  have b2 : ∀ m, (base c m).lookup 2 = some (.map (mm m)) := fun _ => rfl
  have b3 : ∀ m, (base c m).lookup 3 = some (.arr 3 [[SL c.codes, SI c.wrong, .mapr 2]]) := fun _ => rfl
  have b4 : ∀ m, (base c m).lookup 4 = some (.arr 1 [[.clo (.func 124) [] caps]]) := fun _ => rfl
  have bu : ∀ m m', upd (base c m) 2 (.map (mm m')) = base c m' := fun _ _ => rfl
  have h0' : (c.codes.getD 0 []).length = c.cols := rfl
  refine CallH.body 69 [.tmp 5] Tryd.func124 (by kernel_rfl) rfl rfl rfl ?_
  refine Tr.reg [1, 2, 3, 4] (by
      simp only [↓sxd, sxu, ↓zE, ↓exq, ↓zI, Nat.reduceBEq, Nat.reduceAdd, Nat.reduceLT, Nat.reduceEqDiff]
      (all_goals try exact zF)) ?_
  refine Tr.seq ?_
  refine Tr.regD [0, 1, 2, 3, 4, 5, 6, 7] [] [] [1, 2, 3, 4, 21] mix (by kernel_rfl) (by
      simp only [↓sxd, sxu, ↓zC, zK, ↓exq, ↓zB, ↓zJ, ↓zD, ↓zA, Nat.reduceBEq, Nat.reduceAdd, Nat.reduceLT, Nat.reduceEqDiff, Int.reduceLE, sxe, yA, hq0, n0, b0, h0, h0']
      (all_goals try exact zF)) ?_
  refine Tr.cond rfl (fun h21 => ?_) (fun h21 => ?_)
  · have hf : f = 0 := by
      have : (p : Int) = (c.cols : Int) := by simpa using h21
      omega
    subst hf
    refine Tr.reg [5] (by
        simp only [↓sxd, sxu, ↓zE, ↓exq, Nat.reduceLT]
        (all_goals try exact zF)) ?_
    refine Tr.imp (Imp.go (tm' := [(5, I 0)]) (nx' := nx) (fun i => if i < nx then i else i + 1) (fr F ++ base c m) rfl rfl (.cons _ (.refl _)) (fun id h => if_pos h) (fun id h => by simp only [show ¬ id < nx by omega, if_false]; omega) zT (goF_tn h5 hF) (fun h => h)) ?_
    refine Tr.ret ?_
    exact ⟨.inr rfl, I 0, rfl, rfl, rfl, rfl⟩
  · have hf : f ≠ 0 := by
      have : (p : Int) ≠ (c.cols : Int) := by simpa using h21
      omega
    obtain ⟨f', rfl⟩ := Nat.exists_eq_succ_of_ne_zero hf
    have ih := ih f' rfl
    have hp : p < c.cols := by omega
    obtain ⟨lk, hlk⟩ : ∃ lk, lk = m.lookup ((p : Int), a, b, d) := ⟨_, rfl⟩
    refine Tr.skip ?_
    refine Tr.seq ?_
    refine Tr.reg [1, 2, 3, 4, 6, 7] (by
        simp only [↓sxd, sxu, ↓zE, ↓exq, ↓zD, ↓zN, ↓zA, ↓z0, Nat.reduceBEq, Nat.reduceAdd, Nat.reduceLT, Nat.reduceEqDiff, yA, hq2, hq3, n2, n3, b2, b3, mm_find, mm_ok, mz120, ← hlk]
        (all_goals try exact zF)) ?_
    refine Tr.reg [1, 2, 3, 4, 6, 29] (by
        simp only [↓sxd, sxu, ↓zE, ↓exq, Nat.reduceBEq, Nat.reduceLT]
        (all_goals try exact zF)) ?_
    refine Tr.cond rfl (fun h29 => ?_) (fun h29 => ?_)
    · obtain ⟨n, rfl⟩ : ∃ n, lk = some n := by
        cases lk
        · cases h29
        · exact ⟨_, rfl⟩
      have hgo : c.solveGo (f' + 1) p [a, b, d] m = (n, m) := by
        rw [Coding.solveGo, show m.lookup (keyOf p [a, b, d]) = some n from hlk.symm]
      rw [hgo]
      refine Tr.reg [5] (by
          simp only [↓sxd, sxu, ↓zE, ↓exq, Nat.reduceBEq, Nat.reduceLT]
          (all_goals try exact zF)) ?_
      refine Tr.imp (Imp.go (tm' := [(5, I n)]) (nx' := nx) (fun i => if i < nx then i else i + 1) (fr F ++ base c m) rfl rfl (.cons _ (.refl _)) (fun id h => if_pos h) (fun id h => by simp only [show ¬ id < nx by omega, if_false]; omega) zT (goF_tn h5 hF) (fun h => h)) ?_
      refine Tr.ret ?_
      exact ⟨.inr rfl, I n, rfl, rfl, rfl, rfl⟩
    · obtain rfl : lk = none := by
        cases lk
        · rfl
        · cases h29
      have hgo : c.solveGo (f' + 1) p [a, b, d] m = (((List.range 10).foldl (solStep c (c.solveGo f' (p + 1)) p [a, b, d]) (-1, m)).1, aput ((List.range 10).foldl (solStep c (c.solveGo f' (p + 1)) p [a, b, d]) (-1, m)).2 ((p : Int), a, b, d) ((List.range 10).foldl (solStep c (c.solveGo f' (p + 1)) p [a, b, d]) (-1, m)).1) := by
        rw [Coding.solveGo, show m.lookup (keyOf p [a, b, d]) = none from hlk.symm]
        rfl
      refine Tr.skip ?_
      refine Tr.reg [1, 2, 3, 4, 8] (by
          simp only [↓sxd, sxu, ↓zE, ↓exq, Nat.reduceBEq, Nat.reduceLT]
          (all_goals try exact zF)) ?_
      refine Tr.seq ?_
      refine Tr.reg [1, 2, 3, 4, 8, 31] (by
          simp only [↓sxd, sxu, ↓zE, ↓exq, Nat.reduceBEq, Nat.reduceLT]
          (all_goals try exact zF)) ?_
      refine Tr.imp (st' := ⟨[(1, .ptr 0 0 0), (2, .ptr 3 0 0), (3, .ptr 4 0 0), (4, .ptr nx 0 0), (8, I ((-1, m)).1), (31, I 0)], (nx, .arr 4 [sol p [a, b, d]]) :: (fr F ++ base c ((-1, m)).2), nx + 1, 69, [], nx⟩) (Imp.keepAll) (Tr.block (Tr.loopI (fun mm ss => ∃ (k : Nat) (x : Int × Mem), (k ≤ 10 ∧ x = (List.range k).foldl (solStep c (c.solveGo f' (p + 1)) p [a, b, d]) (-1, m)) ∧ 10 - k = mm ∧ ss = ⟨[(1, .ptr 0 0 0), (2, .ptr 3 0 0), (3, .ptr 4 0 0), (4, .ptr nx 0 0), (8, I x.1), (31, I k)], (nx, .arr 4 [sol p [a, b, d]]) :: (fr F ++ base c x.2), nx + 1, 69, [], nx⟩) _ ⟨0, (-1, m), ?_, rfl, rfl⟩ ?_))
      · exact ⟨Nat.zero_le _, rfl⟩
      rintro mm ss ⟨k, x, hI, rfl, rfl⟩
      obtain ⟨hI, hx⟩ := hI
      refine Tr.reg [1, 2, 3, 4, 8, 31, 32] (by
          simp only [↓sxd, sxu, ↓zE, ↓exq, Nat.reduceBEq, Nat.reduceLT]
          (all_goals try exact zF)) ?_
      refine Tr.seq ?_
      refine Tr.cond rfl (fun h32 => ?_) (fun h32 => ?_)
      · have hlt : k < 10 := by simp at h32; omega
        have hN := next_c c hc p hp a b d (k : Int)
        have hnl := next_len c p [a, b, d] rfl (k : Int)
        have hna := next_at c p [a, b, d] (k : Int)
        generalize hNe : c.next p [a, b, d] (k : Int) = N at hN hnl hna
        obtain ⟨⟨np, nes⟩, er, ok⟩ := N
        simp only at hN hnl hna
        obtain ⟨d0, d1, d2, rfl⟩ := three hnl
        refine Tr.skip ?_
        refine Tr.seq ?_
        refine Tr.block ?_
        refine Tr.reg [1, 2, 3, 4, 8, 9, 31] (by
            simp only [↓sxd, sxu, ↓zE, ↓exq, Nat.reduceBEq, Nat.reduceLT]
            (all_goals try exact zF)) ?_
        refine Tr.reg [1, 2, 3, 4, 8, 10, 11, 12, 31] (by
            simp only [↓sxd, sxu, ↓zE, ↓exq, ↓zD, Nat.reduceBEq, Nat.reduceAdd, Nat.reduceLT, yA, hq0, n0, b0, sol]
            (repeat ((with_reducible refine And.intro ?_ ?_); (focus (exact zS))))
            refine CallO.use (hN) ?_
            try simp only [↓sxd, sxu, ↓zE, ↓exq, ↓zN, ↓zM, Nat.reduceBEq, Nat.reduceAdd, Nat.reduceLT, Nat.reduceEqDiff, yA, sol]
            (all_goals try exact zF)) ?_
        refine Tr.seq ?_
        refine Tr.reg [1, 2, 3, 4, 8, 10, 11, 31, 43] (by
            simp only [↓sxd, sxu, ↓zE, ↓exq, ↓zL, Nat.reduceBEq, Nat.reduceLT]
            (all_goals try exact zF)) ?_
        refine Tr.cond rfl (fun h43 => ?_) (fun h43 => ?_)
        · obtain rfl : ok = false := by simpa using h43
          have hX : solStep c (c.solveGo f' (p + 1)) p [a, b, d] x k = x := by
            unfold solStep; rw [hNe]; rfl
          refine Tr.exit ?_
          have w1 : IntKind.i64.wrap ((k : Int) + 1) = ((k + 1 : Nat) : Int) := by rw [wr (by omega) (by omega)]; rfl
          refine Tr.reg1 [1, 2, 3, 4, 8, 31] (by
              simp only [↓sxd, sxu, ↓zE, ↓exq, Nat.reduceBEq, Nat.reduceLT, w1]
              (all_goals try exact zF)) ?_
          refine ⟨_, _, ?_, ?_, ⟨k + 1, solStep c (c.solveGo f' (p + 1)) p [a, b, d] x k, ⟨hlt, by rw [solTo_succ, ← hx]⟩, rfl, rfl⟩⟩
          · omega
          · rw [hX]
            exact Imp.go (fun i => if i < nx + 1 then i else i + 1) ((nx, .arr 4 [sol p [a, b, d]]) :: (fr F ++ base c _)) rfl rfl (.cons _ (.refl _)) (fun id h => if_pos (Nat.lt_succ_of_lt h)) (fun id h => by simp only [show ¬ id < nx + 1 by omega, if_false]; omega)
              (.cons rfl (TnS.ptr (if_pos (by omega))) (.cons rfl (TnS.ptr (if_pos (by omega))) (.cons rfl (TnS.ptr (if_pos (by omega))) (.cons rfl (TnS.ptr (if_pos (by omega))) (.cons rfl (TnS.d _) (.cons rfl (TnS.d _) trivial))))))
              (.cons ⟨(if_pos (by omega)).symm, TnO.arr (.cons (.cons (TnS.d _) (.cons (TnS.d _) (.cons (TnS.d _) (.cons (TnS.d _) .nil)))) .nil)⟩ (goF_tn (by omega) (fun e he => by have := hF e he; omega))) (fun h => h)
        · obtain rfl : ok = true := by simpa using h43
          obtain rfl : np = ((p + 1 : Nat) : Int) := hna rfl
          have hY : CallH Tryd.prog G0 124 [.agg (sol (p + 1 : Nat) [d0, d1, d2]), .ptr 0 0 0, .ptr 3 0 0, .ptr 4 0 0] ((nx + 1, .arr 4 [sol (p + 1 : Nat) [d0, d1, d2]]) :: (nx, .arr 4 [sol p [a, b, d]]) :: (fr F ++ base c x.2)) (nx + 2)
            (Det (I (c.solveGo f' (p + 1) [d0, d1, d2] x.2).1) ((nx + 1, .arr 4 [sol (p + 1 : Nat) [d0, d1, d2]]) :: (nx, .arr 4 [sol p [a, b, d]]) :: (fr F ++ base c (c.solveGo f' (p + 1) [d0, d1, d2] x.2).2)) (nx + 2)) :=
            ih (p + 1) d0 d1 d2 x.2 ((nx + 1, [((p + 1 : Nat) : Int), d0, d1, d2]) :: (nx, [(p : Int), a, b, d]) :: F) (nx + 2) (by omega) (by omega) (fun e he => by
              rcases List.mem_cons.1 he with rfl | he
              · exact ⟨by show 5 ≤ nx + 1; omega, by show nx + 1 < nx + 2; omega⟩
              · rcases List.mem_cons.1 he with rfl | he
                · exact ⟨h5, by show nx < nx + 2; omega⟩
                · have := hF e he; omega)
          have hSt : solStep c (c.solveGo f' (p + 1)) p [a, b, d] x k = (if (c.solveGo f' (p + 1) [d0, d1, d2] x.2).1 ≠ -1 ∧ (x.1 = -1 ∨ wr64 ((c.solveGo f' (p + 1) [d0, d1, d2] x.2).1 + er) < x.1) then wr64 ((c.solveGo f' (p + 1) [d0, d1, d2] x.2).1 + er) else x.1, (c.solveGo f' (p + 1) [d0, d1, d2] x.2).2) := by
            unfold solStep; rw [hNe]; rfl
          generalize c.solveGo f' (p + 1) [d0, d1, d2] x.2 = Y at hY hSt
          obtain ⟨y1, y2⟩ := Y
          simp only at hY hSt
          refine Tr.skip ?_
          refine Tr.reg [1, 2, 3, 4, 8, 11, 13, 31] (by
              simp only [↓sxd, sxu, ↓zE, ↓exq, ↓zD, Nat.reduceBEq, Nat.reduceAdd, Nat.reduceLT, yA, hq4, n4, m4, b4]
              (repeat ((with_reducible refine And.intro ?_ ?_); (focus (exact zS))))
              refine hY.mono ?_
              rintro r hp' nx' ⟨rfl, rfl, rfl⟩
              try simp only [↓sxd, sxu, ↓zE, ↓exq, Nat.reduceBEq, Nat.reduceLT]
              (all_goals try exact zF)) ?_
          refine Tr.reg [1, 2, 3, 4, 8, 11, 13, 31, 59] (by
              simp only [↓sxd, sxu, ↓zE, ↓exq, Nat.reduceBEq, Nat.reduceLT]
              iterate 8
                (repeat ((with_reducible refine And.intro ?_ ?_); (focus (exact zS))))
                refine GdO.mk _ (fun hg => by simp only [↓sxd, sxu, ↓exq, Nat.reduceBEq, hg]; (all_goals try exact zF)) ?_
                simp only [↓sxd, sxu, ↓zE, Nat.reduceBEq, Nat.reduceLT]
              (repeat ((with_reducible refine And.intro ?_ ?_); (focus (exact zS))))
              refine GdO.mk (B ((x.1 == -1) || decide (IntKind.i64.wrap (y1 + er) < x.1))) (fun hg => by
                simp only [sxu, ↓exq, ↓zH, Nat.reduceBEq, hg]
                (repeat ((with_reducible refine And.intro ?_ ?_); (focus (exact zS))))
                generalize (x.1 == -1) = q1
                generalize decide (IntKind.i64.wrap (y1 + er) < x.1) = q2
                cases q1 <;> cases q2 <;> simp) ?_
              try simp only [↓sxd, sxu, ↓zE, ↓exq, ↓zH, Nat.reduceBEq, Nat.reduceLT]
              (all_goals try exact zF)) ?_
          refine Tr.cond rfl (fun h59 => ?_) (fun h59 => ?_)
          · have hX : solStep c (c.solveGo f' (p + 1)) p [a, b, d] x k = (wr64 (y1 + er), y2) := by
              rw [hSt, if_pos]
              simpa [wr64] using h59
            refine Tr.reg1 [1, 2, 3, 4, 8, 31] (by
                simp only [↓sxd, sxu, ↓zE, ↓exq, Nat.reduceBEq, Nat.reduceLT]
                (all_goals try exact zF)) ?_
            have w1 : IntKind.i64.wrap ((k : Int) + 1) = ((k + 1 : Nat) : Int) := by rw [wr (by omega) (by omega)]; rfl
            refine Tr.reg1 [1, 2, 3, 4, 8, 31] (by
                simp only [↓sxd, sxu, ↓zE, ↓exq, Nat.reduceBEq, Nat.reduceLT, w1]
                (all_goals try exact zF)) ?_
            refine ⟨_, _, ?_, ?_, ⟨k + 1, solStep c (c.solveGo f' (p + 1)) p [a, b, d] x k, ⟨hlt, by rw [solTo_succ, ← hx]⟩, rfl, rfl⟩⟩
            · omega
            · rw [hX]
              exact Imp.go (fun i => if i < nx + 1 then i else i + 1) ((nx, .arr 4 [sol p [a, b, d]]) :: (fr F ++ base c _)) rfl rfl (.cons _ (.refl _)) (fun id h => if_pos (Nat.lt_succ_of_lt h)) (fun id h => by simp only [show ¬ id < nx + 1 by omega, if_false]; omega)
                (.cons rfl (TnS.ptr (if_pos (by omega))) (.cons rfl (TnS.ptr (if_pos (by omega))) (.cons rfl (TnS.ptr (if_pos (by omega))) (.cons rfl (TnS.ptr (if_pos (by omega))) (.cons rfl (TnS.d _) (.cons rfl (TnS.d _) trivial))))))
                (.cons ⟨(if_pos (by omega)).symm, TnO.arr (.cons (.cons (TnS.d _) (.cons (TnS.d _) (.cons (TnS.d _) (.cons (TnS.d _) .nil)))) .nil)⟩ (goF_tn (by omega) (fun e he => by have := hF e he; omega))) (fun h => h)
          · have hX : solStep c (c.solveGo f' (p + 1)) p [a, b, d] x k = (x.1, y2) := by
              rw [hSt, if_neg]
              intro hcc
              have : _ := h59
              simp [wr64] at this hcc
              omega
            refine Tr.skip ?_
            have w1 : IntKind.i64.wrap ((k : Int) + 1) = ((k + 1 : Nat) : Int) := by rw [wr (by omega) (by omega)]; rfl
            refine Tr.reg1 [1, 2, 3, 4, 8, 31] (by
                simp only [↓sxd, sxu, ↓zE, ↓exq, Nat.reduceBEq, Nat.reduceLT, w1]
                (all_goals try exact zF)) ?_
            refine ⟨_, _, ?_, ?_, ⟨k + 1, solStep c (c.solveGo f' (p + 1)) p [a, b, d] x k, ⟨hlt, by rw [solTo_succ, ← hx]⟩, rfl, rfl⟩⟩
            · omega
            · rw [hX]
              exact Imp.go (fun i => if i < nx + 1 then i else i + 1) ((nx, .arr 4 [sol p [a, b, d]]) :: (fr F ++ base c _)) rfl rfl (.cons _ (.refl _)) (fun id h => if_pos (Nat.lt_succ_of_lt h)) (fun id h => by simp only [show ¬ id < nx + 1 by omega, if_false]; omega)
                (.cons rfl (TnS.ptr (if_pos (by omega))) (.cons rfl (TnS.ptr (if_pos (by omega))) (.cons rfl (TnS.ptr (if_pos (by omega))) (.cons rfl (TnS.ptr (if_pos (by omega))) (.cons rfl (TnS.d _) (.cons rfl (TnS.d _) trivial))))))
                (.cons ⟨(if_pos (by omega)).symm, TnO.arr (.cons (.cons (TnS.d _) (.cons (TnS.d _) (.cons (TnS.d _) (.cons (TnS.d _) .nil)))) .nil)⟩ (goF_tn (by omega) (fun e he => by have := hF e he; omega))) (fun h => h)
      · have hge : k = 10 := by simp at h32; omega
        subst hge
        refine Tr.exit ?_
        refine Tr.reg [8] (by
            simp only [↓sxd, sxu, ↓zE, ↓exq, ↓zD, ↓zA, ↓zR, Nat.reduceBEq, Nat.reduceAdd, Nat.reduceLT, Nat.reduceEqDiff, yA, hq3, hq2, n3, n2, b3, b2, hu2, e2, mm_ok, mm_put, bu]
            (all_goals try exact zF)) ?_
        refine Tr.reg [5] (by
            simp only [↓sxd, sxu, ↓zE, ↓exq, Nat.reduceLT]
            (all_goals try exact zF)) ?_
        rw [hgo, ← hx]
        refine Tr.imp (Imp.go (tm' := [(5, I x.1)]) (nx' := nx) (fun i => if i < nx then i else i + 1) (fr F ++ base c (aput x.2 ((p : Int), a, b, d) x.1)) rfl rfl (.cons _ (.refl _)) (fun id h => if_pos h) (fun id h => by simp only [show ¬ id < nx by omega, if_false]; omega) zT (goF_tn h5 hF) (fun h => h)) ?_
        refine Tr.ret ?_
        exact ⟨.inr rfl, I x.1, rfl, rfl, rfl, rfl⟩
end Go.Proofs.YtcnkbdfkjhlbiaaDoor
