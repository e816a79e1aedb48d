/- Lemmas, part ZGD. Conditions: none. -/
import Derived.Test.YtijechcadlklhaaGreatZGC
import Derived.MapKept
import Derived.Laws.IdiomRangeMap
import Derived.WideKeyRuns
set_option linter.unusedVariables false
namespace Go.Sy
section
variable {P : Program} {G : Nat → Option (List D)} {O : Nat → Prop} {pb pl pl' : Nat → Option Pl} {w w' : World} {hp hp' : HpT} {nx nx' : Nat} {ok ok' : Nat → Prop}
theorem Fin.del {id : Nat} {K : KT} {r : SV} {o : Obj} {v : Value} (h : Fin G O pb pl w hp (fun r' hp'' nx'' => r' = r ∧ hp'' = (nx, o) :: hp ∧ nx'' = nx + 1) v w') (hK : K r ((nx, o) :: Go.Sy.del hp id) (nx + 1)) : Fin G O pb pl w hp K v w' := by
  obtain ⟨pl', r', hp', nx', ⟨rfl, rfl, rfl⟩, h1, h2, h3, h4⟩ := h
  obtain ⟨g1, g2⟩ := h1.sub (hp' := (nx, o) :: Go.Sy.del hp id) ((del_sublist id hp).cons_cons _)
  exact ⟨pl', _, _, _, hK, g1, h2.ext g2.ext (fun _ _ h => h), h3.trans g2, h4⟩
theorem app_dx {t t' u e e' : TypeId} {i : TypeInfo} {z : Value} {b sz : Nat} {K : KT} {news : List (List SV)} {ax : Option Addr} {capx : Nat} {cn : List Value} (hs : HS G O pb pl w hp nx)
    (hu : P.underlying t = some (.slice e)) (hu' : P.underlying t' = some (.slice e')) (hi : P.info? e = some i) (hz : i.zero = some z) (hbb : i.bytes = b) (hisz : i.size = sz) (hzsz : z.cells.size = sz) (hsz : sz ≠ 0)
    (hnews : ∀ e ∈ news, e.length = sz ∧ e.all SV.one = true) (hcn : cn.length = news.length * sz)
    (hfx : ∀ W : World, W.heap = w.heap → (Builtin.firstCells i.size news.length (.slice ax news.length capx)).run P W = .ok cn.toArray W)
    (hrx : ∀ i (hi : i < news.length) j (hj : j < (news[i]).length), SR pl (okOf O pl hp) w ((news[i])[j]) (cn.getD (i * sz + j) undef))
    (hones : ∀ u ∈ cn, u.oneCell' = true) {es : List (List D)} {a : Option Addr} (hd : DR (okOf O pl hp) w (.sl es) (.slice a es.length es.length))
    (hemp : es = [] ∨ news ≠ []) (hes : ∀ e ∈ es, e.length = sz) (hb1 : es.length + news.length ≤ 1073741824) (hb2 : b ≤ 65536)
    (hK : K (.slc nx sz 0 (es.length + news.length) (es.length + news.length)) ((nx, .arr sz ((es.map fun e => e.map SV.d) ++ news)) :: hp) (nx + 1)) :
    ∃ v w', (Builtin.append_ #[t, t'] u #[.slice a es.length es.length, .slice ax news.length capx]).run P w = .ok v w' ∧ Fin G O pb pl w hp K v w' := by
  have hfx0 := hfx w rfl
  have hfxd := hfx w.drew rfl
  by_cases hn0 : news.length = 0
  · have hnil : news = [] := List.eq_nil_of_length_eq_zero hn0
    subst hnil
    have hes0 : es = [] := by rcases hemp with h | h; exact h; exact absurd rfl h
    subst hes0
    have : cn = [] := by simpa using hcn
    subst this
    obtain ⟨g1, g2, g3⟩ := hs.newVac (Add.refl w) sz
    refine ⟨_, _, run_append_none_new hu hu' hi (Nat.le_refl _) hfx0, _, _, _, _, hK, g1, ?_, g2, g3⟩
    exact .slc0 nx sz 0 0 0 _ (plUp_self _ _ _) rfl rfl rfl rfl rfl _
  · have hds := (hd.src (P := P) hes hsz)
    obtain ⟨ao, capo, co, ho1, ho2, ho3, ho4⟩ := hds
    cases ho1
    rw [← hisz] at ho3
    have hg := run_append_grow' (u := u) hu hu' hi hz (ho3 w.drew rfl) hfxd (by omega) (by omega) (growslice_fits (by omega) (by
      have := Nat.mul_le_mul hb1 hb2
      rw [hbb]; omega))
    have hge := grownCap_ge w (es.length + news.length) es.length e
    refine ⟨_, _, hg, ?_⟩
    have := HS.grown hs (e := e) (z := z) (olds := es.map fun e => e.map SV.d) (news := news) (co := co) (cn := cn) hsz hzsz (by
        intro x hx
        obtain ⟨y, hy, rfl⟩ := List.mem_map.1 hx
        simpa using hes y hy) (fun e he => (hnews e he).1) (by simpa using ho2) hcn (by
        intro i hi j hj
        simp only [List.getElem_map] at hj ⊢
        exact .d _ _ (ho4 i (by simpa using hi) j (by simpa using hj))) hrx (grownCap w (es.length + news.length) es.length e) (by simpa using hge) (by rw [List.length_map]; omega) K (by simpa using hK)
    simpa using this
theorem slc_szo (hs : HS G O pb pl w hp nx) {vs : Value} {id sz off len cap szo : Nat} {es : List (List SV)} (hr : SR pl (okOf O pl hp) w (.slc id sz off len cap) vs) (hl : hp.lookup id = some (.arr szo es)) :
    szo = sz ∧ ∀ x ∈ es, x.length = sz := by
  have key : ∀ q, pl id = some q → q.sz = sz → szo = sz ∧ ∀ x ∈ es, x.length = sz := by
    intro q hq hqs
    obtain ⟨qq, hqq, _, hoo⟩ := hs.obj _ (lookup_mem hl)
    simp only at hqq hoo
    rw [hq] at hqq; cases hqq
    cases hoo with
    | vac h => exact ⟨hqs, fun x hx => absurd hx (by simp)⟩
    | arr _ c e hne hc ht hn hz hr =>
      refine ⟨hqs, fun x hx => ?_⟩
      obtain ⟨k, hk, rfl⟩ := List.getElem_of_mem hx
      rw [← hqs]; exact hz k hk
  cases hr with
  | slc _ _ _ _ _ cap' q hq hqs hc hc' ht => exact key q hq hqs
  | slc0 _ _ _ _ _ q hq hqs ht z1 z2 z3 a => exact key q hq hqs
theorem mem_upd_self {id : Nat} : ∀ {hp : HpT}, (∃ o, (id, o) ∈ hp) → ∀ o', (id, o') ∈ upd hp id o'
  | [], ⟨o, h⟩, _ => by simp at h
  | (k, y) :: l, ⟨o, h⟩, o' => by
    unfold upd
    by_cases hk : k = id
    · rw [if_pos hk, hk]; exact List.mem_cons_self
    · rw [if_neg hk]
      rcases List.mem_cons.1 h with e | h
      · cases e; exact absurd rfl hk
      · exact List.mem_cons_of_mem _ (mem_upd_self ⟨o, h⟩ o')
theorem del_upd {id : Nat} {o : Obj} : ∀ (hp : HpT), Go.Sy.del (upd hp id o) id = Go.Sy.del hp id
  | [] => rfl
  | (k, y) :: l => by
    unfold upd
    by_cases hk : k = id
    · rw [if_pos hk]; simp [Go.Sy.del, hk]
    · rw [if_neg hk]; simp [Go.Sy.del, hk, del_upd l]
theorem HS.alias_upd {id : Nat} {o : Obj} (hs : HS G O pb pl w (upd hp id o) nx) (hm : ∃ o₀, (id, o₀) ∈ hp) {q : Pl} (hq : pl id = some q) :
    HS G O pb (plUp pl nx q) w ((nx, o) :: Go.Sy.del hp id) (nx + 1) ∧ Step (ownOf pl (upd hp id o)) (ownOf (plUp pl nx q) ((nx, o) :: Go.Sy.del hp id)) w w ∧ (∀ id' q', pl id' = some q' → plUp pl nx q id' = some q') := by
  have h := hs.alias (mem_upd_self hm o) hq
  rw [del_upd] at h
  exact h
theorem own_cells {q : Pl} {c : Array Value} {ec : TypeId} {es news : List (List SV)} {cn : List Value} (hne : q.tot ≠ 0) (htt : c.size = q.tot) (hfit : es.length * q.sz + cn.length ≤ c.size)
    (hsz_es : ∀ x ∈ es, x.length = q.sz) (hnews : ∀ e ∈ news, e.length = q.sz) (hcn : cn.length = news.length * q.sz)
    (hrr : ∀ i (h : i < es.length) j (hj : j < (es[i]).length), SR pl ok w ((es[i])[j]) (c.getD (i * q.sz + j) undef))
    (hrx : ∀ i (hi : i < news.length) j (hj : j < (news[i]).length), SR pl ok w ((news[i])[j]) (cn.getD (i * q.sz + j) undef))
    (hrow : w'.heap[q.blk]? = some (.cells (c.toList.take (es.length * q.sz) ++ cn ++ c.toList.drop (es.length * q.sz + cn.length)).toArray ec (0, 0)))
    (ext : Ext ok w ok' w') : ObjR pl ok' w' q (.arr q.sz (es ++ news)) := by
  refine .arr _ _ ec hne hrow (by simp; omega) (by rw [List.length_append, Nat.add_mul]; omega) ?_ ?_
  · intro k hk
    rcases List.mem_append.1 (List.getElem_mem hk) with h | h
    · exact hsz_es _ h
    · exact hnews _ h
  · intro k hk j hj
    simp only [List.length_append] at hk
    rw [splice_getD c (es.length * q.sz) cn (by omega) (k * q.sz + j)]
    by_cases hke : k < es.length
    · simp only [List.getElem_append_left hke] at hj ⊢
      have hj' := hsz_es _ (List.getElem_mem hke)
      have hle' := Nat.mul_le_mul_right q.sz (show k + 1 ≤ es.length from hke)
      rw [Nat.add_mul] at hle'
      rw [if_neg (by omega)]
      exact (hrr k hke j hj).ext ext (fun _ _ h => h)
    · simp only [List.getElem_append_right (Nat.le_of_not_lt hke)] at hj ⊢
      have hk' : k - es.length < news.length := by omega
      have hj' := hnews _ (List.getElem_mem hk')
      have hle' := Nat.mul_le_mul_right q.sz (show (k - es.length) + 1 ≤ news.length by omega)
      rw [Nat.add_mul] at hle'
      have e1 : k * q.sz = es.length * q.sz + (k - es.length) * q.sz := by rw [← Nat.add_mul]; congr 1; omega
      rw [if_pos (by omega)]
      have e2 : k * q.sz + j - es.length * q.sz = (k - es.length) * q.sz + j := by omega
      rw [e2]
      exact (hrx _ hk' j hj).ext ext (fun _ _ h => h)
theorem app_own {t t' u e e' : TypeId} {i : TypeInfo} {z : Value} {b sz : Nat} {K : KT} {news : List (List SV)} {ax : Option Addr} {capx : Nat} {cn : List Value} (hs : HS G O pb pl w hp nx)
    (hu : P.underlying t = some (.slice e)) (hu' : P.underlying t' = some (.slice e')) (hi : P.info? e = some i) (hz : i.zero = some z) (hbb : i.bytes = b) (hisz : i.size = sz) (hzsz : z.cells.size = sz) (hsz : sz ≠ 0)
    (hnews : ∀ e ∈ news, e.length = sz ∧ e.all SV.one = true) (hcn : cn.length = news.length * sz)
    (hfx : ∀ W : World, W.heap = w.heap → (Builtin.firstCells i.size news.length (.slice ax news.length capx)).run P W = .ok cn.toArray W)
    (hrx : ∀ i (hi : i < news.length) j (hj : j < (news[i]).length), SR pl (okOf O pl hp) w ((news[i])[j]) (cn.getD (i * sz + j) undef))
    (hones : ∀ u ∈ cn, u.oneCell' = true) {vs : Value} {id off len cap szo : Nat} {es : List (List SV)} (hr : SR pl (okOf O pl hp) w (.slc id sz off len cap) vs) (hl : hp.lookup id = some (.arr szo es))
    (hoff : off = 0) (hlen : len = es.length) (hb1 : es.length + news.length ≤ 1073741824) (hb2 : b ≤ 65536)
    (hK : K (.slc nx sz 0 (len + news.length) (len + news.length)) ((nx, .arr sz (es ++ news)) :: Go.Sy.del hp id) (nx + 1)) :
    ∃ v w', (Builtin.append_ #[t, t'] u #[vs, .slice ax news.length capx]).run P w = .ok v w' ∧ Fin G O pb pl w hp K v w' := by
  have hfx0 := hfx w rfl
  have hfxd := hfx w.drew rfl
  subst hoff hlen
  obtain ⟨hszo, hsz_es⟩ := slc_szo hs hr hl
  subst hszo
  have holds : srcOf hp szo (.slc id szo 0 es.length cap) = some es := by
    simp only [srcOf, hl]
    rw [if_pos ⟨trivial, by omega⟩]
    simp
  obtain ⟨ao, capo, co, ho1, ho2, ho3, ho4⟩ := hs.src (P := P) hr holds hsz_es hsz
  rw [← hisz] at ho3
  have grow : ∀ {a : Option Addr} {sCap : Nat}, vs = .slice a es.length sCap → sCap < es.length + news.length →
      ∃ v w', (Builtin.append_ #[t, t'] u #[vs, .slice ax news.length capx]).run P w = .ok v w' ∧ Fin G O pb pl w hp K v w' := by
    rintro a sCap rfl hlt
    have hg := run_append_grow' (u := u) hu hu' hi hz (ho3 w.drew rfl) hfxd hlt (by omega) (growslice_fits (by omega) (by
      have := Nat.mul_le_mul hb1 hb2
      rw [hbb]; omega))
    have hge := grownCap_ge w (es.length + news.length) sCap e
    refine ⟨_, _, hg, Fin.del (id := id) (HS.grown hs (e := e) (z := z) (olds := es) (news := news) (co := co) (cn := cn) hsz hzsz hsz_es (fun e he => (hnews e he).1) ho2 hcn ho4 hrx
      (grownCap w (es.length + news.length) sCap e) hge (by omega) _ ⟨rfl, rfl, rfl⟩) hK⟩
  cases hr with
  | slc0 _ _ _ _ _ q hq hqs ht z1 z2 z3 a =>
    by_cases hn0 : news.length = 0
    · have hnil : news = [] := List.eq_nil_of_length_eq_zero hn0
      subst hnil
      have : cn = [] := by simpa using hcn
      subst this
      have hes0 : es = [] := List.eq_nil_of_length_eq_zero z2
      subst hes0
      obtain ⟨g1, g2, g3⟩ := hs.newVac (Add.refl w) szo
      refine ⟨_, _, run_append_none_new hu hu' hi (Nat.le_refl _) hfx0, Fin.del (id := id) (r := .slc nx szo 0 0 0) (o := .arr szo []) ⟨_, _, _, _, ⟨rfl, rfl, rfl⟩, g1, .slc0 nx szo 0 0 0 _ (plUp_self _ _ _) rfl rfl rfl rfl rfl _, g2, g3⟩ (by simpa using hK)⟩
    · exact grow (sCap := 0) (by rw [z2]) (by omega)
  | slc _ _ _ _ _ cap' q hq hqs hc hc' ht =>
    subst hqs
    by_cases hroom : es.length + news.length ≤ cap'
    · by_cases hn0 : news.length = 0
      · have hnil : news = [] := List.eq_nil_of_length_eq_zero hn0
        subst hnil
        have : cn = [] := by simpa using hcn
        subst this
        obtain ⟨g1, g2, g3⟩ := hs.alias (lookup_mem hl) hq
        simp only [List.append_nil, List.length_nil, Nat.add_zero] at hK
        exact ⟨_, _, run_append_none_new hu hu' hi (by omega) hfx0, _, _, _, _, hK, g1, .slc nx q.sz 0 es.length es.length cap' q (plUp_self pl nx q) rfl (Nat.le_refl _) (by omega) ht, g2, g3⟩
      · obtain ⟨qq, hqq, _, hoo⟩ := hs.obj _ (lookup_mem hl)
        simp only at hqq hoo
        rw [hq] at hqq; cases hqq
        cases hoo with
        | vac h =>
          exfalso
          rw [h] at ht
          have : (0 + cap') * q.sz = 0 := by omega
          rcases Nat.mul_eq_zero.1 this with h | h <;> omega
        | arr _ c ec hne hcc htt hnn hzz hrr =>
          have hle := Nat.mul_le_mul_right q.sz hroom
          rw [Nat.add_mul] at hle
          simp only [Nat.zero_add] at ht
          have hfit : 0 + es.length * i.size + cn.length ≤ c.size := by
            rw [hisz, hcn, htt]
            omega
          have hrun := run_append_room' (u := u) hu hu' hi (g := q.blk) (o := 0) (sLen := es.length) (sCap := cap') hcc hfx0 hones hroom hfit
          simp only [Nat.zero_add, hisz] at hrun hfit
          have hrow := setRow_heap w q.blk c (c.toList.take (es.length * q.sz) ++ cn ++ c.toList.drop (es.length * q.sz + cn.length)).toArray ec (0, 0) hcc
          obtain ⟨h1, h2⟩ := hs.write (o := .arr q.sz (es ++ news)) ⟨_, lookup_mem hl⟩ hq hne
            (w' := w.setRow q.blk (c.toList.take (es.length * q.sz) ++ cn ++ c.toList.drop (es.length * q.sz + cn.length)).toArray) (by simp) (fun B hB => setRow_other w q.blk B _ hB) rfl rfl
            (own_cells hne htt hfit hsz_es (fun e he => (hnews e he).1) hcn hrr hrx hrow)
          obtain ⟨g1, g2, g3⟩ := h1.alias_upd ⟨_, lookup_mem hl⟩ hq
          have hsl := SR.slc (ok := okOf O (plUp pl nx q) ((nx, Obj.arr q.sz (es ++ news)) :: Go.Sy.del hp id)) (w := w.setRow q.blk (c.toList.take (es.length * q.sz) ++ cn ++ c.toList.drop (es.length * q.sz + cn.length)).toArray) nx q.sz 0 (es.length + news.length) (es.length + news.length) cap' q (plUp_self pl nx q) rfl (Nat.le_refl _) (by omega) (by simpa using ht)
          rw [Nat.zero_mul] at hsl
          simp only [Nat.zero_mul]
          exact ⟨_, _, hrun, _, _, _, _, hK, g1, hsl, h2.trans g2, g3⟩
    · exact grow rfl (by omega)
theorem app_in {t t' u e e' : TypeId} {i : TypeInfo} {z : Value} {b sz : Nat} {K : KT} {news : List (List SV)} {ax : Option Addr} {capx : Nat} {cn : List Value} (hs : HS G O pb pl w hp nx)
    (hu : P.underlying t = some (.slice e)) (hu' : P.underlying t' = some (.slice e')) (hi : P.info? e = some i) (hz : i.zero = some z) (hbb : i.bytes = b) (hisz : i.size = sz) (hzsz : z.cells.size = sz) (hsz : sz ≠ 0)
    (hnews : ∀ e ∈ news, e.length = sz ∧ e.all SV.one = true) (hcn : cn.length = news.length * sz)
    (hfx : ∀ W : World, W.heap = w.heap → (Builtin.firstCells i.size news.length (.slice ax news.length capx)).run P W = .ok cn.toArray W)
    (hrx : ∀ i (hi : i < news.length) j (hj : j < (news[i]).length), SR pl (okOf O pl hp) w ((news[i])[j]) (cn.getD (i * sz + j) undef))
    (hones : ∀ u ∈ cn, u.oneCell' = true) {vs : Value} {id off len cap szo : Nat} {es : List (List SV)} (hr : SR pl (okOf O pl hp) w (.slc id sz off len cap) vs) (hl : hp.lookup id = some (.arr szo es))
    (hc : ¬ (off = 0 ∧ len = es.length)) (hfit : off + len + news.length ≤ es.length) (hcap : len + news.length ≤ cap)
    (hK : K (.slc id sz off (len + news.length) cap) (upd hp id (.arr sz (es.take (off + len) ++ news ++ es.drop (off + len + news.length)))) nx) :
    ∃ v w', (Builtin.append_ #[t, t'] u #[vs, .slice ax news.length capx]).run P w = .ok v w' ∧ Fin G O pb pl w hp K v w' := by
  have hfx0 := hfx w rfl
  have hfxd := hfx w.drew rfl
  obtain ⟨hszo, hsz_es⟩ := slc_szo hs hr hl
  subst hszo
  cases hr with
  | slc0 _ _ _ _ _ q hq hqs ht z1 z2 z3 a =>
    subst z1 z2
    exfalso
    obtain ⟨qq, hqq, _, hoo⟩ := hs.obj _ (lookup_mem hl)
    simp only at hqq hoo
    rw [hq] at hqq; cases hqq
    cases hoo with
    | vac h => exact hc ⟨rfl, rfl⟩
    | arr _ c e hne _ _ _ _ _ => exact hne ht
  | slc _ _ _ _ _ cap' q hq hqs hcc hc' ht =>
    subst hqs
    obtain ⟨qq, hqq, _, hoo⟩ := hs.obj _ (lookup_mem hl)
    simp only at hqq hoo
    rw [hq] at hqq; cases hqq
    cases hoo with
    | vac h => exfalso; simp at hfit; exact hc ⟨by omega, by simp; omega⟩
    | arr _ c ec hne hcc' htt hnn hzz hrr =>
      have hle := Nat.mul_le_mul_right q.sz hfit
      have hmid : (off + len) * q.sz = off * q.sz + len * q.sz := Nat.add_mul _ _ _
      rw [Nat.add_mul, Nat.add_mul] at hle
      have hfit' : off * q.sz + len * i.size + cn.length ≤ c.size := by
        rw [hisz, hcn, htt]
        omega
      have hrun := run_append_room' (u := u) hu hu' hi (g := q.blk) (o := off * q.sz) (sLen := len) (sCap := cap') hcc' hfx0 hones (by omega) hfit'
      simp only [hisz] at hrun hfit'
      have hrow := setRow_heap w q.blk c (c.toList.take (off * q.sz + len * q.sz) ++ cn ++ c.toList.drop (off * q.sz + len * q.sz + cn.length)).toArray ec (0, 0) hcc'
      have hm : min (off + len) es.length = off + len := by omega
      have e1? : ∀ k, k < off + len → (es.take (off + len) ++ news ++ es.drop (off + len + news.length))[k]? = es[k]? := by
        intro k hk
        rw [List.append_assoc, List.getElem?_append_left (by rw [List.length_take, hm]; exact hk), List.getElem?_take, if_pos hk]
      have e2? : ∀ k, off + len ≤ k → k < off + len + news.length → (es.take (off + len) ++ news ++ es.drop (off + len + news.length))[k]? = news[k - (off + len)]? := by
        intro k hk hk'
        rw [List.append_assoc, List.getElem?_append_right (by rw [List.length_take, hm]; exact hk), List.getElem?_append_left (by rw [List.length_take, hm]; omega), List.length_take, hm]
      have e3? : ∀ k, off + len + news.length ≤ k → (es.take (off + len) ++ news ++ es.drop (off + len + news.length))[k]? = es[k]? := by
        intro k hk
        rw [List.append_assoc, List.getElem?_append_right (by rw [List.length_take, hm]; omega), List.getElem?_append_right (by rw [List.length_take, hm]; omega), List.length_take, hm, List.getElem?_drop]
        congr 1; omega
      have hlen1 : (es.take (off + len) ++ news ++ es.drop (off + len + news.length)).length = es.length := by
        rw [List.length_append, List.length_append, List.length_take, List.length_drop, hm]; omega
      generalize es.take (off + len) ++ news ++ es.drop (off + len + news.length) = L at *
      obtain ⟨h1, h2⟩ := hs.write (o := .arr q.sz L) ⟨_, lookup_mem hl⟩ hq hne
        (w' := w.setRow q.blk (c.toList.take (off * q.sz + len * q.sz) ++ cn ++ c.toList.drop (off * q.sz + len * q.sz + cn.length)).toArray) (by simp) (fun B hB => setRow_other w q.blk B _ hB) rfl rfl (by
          intro ext
          have hLz : ∀ k (hk : k < L.length), (L[k]).length = q.sz := by
            intro k hk
            by_cases k1 : k < off + len
            · have := e1? k k1
              rw [List.getElem?_eq_getElem hk, List.getElem?_eq_getElem (by omega)] at this
              rw [Option.some.inj this]; exact hzz k _
            · by_cases k2 : k < off + len + news.length
              · have := e2? k (by omega) k2
                rw [List.getElem?_eq_getElem hk, List.getElem?_eq_getElem (by omega)] at this
                rw [Option.some.inj this]; exact (hnews _ (List.getElem_mem _)).1
              · have := e3? k (by omega)
                rw [List.getElem?_eq_getElem hk, List.getElem?_eq_getElem (by omega)] at this
                rw [Option.some.inj this]; exact hzz k _
          refine .arr _ _ ec hne hrow (by simp; omega) (by rw [hlen1]; exact hnn) hLz ?_
          intro k hk j hj
          have hj0 := hLz k hk
          rw [splice_getD c (off * q.sz + len * q.sz) cn (by omega) (k * q.sz + j)]
          by_cases k1 : k < off + len
          · have e0 := e1? k k1
            rw [List.getElem?_eq_getElem hk, List.getElem?_eq_getElem (by omega)] at e0
            have e0' := Option.some.inj e0
            have hle' := Nat.mul_le_mul_right q.sz (show k + 1 ≤ off + len from k1)
            rw [Nat.add_mul] at hle'
            rw [if_neg (by omega)]
            simp only [e0'] at hj ⊢
            exact (hrr k (by omega) j hj).ext ext (fun _ _ h => h)
          · by_cases k2 : k < off + len + news.length
            · have e0 := e2? k (by omega) k2
              rw [List.getElem?_eq_getElem hk, List.getElem?_eq_getElem (by omega)] at e0
              have e0' := Option.some.inj e0
              have hle' := Nat.mul_le_mul_right q.sz (show (k - (off + len)) + 1 ≤ news.length by omega)
              rw [Nat.add_mul] at hle'
              have e1 : k * q.sz = (off + len) * q.sz + (k - (off + len)) * q.sz := by rw [← Nat.add_mul]; congr 1; omega
              rw [if_pos (by omega)]
              have e2 : k * q.sz + j - (off * q.sz + len * q.sz) = (k - (off + len)) * q.sz + j := by omega
              rw [e2]
              simp only [e0'] at hj ⊢
              exact (hrx _ (by omega) j hj).ext ext (fun _ _ h => h)
            · have e0 := e3? k (by omega)
              rw [List.getElem?_eq_getElem hk, List.getElem?_eq_getElem (by omega)] at e0
              have e0' := Option.some.inj e0
              have hle' := Nat.mul_le_mul_right q.sz (show off + len + news.length ≤ k by omega)
              rw [Nat.add_mul, hmid] at hle'
              rw [if_neg (by omega)]
              simp only [e0'] at hj ⊢
              exact (hrr k (by omega) j hj).ext ext (fun _ _ h => h))
      exact ⟨_, _, hrun, _, _, _, _, hK, h1, .slc id q.sz off _ _ cap' q hq rfl hcap (by omega) ht, h2, fun _ _ h => h⟩
theorem run_exAppend {t t' u : TypeId} {s x : SV} {vs vx : Value} {K : KT} (hs : HS G O pb pl w hp nx) (hr : SR pl (okOf O pl hp) w s vs) (hx : SR pl (okOf O pl hp) w x vx)
    (h : zQ P t t' s x hp nx K) :
    ∃ v w', (Builtin.append_ #[t, t'] u #[vs, vx]).run P w = .ok v w' ∧ Fin G O pb pl w hp K v w' := by
  unfold zQ at h
  split at h
  · rename_i sz b sz' htl hby htl'
    obtain ⟨hsz, hzl, h⟩ := h
    obtain ⟨e, i, z, hu, hi, hz, hbb⟩ := tby_some hby
    obtain ⟨e', hu', _⟩ := telem_some htl'
    obtain ⟨e'', hu'', htsz⟩ := telem_some htl
    rw [hu] at hu''
    cases hu''
    have hisz : i.size = sz := by simpa [tsz, hi] using htsz
    have hzsz : z.cells.size = sz := by simpa [tez, hu, tzero, hi, hz] using hzl
    split at h
    · rename_i news hsrc
      obtain ⟨hnews, h⟩ := h
      obtain ⟨ax, capx, cn, rfl, hcn, hfx, hrx⟩ := hs.src (P := P) hx hsrc (fun e he => (hnews e he).1) hsz
      have hones := one_cells (pl := pl) (ok := okOf O pl hp) (w := w) hsz hnews hcn hrx
      rw [← hisz] at hfx
      split at h
      · rename_i es
        obtain ⟨hemp, hes, hb1, hb2, hK⟩ := h
        cases hr with | dx _ a hd =>
        exact app_dx hs hu hu' hi hz hbb hisz hzsz hsz hnews hcn hfx hrx hones hd hemp hes hb1 hb2 hK
      · rename_i id sz'' off len cap
        obtain ⟨rfl, h⟩ := h
        split at h
        · rename_i szo es hl
          split at h
          · rename_i hc
            exact app_own hs hu hu' hi hz hbb hisz hzsz hsz hnews hcn hfx hrx hones hr hl hc.1 hc.2 h.1 h.2.1 h.2.2
          · rename_i hc
            exact app_in hs hu hu' hi hz hbb hisz hzsz hsz hnews hcn hfx hrx hones hr hl hc h.1 h.2.1 h.2.2
        · exact h.elim
      · exact h.elim
    · exact h.elim
  · exact h.elim
end
end Go.Sy
namespace Go.Sy
open Classical in
noncomputable def mfind {α : Type} : List (Value × α) → Value → Option α
  | [], _ => none
  | e :: l, k => if e.1 = k then some e.2 else mfind l k
open Classical in
noncomputable def mput {α : Type} : List (Value × α) → Value → α → List (Value × α)
  | [], k, v => [(k, v)]
  | e :: l, k, v => if e.1 = k then (k, v) :: l else e :: mput l k v
structure KeyT (P : Program) (kt : TypeId) (C : Value → Prop) : Prop where
  chk : ∀ v, C v → ∀ b w, (Instr.checkKey b 10000 kt v).run P w = .ok () w
  find : ∀ (es : List MapEntry) k, C k → (∀ e ∈ es, C e.key) → ∀ w, ∃ r, (Instr.findKey kt k es).run P w = .ok r w ∧
    match r with
    | none => ∀ e ∈ es, e.key ≠ k
    | some (i, v) => ∃ h : i < es.length, (es[i]).key = k ∧ (es[i]).val = v ∧ ∀ j (hj : j < i), (es[j]).key ≠ k
  same : ∀ k, C k → Instr.sameBits 10000 k k = true
def MapOk (P : Program) (t : TypeId) (ks : List Value) : Prop := ∃ kt vt C, P.underlying t = some (.map kt vt) ∧ KeyT P kt C ∧ ∀ k ∈ ks, C k
theorem mfind_none {α : Type} {k : Value} : ∀ {es : List (Value × α)}, (∀ e ∈ es, e.1 ≠ k) → mfind es k = none
  | [], _ => rfl
  | e :: l, h => by
    unfold mfind
    rw [if_neg (h e List.mem_cons_self)]
    exact mfind_none fun x hx => h x (List.mem_cons_of_mem _ hx)
theorem mfind_some {α : Type} {k : Value} : ∀ {es : List (Value × α)} {i : Nat} (h : i < es.length), (es[i]).1 = k → (∀ j (hj : j < i), (es[j]).1 ≠ k) → mfind es k = some (es[i]).2
  | [], i, h, _, _ => by simp at h
  | e :: l, 0, _, h1, _ => by
    unfold mfind
    rw [if_pos (by simpa using h1)]
    rfl
  | e :: l, i + 1, h, h1, h2 => by
    unfold mfind
    rw [if_neg (by simpa using h2 0 (by omega))]
    exact mfind_some (es := l) (by simpa using h) (by simpa using h1) fun j hj => by simpa using h2 (j + 1) (by omega)
theorem mput_none {α : Type} {k : Value} {v : α} : ∀ {es : List (Value × α)}, (∀ e ∈ es, e.1 ≠ k) → mput es k v = es ++ [(k, v)]
  | [], _ => rfl
  | e :: l, h => by
    unfold mput
    rw [if_neg (h e List.mem_cons_self), mput_none fun x hx => h x (List.mem_cons_of_mem _ hx)]
    rfl
theorem mput_some {α : Type} {k : Value} {v : α} : ∀ {es : List (Value × α)} {i : Nat} (h : i < es.length), (es[i]).1 = k → (∀ j (hj : j < i), (es[j]).1 ≠ k) → mput es k v = es.set i (k, v)
  | [], i, h, _, _ => by simp at h
  | e :: l, 0, _, h1, _ => by
    unfold mput
    rw [if_pos (by simpa using h1)]
    rfl
  | e :: l, i + 1, h, h1, h2 => by
    unfold mput
    rw [if_neg (by simpa using h2 0 (by omega)), mput_some (es := l) (by simpa using h) (by simpa using h1) fun j hj => by simpa using h2 (j + 1) (by omega)]
    rfl
def litL : List SV → Option (List Value)
  | [] => some []
  | .d (.lit v) :: l => (litL l).map (v :: ·)
  | _ => none
def svKey : SV → Option Value
  | .d (.lit v) => some v
  | .agg cs => (litL cs).map fun l => .agg l.toArray
  | _ => none
def mapOf (hp : HpT) : SV → Option (List (Value × SV))
  | .d (.mp es) => some (es.map fun e => (e.1, .d e.2))
  | .mapr id => match hp.lookup id with
    | some (.map es) => some es
    | _ => none
  | _ => none
def tmz (P : Program) (t : TypeId) : Option Value := match P.underlying t with | some (.map _ vt) => (P.info? vt).bind (·.zero) | _ => none
section
variable {P : Program} {G : Nat → Option (List D)} {O : Nat → Prop} {pb pl pl' : Nat → Option Pl} {w w' : World} {hp hp' : HpT} {nx nx' : Nat} {ok ok' : Nat → Prop}
theorem litL_sound : ∀ {cs : List SV} {l : List Value} {vs : Array Value}, litL cs = some l → vs.size = cs.length → (∀ i (hi : i < cs.length), SR pl ok w (cs[i]) (vs.getD i undef)) → vs = l.toArray
  | [], l, vs, h, hl, _ => by
    simp only [litL, Option.some.injEq] at h
    subst h
    exact Array.eq_empty_of_size_eq_zero (by simpa using hl)
  | c :: cs, l, vs, h, hl, hr => by
    unfold litL at h
    split at h
    · rename_i he; cases he
    · rename_i v l' he
      cases he
      obtain ⟨l2, h2, rfl⟩ := Option.map_eq_some_iff.1 h
      have h0 : vs.getD 0 undef = v := (hr 0 (by simp)).lit
      have ih := litL_sound (vs := vs.extract 1 vs.size) h2 (by simp [hl]) (fun i hi => by
        have := hr (i + 1) (by simpa using hi)
        simp only [List.getElem_cons_succ] at this
        have e : (vs.extract 1 vs.size).getD i undef = vs.getD (i + 1) undef := by
          simp only [Array.getD_eq_getD_getElem?]
          congr 1
          rw [Array.getElem?_extract]
          simp only [List.length_cons] at hl
          rw [if_pos (by omega), Nat.add_comm]
        rw [e]; exact this)
      apply Array.ext'
      have e1 : vs.toList = vs.getD 0 undef :: (vs.extract 1 vs.size).toList := by
        obtain ⟨l⟩ := vs
        cases l with
        | nil => simp at hl
        | cons a l => simp [Array.getD_eq_getD_getElem?]
      rw [e1, ih, h0]
    · cases h
theorem svKey_sound {s : SV} {k v : Value} (h : svKey s = some k) (hv : SR pl ok w s v) : v = k := by
  unfold svKey at h
  split at h
  · cases h; exact hv.lit
  · rename_i cs
    obtain ⟨l, h1, rfl⟩ := Option.map_eq_some_iff.1 h
    cases hv with | agg _ vs hl hr => rw [litL_sound h1 hl hr]
  · cases h
theorem HS.mapOf (hs : HS G O pb pl w hp nx) {x : SV} {v : Value} {es : List (Value × SV)} (hx : SR pl (okOf O pl hp) w x v) (h : mapOf hp x = some es) :
    (v = .map none ∧ es = []) ∨ ∃ B xs clock, v = .map (some B) ∧ w.heap[B]? = some (.map xs clock) ∧ xs.size = es.length ∧ ∀ i (hi : i < es.length), (xs.getD i default).key = (es[i]).1 ∧ SR pl (okOf O pl hp) w (es[i]).2 (xs.getD i default).val := by
  unfold Sy.mapOf at h
  split at h
  · cases h
    cases hx with | d _ _ hd =>
    generalize hD : D.mp _ = d at hd
    cases hd with
    | lit => cases hD
    | nil => cases hD
    | sl => cases hD
    | mnil => cases hD; exact .inl ⟨rfl, rfl⟩
    | mp es' B xs hB hs' hh hl hk hv =>
      cases hD
      refine .inr ⟨B, xs, _, rfl, hh, by simp [hl], fun i hi => ?_⟩
      simp only [List.getElem_map]
      exact ⟨(hk i (by simpa using hi)).1, .d _ _ (hv i (by simpa using hi))⟩
  · rename_i id
    cases hx with | mapr _ q hq =>
    split at h
    · rename_i es' hl
      cases h
      obtain ⟨q', hq', hlt, ho⟩ := hs.obj _ (lookup_mem hl)
      simp only at hq' ho
      rw [hq] at hq'; cases hq'
      cases ho with | map _ xs clock hne hc hm => exact .inr ⟨q.blk, xs, clock, rfl, hc, hm.1, fun i hi => ⟨(hm.2.2 i hi).1, (hm.2.2 i hi).2.2⟩⟩
    · cases h
  · cases h
def zW (P : Program) (t : TypeId) (x k : SV) (ok : Bool) (hp : HpT) (K : SV → Prop) : Prop :=
  match svKey k, mapOf hp x, tmz P t with
  | some kv, some es, some z => MapOk P t (kv :: es.map (·.1)) ∧ match ok with
    | true => K (.tup [(mfind es kv).getD (svOf z), .d (.lit (.bool (mfind es kv).isSome))])
    | false => K ((mfind es kv).getD (svOf z))
  | _, _, _ => False
theorem run_exLookup {t : TypeId} {x k : SV} {vx vk : Value} {b : Bool} {K : SV → Prop} (hs : HS G O pb pl w hp nx) (hx : SR pl (okOf O pl hp) w x vx) (hk : SR pl (okOf O pl hp) w k vk) (h : zW P t x k b hp K) :
    ∃ r v, K r ∧ SR pl (okOf O pl hp) w r v ∧ (Instr.lookup t vx vk b).run P w = .ok v w := by
  unfold zW at h
  split at h
  · rename_i kv es z hkv hes hz
    obtain ⟨⟨kt, vt, C, hu, hC, hks⟩, hK⟩ := h
    have hvk := svKey_sound hkv hk
    subst hvk
    have hCk : C vk := hks _ List.mem_cons_self
    have hzi : ∃ i, P.info? vt = some i ∧ i.zero = some z := by
      unfold tmz at hz
      rw [hu] at hz
      exact Option.bind_eq_some_iff.1 hz
    obtain ⟨i, hi, hiz⟩ := hzi
    have hzero : (zeroValue vt).run P w = .ok z w := by simp [zeroValue, run_typeInfo w hi, hiz]
    have key : ∀ (xs : List MapEntry), xs.length = es.length → (∀ i (hi : i < es.length) (hi' : i < xs.length), (xs[i]).key = (es[i]).1 ∧ SR pl (okOf O pl hp) w (es[i]).2 (xs[i]).val) →
        ∃ r, (Instr.findKey kt vk xs).run P w = .ok r w ∧ match r with
          | none => mfind es vk = none
          | some (_, v) => ∃ s, mfind es vk = some s ∧ SR pl (okOf O pl hp) w s v := by
      intro xs hl hr
      obtain ⟨r, h1, h2⟩ := hC.find xs vk hCk (fun e he => by
        obtain ⟨j, hj, rfl⟩ := List.getElem_of_mem he
        rw [(hr j (by omega) hj).1]
        exact hks _ (List.mem_cons_of_mem _ (List.mem_map.2 ⟨_, List.getElem_mem (by omega), rfl⟩))) w
      refine ⟨r, h1, ?_⟩
      cases r with
      | none =>
        refine mfind_none fun e he => ?_
        obtain ⟨j, hj, rfl⟩ := List.getElem_of_mem he
        rw [← (hr j hj (by omega)).1]
        exact h2 _ (List.getElem_mem _)
      | some p =>
        obtain ⟨i, v⟩ := p
        obtain ⟨g0, g1, g2, g3⟩ := h2
        refine ⟨_, mfind_some (show i < es.length by omega) (by rw [← (hr i (by omega) g0).1]; exact g1) fun j hj => by rw [← (hr j (by omega) (by omega)).1]; exact g3 j hj, ?_⟩
        rw [← g2]
        exact (hr i (by omega) g0).2
    have fin : ∀ (r : Option (Nat × Value)) (em : Bool), (match r with
          | none => mfind es vk = none
          | some (_, v) => ∃ s, mfind es vk = some s ∧ SR pl (okOf O pl hp) w s v) →
        ∃ r' v, K r' ∧ SR pl (okOf O pl hp) w r' v ∧
          (do
            let (v, ok) ← match r with
              | some (_, v) => pure (v, true)
              | none => pure (← zeroValue vt, false)
            pure (if b then .tuple #[v, .bool ok] else v) : Sem Value).run P w = .ok v w := by
      intro r em hr
      cases r with
      | none =>
        simp only at hr
        rw [hr] at hK
        cases b with
        | true =>
          refine ⟨_, .tuple #[z, .bool false], hK, .tup _ _ rfl ?_, by simp [hzero]⟩
          intro i hi
          match i, hi with
          | 0, _ => exact svOf_sound z
          | 1, _ => exact .d _ _ (.lit _ rfl)
        | false => exact ⟨_, z, hK, svOf_sound z, by simp [hzero]⟩
      | some p =>
        obtain ⟨i, v⟩ := p
        obtain ⟨s, h1, h2⟩ := hr
        rw [h1] at hK
        cases b with
        | true =>
          refine ⟨_, .tuple #[v, .bool true], hK, .tup _ _ rfl ?_, by simp⟩
          intro i hi
          match i, hi with
          | 0, _ => exact h2
          | 1, _ => exact .d _ _ (.lit _ rfl)
        | false => exact ⟨_, v, hK, h2, by simp⟩
    rcases hs.mapOf hx hes with ⟨rfl, rfl⟩ | ⟨B, xs, clock, rfl, hB, hl, hr⟩
    · obtain ⟨r, h1, h2⟩ := key [] rfl (fun i hi => absurd hi (by simp))
      obtain ⟨r', v, g1, g2, g3⟩ := fin r true h2
      refine ⟨r', v, g1, g2, ?_⟩
      rw [← g3]
      simp only [Instr.lookup, Sem.run_bind, run_underlying hu, Result.andThen_ok, Sem.run_pure, hC.chk vk hCk, h1]
      cases r <;> rfl
    · obtain ⟨r, h1, h2⟩ := key xs.toList (by simpa using hl) (fun i hi hi' => by
        have := hr i hi
        simpa [Array.getD_eq_getD_getElem?, show i < xs.size by simpa using hi'] using this)
      obtain ⟨r', v, g1, g2, g3⟩ := fin r true h2
      refine ⟨r', v, g1, g2, ?_⟩
      rw [← g3]
      simp only [Instr.lookup, Sem.run_bind, run_underlying hu, Result.andThen_ok, Sem.run_pure, MapKept.run_getObj_map hB, hC.chk vk hCk, h1]
      cases r <;> rfl
  · exact h.elim
def zU (P : Program) (t : TypeId) (m k v : SV) (hp : HpT) (K : HpT → Prop) : Prop :=
  match m, svKey k with
  | .mapr id, some kv => match hp.lookup id with
    | some (.map es) => MapOk P t (kv :: es.map (·.1)) ∧ K (upd hp id (.map (mput es kv v)))
    | _ => False
  | _, _ => False
theorem run_exMapUpdate {t : TypeId} {m k v : SV} {vm vk vv : Value} {K : HpT → Prop} (hs : HS G O pb pl w hp nx) (hm : SR pl (okOf O pl hp) w m vm) (hk : SR pl (okOf O pl hp) w k vk) (hv : SR pl (okOf O pl hp) w v vv)
    (h : zU P t m k v hp K) : ∃ w' hp', (Instr.mapUpdate t vm vk vv).run P w = .ok () w' ∧ K hp' ∧ HS G O pb pl w' hp' nx ∧ Step (ownOf pl hp) (ownOf pl hp') w w' := by
  unfold zU at h
  split at h
  · rename_i id kv hkv
    have hvk := svKey_sound hkv hk
    subst hvk
    cases hm with | mapr _ q hq =>
    split at h
    · rename_i es hl
      obtain ⟨⟨kt, vt, C, hu, hC, hks⟩, hK⟩ := h
      have hCk : C vk := hks _ List.mem_cons_self
      obtain ⟨q', hq', hlt, ho⟩ := hs.obj _ (lookup_mem hl)
      simp only at hq' ho
      rw [hq] at hq'; cases hq'
      cases ho with | map _ xs clock hne hc hm =>
      obtain ⟨m1, m2, m3⟩ := hm
      have hxs : ∀ i (hi : i < es.length) (hi' : i < xs.size), (xs[i]).key = (es[i]).1 ∧ (xs[i]).born = i ∧ SR pl (okOf O pl hp) w (es[i]).2 (xs[i]).val := by
        intro i hi hi'
        simpa [Array.getD_eq_getD_getElem?, hi'] using m3 i hi
      obtain ⟨r, h1, h2⟩ := hC.find xs.toList vk hCk (fun e he => by
        obtain ⟨j, hj, rfl⟩ := List.getElem_of_mem he
        have hj' : j < xs.size := by simpa using hj
        rw [Array.getElem_toList, (hxs j (by omega) hj').1]
        exact hks _ (List.mem_cons_of_mem _ (List.mem_map.2 ⟨_, List.getElem_mem (by omega), rfl⟩))) w
      cases r with
      | none =>
        have hnone : ∀ e ∈ es, e.1 ≠ vk := by
          intro e he
          obtain ⟨j, hj, rfl⟩ := List.getElem_of_mem he
          rw [← (hxs j hj (by omega)).1]
          exact h2 _ (by simp)
        rw [mput_none hnone] at hK
        have hh := MapKept.heap_set (o' := .map (xs.push { key := vk, val := vv, born := clock }) (clock + 1)) hc
        obtain ⟨g1, g2⟩ := hs.write (o := .map (es ++ [(vk, v)])) (w' := { w with heap := w.heap.setIfInBounds q.blk (.map (xs.push { key := vk, val := vv, born := clock }) (clock + 1)) }) ⟨_, lookup_mem hl⟩ hq hne
          (by simp) (fun B hB => hh.2 B hB) rfl rfl (fun ext => .map _ _ _ hne hh.1 ⟨by simp [m1], by simp [m2], fun i hi => by
            simp only [List.length_append, List.length_cons, List.length_nil] at hi
            by_cases hlast : i < es.length
            · have := m3 i hlast
              rw [List.getElem_append_left hlast]
              have e : (xs.push { key := vk, val := vv, born := clock }).getD i default = xs.getD i default := by
                simp only [Array.getD_eq_getD_getElem?]
                rw [Array.getElem?_push_lt (by omega), Array.getElem?_eq_getElem (by omega)]
              rw [e]
              exact ⟨this.1, this.2.1, this.2.2.ext ext (fun _ _ h => h)⟩
            · have hie : i = es.length := by omega
              subst hie
              have e : (xs.push { key := vk, val := vv, born := clock }).getD es.length default = { key := vk, val := vv, born := clock } := by
                simp only [Array.getD_eq_getD_getElem?]
                rw [← m1, Array.getElem?_push_size]
                rfl
              rw [e]
              simp only [List.getElem_append_right (Nat.le_refl _), Nat.sub_self, List.getElem_cons_zero]
              exact ⟨trivial, m2, hv.ext ext (fun _ _ h => h)⟩⟩)
        refine ⟨_, _, ?_, hK, g1, g2⟩
        simp only [Instr.mapUpdate, Sem.run_bind, run_underlying hu, Result.andThen_ok, MapKept.run_getObj_map hc, hC.chk vk hCk, h1, MapKept.run_setObj_map _ hc]
      | some p =>
        obtain ⟨i, v0⟩ := p
        obtain ⟨k0, k1, k2, k3⟩ := h2
        have k0' : i < xs.size := by simpa using k0
        have hi : i < es.length := by omega
        simp only [Array.getElem_toList] at k1 k2 k3
        rw [mput_some hi (by rw [← (hxs i hi k0').1]; exact k1) (fun j hj => by rw [← (hxs j (by omega) (by omega)).1]; exact k3 j hj)] at hK
        have hh := MapKept.heap_set (o' := .map (xs.modify i fun e => { e with key := vk, val := vv }) clock) hc
        obtain ⟨g1, g2⟩ := hs.write (o := .map (es.set i (vk, v))) (w' := { w with heap := w.heap.setIfInBounds q.blk (.map (xs.modify i fun e => { e with key := vk, val := vv }) clock) }) ⟨_, lookup_mem hl⟩ hq hne
          (by simp) (fun B hB => hh.2 B hB) rfl rfl (fun ext => .map _ _ _ hne hh.1 ⟨by simp [m1], by simp [m2], fun j hj => by
            simp only [List.length_set] at hj
            have hj' : j < xs.size := by omega
            have e : (xs.modify i fun e => { e with key := vk, val := vv }).getD j default = if i = j then { xs[j] with key := vk, val := vv } else xs[j] := by
              simp only [Array.getD_eq_getD_getElem?, Array.getElem?_modify, Array.getElem?_eq_getElem hj', Option.map_some]
              split <;> rfl
            rw [e]
            by_cases hij : i = j
            · subst hij
              rw [if_pos rfl, List.getElem_set_self]
              exact ⟨rfl, (hxs i hi k0').2.1, hv.ext ext (fun _ _ h => h)⟩
            · rw [if_neg hij, List.getElem_set_ne hij]
              exact ⟨(hxs j hj hj').1, (hxs j hj hj').2.1, (hxs j hj hj').2.2.ext ext (fun _ _ h => h)⟩⟩)
        refine ⟨_, _, ?_, hK, g1, g2⟩
        have hkts : (Instr.keyThatStays (((xs[i]?).map (·.key)).getD vk) vk).run P w = .ok vk w := by
          rw [Array.getElem?_eq_getElem k0']
          simp only [Option.map_some, Option.getD_some, k1, Instr.keyThatStays, hC.same vk hCk, if_true]
          rfl
        simp only [Instr.mapUpdate, Sem.run_bind, run_underlying hu, Result.andThen_ok, MapKept.run_getObj_map hc, hC.chk vk hCk, h1, hkts, MapKept.run_setObj_map _ hc]
    · exact h.elim
  · exact h.elim
def yG (P : Program) (t : TypeId) (x : SV) (hp : HpT) (nx : Nat) (K : KT) : Prop :=
  (tmz P t).isSome = true ∧ match x with
  | .d (.mp es) => K (.ptr nx 0 0) ((nx, .iter es []) :: hp) (nx + 1)
  | _ => False
theorem run_exRange {t : TypeId} {x : SV} {vx : Value} {K : KT} (hs : HS G O pb pl w hp nx) (hx : SR pl (okOf O pl hp) w x vx) (h : yG P t x hp nx K) :
    ∃ u w', (Instr.range t vx).run P w = .ok u w' ∧ Fin G O pb pl w hp K u w' := by
  obtain ⟨ht, h⟩ := h
  have hu : ∃ kt vt, P.underlying t = some (.map kt vt) := by
    unfold tmz at ht
    split at ht
    · exact ⟨_, _, ‹_›⟩
    · cases ht
  obtain ⟨kt, vt, hu⟩ := hu
  split at h
  · rename_i es
    cases hx with | d _ _ hd =>
    have hq : (⟨w.heap.size, 1, 1⟩ : Pl).tot ≠ 0 → (⟨w.heap.size, 1, 1⟩ : Pl).blk = w.heap.size := fun _ => rfl
    have go : ∀ m, DR (okOf O pl hp) w (.mp es) (.map m) → (Instr.range t (.map m)).run P w = .ok (.pointer (some ⟨w.heap.size, 0, none⟩)) (w.alloc (.mapIter m es.length #[] es.length)) →
        ∃ u w', (Instr.range t (.map m)).run P w = .ok u w' ∧ Fin G O pb pl w hp K u w' := by
      intro m hd hrun
      have ha := Add.alloc w (.mapIter m es.length #[] es.length)
      have hst := hs.step_new ha ⟨w.heap.size, 1, 1⟩ hq (.iter es [])
      refine ⟨_, _, hrun, plUp pl nx ⟨w.heap.size, 1, 1⟩, _, _, _, h, hs.new ha _ _ hq (fun _ => by simp) (.iter es [] (by simp) m (hd.ext hst.ext) (heap_alloc_new _ _)), ?_, hst, hs.plUp_mono _⟩
      have := SR.ptr (ok := okOf O (plUp pl nx ⟨w.heap.size, 1, 1⟩) ((nx, .iter es []) :: hp)) (w := w.alloc (.mapIter m es.length #[] es.length)) nx 0 0 _ (plUp_self pl nx ⟨w.heap.size, 1, 1⟩)
      simpa using this
    generalize hD : D.mp es = d at hd
    cases hd with
    | lit => cases hD
    | nil => cases hD
    | sl => cases hD
    | mnil => cases hD; exact go none .mnil (run_range_nilMap w t kt vt hu)
    | mp es' B xs hB hs' hh hl hk hv => cases hD; exact go (some B) (.mp es B xs hB hs' hh hl hk hv) (run_range_map w t kt vt B xs _ hu hh)
  · exact h.elim
def yQ (x : SV) (hp : HpT) (K : SV → HpT → Prop) : Prop :=
  match x with
  | .ptr id 0 0 => match hp.lookup id with
    | some (.iter es seen) => ((∀ k, k < es.length → k ∈ seen) → K (.tup [.d (.lit (.bool false))]) hp) ∧
        ∀ k (hk : k < es.length), k ∉ seen → K (.tup [.d (.lit (.bool true)), svOf (es[k]).1, .d (es[k]).2]) (upd hp id (.iter es (seen ++ [k])))
    | _ => False
  | _ => False
theorem iter_left (xs : Array MapEntry) (seen : List Nat) (h : ∀ i (hi : i < xs.size), (xs[i]).born = i) :
    (∀ e ∈ leftOf xs seen.toArray, ∃ i, ∃ hi : i < xs.size, xs[i] = e ∧ i ∉ seen) ∧ ((leftOf xs seen.toArray).size = 0 → ∀ i, i < xs.size → i ∈ seen) := by
  constructor
  · intro e he
    unfold leftOf at he
    rw [Array.mem_filter] at he
    obtain ⟨h1, h2⟩ := he
    obtain ⟨i, hi, rfl⟩ := Array.getElem_of_mem h1
    refine ⟨i, hi, rfl, fun hc => ?_⟩
    rw [h i hi] at h2
    simp [hc] at h2
  · intro h0 i hi
    have hemp : leftOf xs seen.toArray = #[] := Array.eq_empty_of_size_eq_zero h0
    unfold leftOf at hemp
    rw [Array.filter_eq_empty_iff] at hemp
    have := hemp xs[i] (Array.getElem_mem hi)
    rw [h i hi] at this
    simpa using this
theorem run_exNext {x : SV} {vx : Value} {ty : TypeId} {K : SV → HpT → Prop} (hs : HS G O pb pl w hp nx) (hx : SR pl (okOf O pl hp) w x vx) (h : yQ x hp K) :
    ∃ u w', (Instr.next vx false ty).run P w = .ok u w' ∧ Fin G O pb pl w hp (fun r hp' nx' => K r hp' ∧ nx' = nx) u w' := by
  unfold yQ at h
  split at h
  · rename_i id
    cases hx with | ptr _ _ _ q hq =>
    split at h
    · rename_i es seen hl
      obtain ⟨h1, h2⟩ := h
      obtain ⟨q', hq', hlt, ho⟩ := hs.obj _ (lookup_mem hl)
      simp only at hq' ho
      rw [hq] at hq'; cases hq'
      cases ho with | iter _ _ hne m hd hit =>
      have hptr : (Value.pointer (some ⟨q.blk, 0 * q.sz + 0, none⟩)) = .pointer (some ⟨q.blk, 0, none⟩) := by simp
      rw [hptr]
      have hgit : (getObj q.blk).run P w = .ok (.mapIter m es.length seen.toArray es.length) w := by simp [getObj, Sem.run, hit]
      generalize hD : D.mp es = d at hd
      cases hd with
      | mnil =>
        cases hD
        refine ⟨.tuple #[.bool false], w, ?_, Fin.same hs ⟨h1 (fun k hk => absurd hk (by simp)), rfl⟩ (.tup _ _ rfl (fun i hi => by
          match i, hi with
          | 0, _ => exact .d _ _ (.lit _ rfl)))⟩
        simp [Instr.next, hgit, Result.andThen]
      | mp es' B xs hB hs' hh hxl hk hv =>
        cases hD
        have hborn : ∀ i (hi : i < xs.size), (xs[i]).born = i := fun i hi => by
          have := (hk i (by omega)).2
          simpa [Array.getD_eq_getD_getElem?, hi] using this
        obtain ⟨L1, L2⟩ := iter_left xs seen hborn
        have hgm : (getObj B).run P w = .ok (.map xs es.length) w := MapKept.run_getObj_map hh
        have hold : ∀ x ∈ xs.toList, x.born < es.length := by
          intro x hx
          obtain ⟨i, hi, rfl⟩ := List.getElem_of_mem hx
          have hi' : i < xs.size := by simpa using hi
          rw [Array.getElem_toList, hborn i hi']
          omega
        have htest := next_test_false seen.toArray xs es.length es.length hold (Nat.le_refl _)
        have hmem : ∀ x ∈ (leftOf xs seen.toArray).toList, x.born < es.length := fun x hx => hold x (by simp [leftOf] at hx ⊢; exact hx.1)
        have hfil : Array.filter (fun e => !seen.toArray.contains e.born) xs = leftOf xs seen.toArray := rfl
        generalize hLdef : leftOf xs seen.toArray = L at L1 L2 hmem hfil
        have e1 : L.filter (fun x => decide (x.born < es.length)) = L := Array.filter_eq_self.2 (fun x hx => by simpa using hmem x (by simpa using hx))
        have e2 : L.filter (fun x => decide (x.born ≥ es.length)) = #[] := by
          rw [Array.filter_eq_empty_iff]
          intro x hx
          have := hmem x (by simpa using hx)
          simp
          omega
        by_cases h0 : L.size = 0
        · have : L = #[] := Array.eq_empty_of_size_eq_zero h0
          subst this
          refine ⟨.tuple #[.bool false], w, ?_, Fin.same hs ⟨h1 (fun k hk' => L2 rfl k (by omega)), rfl⟩ (.tup _ _ rfl (fun i hi => by
            match i, hi with
            | 0, _ => exact .d _ _ (.lit _ rfl)))⟩
          simp only [Instr.next, Sem.run_bind, hgit, hgm, Result.andThen_ok, htest, Bool.false_eq_true, if_false, hfil, e1, e2]
          simp [choose, Sem.run, Question.forced, Result.andThen]
        · have hne' : L.isEmpty = false := by simp [Array.isEmpty, h0]
          have hch : ∃ (j : Nat) (w1 : World), j < L.size ∧ w1.heap = w.heap ∧ w1.os = w.os ∧ w1.output = w.output ∧ (choose (Question.mapNext L.size)).run P w = .ok j w1 := by
            by_cases hf : L.size ≤ 1
            · exact ⟨0, w, by omega, rfl, rfl, rfl, by simp [choose, Sem.run, Question.forced, hf]⟩
            · exact ⟨_, w.drew, Nat.mod_lt _ (by omega), rfl, rfl, rfl, by
                simp only [choose, Sem.run, Question.forced, decide_eq_true_eq, hf, if_false, Question.cut]
                rfl⟩
          obtain ⟨j, w1, hj, hw1, hw2, hw3, hrun⟩ := hch
          obtain ⟨k, hkx, hke, hks⟩ := L1 L[j] (Array.getElem_mem hj)
          have hkl : k < es.length := by omega
          have hkey := hk k hkl
          have hval := hv k hkl
          have hgetD : xs.getD k default = L[j] := by rw [← hke]; simp [Array.getD_eq_getD_getElem?, hkx]
          rw [hgetD] at hkey hval
          let o' : Go.Obj := .mapIter (some B) es.length (seen.toArray.push L[j].born) es.length
          have hit1 : w1.heap[q.blk]? = some (.mapIter (some B) es.length seen.toArray es.length) := by rw [hw1]; exact hit
          have hset : (setObj q.blk o').run P w1 = .ok () { w1 with heap := w1.heap.setIfInBounds q.blk o' } := by simp [setObj, Sem.run, hit1]
          have hhs := MapKept.heap_set (o' := o') hit1
          obtain ⟨g1, g2⟩ := hs.write (o := .iter es (seen ++ [k])) (w' := { w1 with heap := w1.heap.setIfInBounds q.blk o' }) ⟨_, lookup_mem hl⟩ hq hne (by simp [hw1]) (fun B' hB' => by
            show (w1.heap.setIfInBounds q.blk o')[B']? = _
            rw [hhs.2 B' hB', hw1]) hw2 hw3 (fun ext => by
              refine .iter es (seen ++ [k]) hne (some B) ((DR.mp es B xs hB hs' hh hxl hk hv).ext ext) ?_
              have : (seen ++ [k]).toArray = seen.toArray.push L[j].born := by rw [hkey.2]; simp
              rw [this]; exact hhs.1)
          refine ⟨.tuple #[.bool true, L[j].key, L[j].val], { w1 with heap := w1.heap.setIfInBounds q.blk o' }, ?_, pl, _, _, nx, ⟨h2 k hkl hks, rfl⟩, g1, ?_, g2, fun _ _ h => h⟩
          · simp only [Instr.next, Sem.run_bind, hgit, hgm, Result.andThen_ok, htest, Bool.false_eq_true, if_false, hfil, e1, e2]
            simp only [hne', Bool.false_eq_true, if_false, Array.empty_append, Array.append_empty, Array.size_map, hrun, Result.andThen_ok, Array.getElem?_map, Array.getElem?_eq_getElem hj, Option.map_some, Sem.run_bind]
            rw [show (Go.Obj.mapIter (some B) es.length (seen.toArray.push L[j].born) es.length) = o' from rfl, hset]
            rfl
          · refine .tup _ _ rfl fun i hi => ?_
            match i, hi with
            | 0, _ => exact .d _ _ (.lit _ rfl)
            | 1, _ => rw [← hkey.1]; exact svOf_sound _
            | 2, _ => exact .d _ _ (hval.ext g2.ext)
      | lit => cases hD
    · exact h.elim
  · exact h.elim
def yA (x : SV) (hp : HpT) (K : SV → Prop) : Prop :=
  match x with
  | .ptr id 0 0 => match hp.lookup id with
    | some (.iter es seen) => ∃ k s, seen = s ++ [k] ∧ ∃ hk : k < es.length, K (.tup [svOf (es[k]).1, .d (es[k]).2])
    | _ => False
  | _ => False
theorem run_exEntry {x : SV} {vx : Value} {K : SV → Prop} (hs : HS G O pb pl w hp nx) (hx : SR pl (okOf O pl hp) w x vx) (h : yA x hp K) :
    ∃ r v, K r ∧ SR pl (okOf O pl hp) w r v ∧ (Instr.entry vx).run P w = .ok v w := by
  unfold yA at h
  split at h
  · rename_i id
    cases hx with | ptr _ _ _ q hq =>
    split at h
    · rename_i es seen hl
      obtain ⟨k, s, rfl, hk, hK⟩ := h
      obtain ⟨q', hq', hlt, ho⟩ := hs.obj _ (lookup_mem hl)
      simp only at hq' ho
      rw [hq] at hq'; cases hq'
      cases ho with | iter _ _ hne m hd hit =>
      have hptr : (Value.pointer (some ⟨q.blk, 0 * q.sz + 0, none⟩)) = .pointer (some ⟨q.blk, 0, none⟩) := by simp
      rw [hptr]
      have hgit : (getObj q.blk).run P w = .ok (.mapIter m es.length (s ++ [k]).toArray es.length) w := by simp [getObj, Sem.run, hit]
      generalize hD : D.mp es = d at hd
      cases hd with
      | mnil => cases hD; simp at hk
      | mp es' B xs hB hs' hh hxl hkk hv =>
        cases hD
        have hkx : k < xs.size := by omega
        have hk1 := hkk k hk
        have hv1 := hv k hk
        have hgetD : xs.getD k default = xs[k] := by simp [Array.getD_eq_getD_getElem?, hkx]
        rw [hgetD] at hk1 hv1
        have hgm : (getObj B).run P w = .ok (.map xs es.length) w := MapKept.run_getObj_map hh
        have hfind : xs.find? (fun e => e.born == k) = some xs[k] := by
          rw [← Array.find?_toList]
          have := find_born xs[k] xs.toList (by
            rw [List.nodup_iff_pairwise_ne, List.pairwise_map, List.pairwise_iff_getElem]
            intro i j hi hj hij
            simp only [Array.length_toList] at hi hj
            have a1 := (hkk i (by omega)).2
            have a2 := (hkk j (by omega)).2
            simp only [Array.getD_eq_getD_getElem?, hi, hj, Array.getElem?_eq_getElem, Option.getD_some] at a1 a2
            simp only [Array.getElem_toList, a1, a2]
            omega) (by simp)
          rw [hk1.2] at this
          exact this
        refine ⟨_, .tuple #[(xs[k]).key, (xs[k]).val], hK, .tup _ _ rfl (fun i hi => ?_), ?_⟩
        · match i, hi with
          | 0, _ => rw [← hk1.1]; exact svOf_sound _
          | 1, _ => exact .d _ _ hv1
        · have hback : (s ++ [k]).toArray.back? = some k := by simp
          simp only [Instr.entry, Sem.run_bind, hgit, hgm, Result.andThen_ok, hback, hfind, bne_self_eq_false, Bool.false_eq_true, if_false]
          rfl
      | lit => cases hD
    · exact h.elim
  · exact h.elim
end
end Go.Sy
