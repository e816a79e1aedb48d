/- Lemmas, part ZGG. Conditions: none. -/
import Derived.Test.YtijechcadlklhaaGreatZGF
set_option linter.unusedVariables false
namespace Go.Sy
section
variable {P : Program} {G : Nat → Option (List D)} {ro : Option Nat} {M : Nat} {O : Nat → Prop} {pb : Nat → Option Pl} {ops : Array Oper} {m : List Nat} {evs : List Ev} {st0 stf : St} {Q : Exit → Act → World → Prop}
def EvOk (P : Program) (G : Nat → Option (List D)) (ops : Array Oper) (e : Ev) : Prop :=
  EvAt P G ops e.ld e.o e.st e.r e.hp e.nx ∧ (e.ld = false → quietKind e.o = true)
theorem split_at {evs : List Ev} {e : Ev} (h : e ∈ evs) : ∃ pre post, evs = pre ++ e :: post := List.append_of_mem h
theorem R.look {pl : Nat → Option Pl} {st st' : St} {a : Act} {w : World} (h : R G O M pb pl st a w) (ht : ∀ t, st'.tm.lookup t = st.tm.lookup t) (h1 : st'.hp = st.hp) (h2 : st'.nx = st.nx) (h3 : st'.nt = st.nt) (h4 : st'.df = st.df) (h5 : st'.nb = st.nb) :
    R G O M pb pl st' a w := by
  obtain ⟨tm', hp', nx', nt', df', nb'⟩ := st'
  simp only at h1 h2 h3 h4 h5 ht
  subst h1 h2 h3 h4 h5
  exact ⟨h.hs, fun t s hl => h.tm t s (by rw [← ht]; exact hl), h.nt, h.df, h.bd⟩
structure Inv (G : Nat → Option (List D)) (O : Nat → Prop) (M : Nat) (pb : Nat → Option Pl) (ops : Array Oper) (evs : List Ev) (st0 : St) (own0 : Nat → Prop) (w0 : World) (listed : Array Bool) (pl : Nat → Option Pl) (st : St) (a : Act) (w : World) : Prop where
  sz : listed.size = ops.size
  dn : ∀ i o, listed.getD i false = true → ops[i]? = some o → ∀ e ∈ o.after, Region.binds .any e = true → listed.getD e.on false = true
  r : R G O M pb pl st a w
  step : Step own0 (ownOf pl st.hp) w0 w
  tm : ∀ t, st.tm.lookup t = (foldT (fun i => listed.getD i false) st0.tm evs).lookup t
  hp : (st.hp, st.nx) = foldH (fun i => listed.getD i false) (st0.hp, st0.nx) evs
  nt : st.nt = st0.nt
  df : st.df = st0.df
  nb : st.nb = st0.nb
theorem getD_lt {listed : Array Bool} {i : Nat} (h : i < listed.size) (d d' : Bool) : listed.getD i d = listed.getD i d' := by
  simp [Array.getD_eq_getD_getElem?, h]
theorem getD_set {listed : Array Bool} {i j : Nat} (hi : i < listed.size) : (listed.setIfInBounds i true).getD j false = (if j = i then true else listed.getD j false) := by
  by_cases h : j = i
  · subst h; simp [hi]
  · rw [if_neg h, getD_set_ne false (Ne.symm h)]
theorem apart_1 {x y : Oper} (h : x.apart ops y = true) {t : Tmp} (ht : t ∈ y.looksAt ops) : x.dst ≠ some t := fun hd => (Oper.apart_spec h).1 t hd ht
theorem apart_2 {x y : Oper} (h : x.apart ops y = true) {t : Tmp} (hx : x.dst = some t) : y.dst ≠ some t := (Oper.apart_spec h).2.1 t hx
theorem apart_3 {x y : Oper} (h : x.apart ops y = true) {t : Tmp} (ht : t ∈ x.looksAt ops) : y.dst ≠ some t := fun hd => (Oper.apart_spec h).2.2 t hd ht
theorem Inv.next {own0 : Nat → Prop} {w0 : World} {listed : Array Bool} {pl : Nat → Option Pl} {st : St} {a : Act} {w : World} (hd : DOk ops m evs) (hrun : RunL st0 evs stf) (hev : ∀ e ∈ evs, EvOk P G ops e)
    (stab : evs.Pairwise (fun x y => y.ld = true → Bf m x.i y.i = true ∨ ∀ id, rdEv G x.o x.st = some id → y.hp.lookup id = y.st.hp.lookup id))
    (reads : evs.Pairwise (fun x y => x.ld = true → (rdEv G y.o y.st).isSome = true → Bf m x.i y.i = true))
    (hI : Inv G O M pb ops evs st0 own0 w0 listed pl st a w) {i : Nat} (hi : i ∈ Region.ready .any ops listed) {K : Act → World → Prop}
    (hK : ∀ pl' st' a' w', Inv G O M pb ops evs st0 own0 w0 (listed.setIfInBounds i true) pl' st' a' w' → K a' w') : wpOpIn (Fw ro) 0 P ops Q i K a w := by
  obtain ⟨hun, o, ho, hall⟩ := mem_ready.1 hi
  have hlt : i < ops.size := (Array.getElem?_eq_some_iff.1 ho).1
  have hlt' : i < listed.size := by rw [hI.sz]; exact hlt
  obtain ⟨e, he, rfl⟩ := hd.full i hlt
  have heo : e.o = o := by
    have := hd.get e he
    rw [ho] at this
    exact (Option.some.inj this).symm
  subst heo
  obtain ⟨pre, post, hsp⟩ := split_at he
  let S : Nat → Bool := fun j => listed.getD j false
  have hSe : S e.i = false := by
    show listed.getD e.i false = false
    rw [getD_lt hlt' false true]; exact hun
  have hdn : ∀ i o, S i = true → ops[i]? = some o → ∀ x ∈ o.after, Region.binds .any x = true → S x.on = true := hI.dn
  have hpred : ∀ j, Bf m j e.i = true → S j = true := down hd hdn e.i e.o ho hall
  have hsucc : ∀ y ∈ evs, S y.i = true → Bf m e.i y.i = false := by
    intro y hy hSy
    cases hb : Bf m e.i y.i
    · rfl
    · have := down hd hdn y.i y.o (hd.get y hy) (hdn _ _ hSy (hd.get y hy)) e.i hb
      rw [hSe] at this
      cases this
  have pw : ∀ {Rl : Ev → Ev → Prop}, evs.Pairwise Rl → (∀ x ∈ pre, Rl x e) ∧ (∀ y ∈ post, Rl e y) := by
    intro Rl h
    rw [hsp] at h
    obtain ⟨h1, h2, h3⟩ := List.pairwise_append.1 h
    exact ⟨fun x hx => h3 x hx e List.mem_cons_self, fun y hy => (List.pairwise_cons.1 h2).1 y hy⟩
  have mpre : ∀ x ∈ pre, x ∈ evs := fun x hx => by rw [hsp]; exact List.mem_append_left _ hx
  have mpost : ∀ y ∈ post, y ∈ evs := fun y hy => by rw [hsp]; exact List.mem_append_right _ (List.mem_cons_of_mem _ hy)
  obtain ⟨ap1, ap2⟩ := pw hd.apart
  obtain ⟨ld1, ld2⟩ := pw hd.louds
  obtain ⟨nd1, nd2⟩ := pw hd.nodup
  rw [hsp] at hrun
  obtain ⟨s, hr2, htm, hhp, hnt, hdf, hnb⟩ := hrun.split
  obtain ⟨hs, hq, hpost⟩ := hr2
  subst hs
  have T : ∀ t ∈ e.o.looksAt ops, st.tm.lookup t = e.st.tm.lookup t := by
    intro t ht
    rw [hI.tm t, hsp, foldT_append, htm]
    simp only [foldT]
    show (foldT S (if S e.i = true then _ else _) post).lookup t = _
    rw [hSe]
    simp only [Bool.false_eq_true, if_false]
    rw [foldT_none post _ fun y hy hyd => by
      cases hSy : S y.i
      · rfl
      · have hb := hsucc y (mpost y hy) hSy
        rcases ap2 y hy with h | h
        · rw [hb] at h; cases h
        · exact absurd hyd (apart_3 h ht)]
    exact foldT_lookup pre _ _ (fun x hx hxd => by
      cases hSx : S x.i
      · rcases ap1 x hx with h | h
        · have := hpred _ h; rw [hSx] at this; cases this
        · exact absurd hxd (apart_1 h ht)
      · exact hSx) rfl
  have hhead : foldH S (st0.hp, st0.nx) evs = foldH S (foldH S (st0.hp, st0.nx) pre) post := by
    rw [hsp, foldH_append]
    simp only [foldH, hSe, Bool.false_and, Bool.false_eq_true, if_false]
  have hpI : (st.hp, st.nx) = foldH S (foldH S (st0.hp, st0.nx) pre) post := by
    rw [← hhead]; exact hI.hp
  have hS' : ∀ j, (listed.setIfInBounds e.i true).getD j false = (if j = e.i then true else S j) := fun j => getD_set hlt'
  have hSe' : (listed.setIfInBounds e.i true).getD e.i false = true := by rw [hS', if_pos rfl]
  have hEv := hev e he
  have hnt' : st.nt = e.st.nt := by rw [hI.nt, hnt]
  have key : ∀ hp2 nx2, EvAt P G ops e.ld e.o st e.r hp2 nx2 → (hp2, nx2) = foldH (fun j => (listed.setIfInBounds e.i true).getD j false) (st0.hp, st0.nx) evs → wpOpIn (Fw ro) 0 P ops Q e.i K a w := by
    intro hp2 nx2 hat hfold
    refine hat.sound ho hI.r fun pl' a' w' hR' hst' => hK pl' ⟨putT e.o.dst e.r st.tm, hp2, nx2, st.nt, st.df, st.nb⟩ a' w' ?_
    refine ⟨by simp [hI.sz], ?_, hR', hI.step.trans hst', ?_, hfold, hI.nt, hI.df, hI.nb⟩
    · intro j oj hj hoj x hx hb
      rw [hS'] at hj ⊢
      split
      · rfl
      · by_cases hje : j = e.i
        · subst hje
          rw [ho] at hoj
          cases hoj
          exact hall x hx hb
        · rw [if_neg hje] at hj
          exact hdn j oj hj hoj x hx hb
    · intro t
      by_cases hdt : e.o.dst = some t
      · simp only [hdt, putT_lookup_eq]
        rw [hsp, foldT_append]
        simp only [foldT]
        rw [if_pos hSe']
        rw [foldT_none post _ fun y hy hyd => by
          have hne : y.i ≠ e.i := fun h => nd2 y hy h.symm
          show (listed.setIfInBounds e.i true).getD y.i false = false
          rw [hS', if_neg hne]
          cases hSy : S y.i
          · rfl
          · have hb := hsucc y (mpost y hy) hSy
            rcases ap2 y hy with h | h
            · rw [hb] at h; cases h
            · exact absurd hyd (apart_2 h hdt)]
        rw [hdt, putT_lookup_eq]
      · simp only
        rw [putT_lookup_ne hdt, hI.tm t]
        refine foldT_lookup evs _ _ (fun x hx hxd => ?_) rfl
        show S x.i = (listed.setIfInBounds e.i true).getD x.i false
        rw [hS']
        have hne : x.i ≠ e.i := by
          intro hc
          have h1 := hd.get x hx
          rw [hc, ho] at h1
          have : x.o = e.o := (Option.some.inj h1).symm
          rw [this] at hxd
          exact hdt hxd
        rw [if_neg hne]
  cases hl : e.ld with
  | true =>
    have hpre : foldH S (st0.hp, st0.nx) pre = (e.st.hp, e.st.nx) := by
      rw [hhp]
      exact foldH_congr pre _ fun x hx hxl => hpred _ (ld1 x hx hxl hl)
    have hpost0 : ∀ y ∈ post, y.ld = true → S y.i = false := by
      intro y hy hyl
      cases hSy : S y.i
      · rfl
      · have := hsucc y (mpost y hy) hSy
        rw [ld2 y hy hl hyl] at this
        cases this
    have hcur : (st.hp, st.nx) = (e.st.hp, e.st.nx) := by
      rw [hpI, hpre, foldH_none post _ hpost0]
    obtain ⟨c1, c2⟩ := Prod.mk.inj hcur
    refine key e.hp e.nx (hEv.1.move T hnt' (.inl ⟨c1, c2, rfl, rfl⟩)) ?_
    rw [hsp, foldH_append]
    simp only [foldH, hl, Bool.and_true]
    rw [if_pos hSe']
    rw [foldH_none post _ fun y hy hyl => by
      rw [hS', if_neg fun h => nd2 y hy h.symm]
      exact hpost0 y hy hyl]
  | false =>
    obtain ⟨q1, q2⟩ := hq hl
    refine key st.hp st.nx (hEv.1.move T hnt' (.inr ⟨hl, hEv.2 hl, q1, q2, rfl, rfl, fun id hid => ?_⟩)) ?_
    · have hpre : foldH S (st0.hp, st0.nx) pre = (e.st.hp, e.st.nx) := by
        rw [hhp]
        refine foldH_congr pre _ fun x hx hxl => hpred _ ((pw reads).1 x hx hxl (by rw [hid]; rfl))
      have h1 : st.hp = (foldH S (e.st.hp, e.st.nx) post).1 := by
        rw [← hpre, ← hpI]
      rw [h1]
      have hn : ((nextSt e).hp, (nextSt e).nx) = (e.st.hp, e.st.nx) := by simp [nextSt, q1, q2]
      rw [← hn]
      rw [show e.st.hp = (nextSt e).hp from (Prod.mk.inj hn).1.symm]
      refine foldH_stable hpost (fun y hy hyl hSy => ?_) ?_
      · rcases (pw stab).2 y hy hyl with h | h
        · have := hsucc y (mpost y hy) hSy
          rw [h] at this
          cases this
        · exact h id hid
      · have hpp : post.Pairwise (fun x y => x.ld = true → y.ld = true → Bf m x.i y.i = true) := by
          have h := hd.louds
          rw [hsp] at h
          exact (List.pairwise_cons.1 (List.pairwise_append.1 h).2.1).2
        refine hpp.imp_of_mem fun {x y} hx hy h hxl hyl hSy => ?_
        exact down hd hdn y.i y.o (hd.get y (mpost y hy)) (hdn _ _ hSy (hd.get y (mpost y hy))) x.i (h hxl hyl)
    · rw [hI.hp]
      refine foldH_congr evs _ fun x hx hxl => ?_
      show S x.i = _
      rw [hS']
      have hne : x.i ≠ e.i := by
        intro hc
        have hxe : x = e ∨ x ∈ pre ∨ x ∈ post := by
          rw [hsp] at hx
          rcases List.mem_append.1 hx with h | h
          · exact .inr (.inl h)
          · rcases List.mem_cons.1 h with h | h
            · exact .inl h
            · exact .inr (.inr h)
        rcases hxe with h | h | h
        · rw [h, hl] at hxl; cases hxl
        · exact nd1 x h hc
        · exact nd2 x h hc.symm
      rw [if_neg hne]
theorem draw_sim {own0 : Nat → Prop} {w0 : World} (hd : DOk ops m evs) (hrun : RunL st0 evs stf) (hev : ∀ e ∈ evs, EvOk P G ops e)
    (stab : evs.Pairwise (fun x y => y.ld = true → Bf m x.i y.i = true ∨ ∀ id, rdEv G x.o x.st = some id → y.hp.lookup id = y.st.hp.lookup id))
    (reads : evs.Pairwise (fun x y => x.ld = true → (rdEv G y.o y.st).isSome = true → Bf m x.i y.i = true))
    (hQ : ∀ pl a w, R G O M pb pl stf a w → Step own0 (ownOf pl stf.hp) w0 w → Q .normal a w) :
    ∀ (fuel : Nat) (listed : Array Bool) (pl : Nat → Option Pl) (st : St) (a : Act) (w : World), (evs.filter fun e => !listed.getD e.i false).length = fuel →
      Inv G O M pb ops evs st0 own0 w0 listed pl st a w → wpAnyIn (Fw ro) 0 P .any ops Q fuel listed a w := by
  intro fuel
  induction fuel with
  | zero =>
    intro listed pl st a w hf hI
    have hall : ∀ e ∈ evs, listed.getD e.i false = true := by
      intro e he
      have h0 : evs.filter (fun e => !listed.getD e.i false) = [] := List.length_eq_zero_iff.1 hf
      have := List.filter_eq_nil_iff.1 h0 e he
      simpa using this
    refine ⟨?_, ?_⟩
    · refine List.eq_nil_iff_forall_not_mem.2 fun i hi => ?_
      obtain ⟨hun, o, ho, _⟩ := mem_ready.1 hi
      have hlt : i < ops.size := (Array.getElem?_eq_some_iff.1 ho).1
      obtain ⟨e, he, rfl⟩ := hd.full i hlt
      have := hall e he
      rw [getD_lt (by rw [hI.sz]; exact hlt) false true, hun] at this
      cases this
    · obtain ⟨s, h1, h2, h3, h4, h5, h6⟩ := RunL.split (pre := evs) (post := []) (by simpa using hrun)
      have hsf : stf = s := h1
      subst hsf
      have e1 : (st.hp, st.nx) = (stf.hp, stf.nx) := by
        rw [hI.hp, h3]
        exact foldH_congr evs _ fun e he _ => hall e he
      obtain ⟨c1, c2⟩ := Prod.mk.inj e1
      refine hQ pl a w (hI.r.look (fun t => ?_) c1.symm c2.symm (by rw [h4, hI.nt]) (by rw [h5, hI.df]) (by rw [h6, hI.nb])) ?_
      · rw [hI.tm t, h2]
        exact foldT_lookup evs _ _ (fun e he _ => (hall e he).symm) rfl
      · rw [← c1]; exact hI.step
  | succ fuel ih =>
    intro listed pl st a w hf hI
    have hne : Region.ready .any ops listed ≠ [] := by
      intro h0
      have hex : ∃ pre e post, evs = pre ++ e :: post ∧ listed.getD e.i false = false ∧ ∀ x ∈ pre, listed.getD x.i false = true := by
        have : ∀ (l : List Ev), (l.filter fun e => !listed.getD e.i false).length ≠ 0 → ∃ pre e post, l = pre ++ e :: post ∧ listed.getD e.i false = false ∧ ∀ x ∈ pre, listed.getD x.i false = true := by
          intro l
          induction l with
          | nil => intro h; simp at h
          | cons x l ihl =>
            intro h
            cases hx : listed.getD x.i false
            · exact ⟨[], x, l, rfl, hx, fun _ h => by simp at h⟩
            · obtain ⟨pre, e, post, h1, h2, h3⟩ := ihl (by rw [List.filter_cons_of_neg (by rw [hx]; decide)] at h; exact h)
              refine ⟨x :: pre, e, post, by rw [h1]; rfl, h2, fun y hy => ?_⟩
              rcases List.mem_cons.1 hy with rfl | hy
              · exact hx
              · exact h3 y hy
        exact this evs (by omega)
      obtain ⟨pre, e, post, hsp, hun, hpre⟩ := hex
      have he : e ∈ evs := by rw [hsp]; simp
      have hlt : e.i < ops.size := (Array.getElem?_eq_some_iff.1 (hd.get e he)).1
      have hmem : e.i ∈ Region.ready .any ops listed := by
        refine mem_ready.2 ⟨by rw [getD_lt (by rw [hI.sz]; exact hlt) true false]; exact hun, e.o, hd.get e he, fun x hx hb => ?_⟩
        have hback := hd.back _ _ (hd.get e he) x hx hb
        obtain ⟨y, hy, hyi⟩ := hd.full x.on (by omega)
        have hbit : Bf m y.i e.i = true := by
          unfold Bf
          rw [hd.bef _ _ (hd.get e he), hyi]
          exact orE_edge hb (by simpa using hx)
        have hext := hd.ext
        rw [hsp] at hext hy
        rcases List.mem_append.1 hy with h | h
        · rw [← hyi]; exact hpre y h
        · rcases List.mem_cons.1 h with h | h
          · subst h; omega
          · have := (List.pairwise_cons.1 (List.pairwise_append.1 hext).2.1).1 y h
            rw [hbit] at this
            cases this
      rw [h0] at hmem
      cases hmem
    refine ⟨fun h => absurd h hne, fun i hi => ?_⟩
    refine Inv.next hd hrun hev stab reads hI hi fun pl' st' a' w' hI' => ih _ pl' st' a' w' ?_ hI'
    obtain ⟨hun, o, ho, _⟩ := mem_ready.1 hi
    have hlt : i < ops.size := (Array.getElem?_eq_some_iff.1 ho).1
    have hlt' : i < listed.size := by rw [hI.sz]; exact hlt
    obtain ⟨e, he, rfl⟩ := hd.full i hlt
    have hun' : listed.getD e.i false = false := by rw [getD_lt hlt' false true]; exact hun
    have cnt : ∀ (l : List Ev), l.Pairwise (fun x y => x.i ≠ y.i) →
        (e ∈ l → (l.filter fun x => !(listed.setIfInBounds e.i true).getD x.i false).length + 1 = (l.filter fun x => !listed.getD x.i false).length) ∧
        ((∀ x ∈ l, x.i ≠ e.i) → (l.filter fun x => !(listed.setIfInBounds e.i true).getD x.i false).length = (l.filter fun x => !listed.getD x.i false).length) := by
      intro l
      induction l with
      | nil => intro _; simp
      | cons x l ihl =>
        intro hp
        obtain ⟨hp1, hp2⟩ := List.pairwise_cons.1 hp
        obtain ⟨i2, i3⟩ := ihl hp2
        refine ⟨fun h => ?_, fun h => ?_⟩
        · by_cases hx : x.i = e.i
          · have := i3 fun y hy hc => hp1 y hy (by rw [hx, hc])
            rw [List.filter_cons, List.filter_cons, getD_set hlt', if_pos hx, hx, hun']
            simp only [Bool.not_true, Bool.false_eq_true, if_false, Bool.not_false, if_true, List.length_cons]
            rw [this]
          · have hmem : e ∈ l := by
              rcases List.mem_cons.1 h with h | h
              · subst h; exact absurd rfl hx
              · exact h
            have := i2 hmem
            rw [List.filter_cons, List.filter_cons, getD_set hlt', if_neg hx]
            split
            · simp only [List.length_cons]; omega
            · exact this
        · have hx : x.i ≠ e.i := h x List.mem_cons_self
          have := i3 fun y hy => h y (List.mem_cons_of_mem _ hy)
          rw [List.filter_cons, List.filter_cons, getD_set hlt', if_neg hx]
          split
          · simp only [List.length_cons]; omega
          · exact this
    have := (cnt evs hd.nodup).1 he
    omega
end
end Go.Sy
namespace Go.Sy
def stabOk (hp hp' : HpT) : List Nat → Prop
  | [] => True
  | id :: l => hp'.lookup id = hp.lookup id ∧ stabOk hp hp' l
def addRd (x : Option Nat) (l : List Nat) : List Nat := match x with | some id => id :: l | none => l
def ldOk (ld : Bool) (hp hp' : HpT) (nx nx' : Nat) (lds : List Nat) : Prop := match ld with | true => stabOk hp hp' lds | false => hp' = hp ∧ nx' = nx
def exD (P : Program) (G : Nat → Option (List D)) (ops : Array Oper) (ul : List Nat) : List (Nat × Oper × Bool) → St → List Nat → (St → Prop) → Prop
  | [], st, _, K => K st
  | (i, o, ld) :: os, st, lds, K => dstOk o.dst st.nt ∧
    match o.guard with
    | none => match o.op with
      | .call ⟨.value f, args, _⟩ => match ev G st.tm f with
        | .clo (.func fid) first cap => match ld with
          | false => ∃ r, CallP P G fid (first ++ args.toList.map (ev G st.tm) ++ cap) r ∧ exD P G ops ul os ⟨putT o.dst r st.tm, st.hp, st.nx, st.nt, st.df, st.nb⟩ lds K
          | true => ∃ r hp' nx', CallH P G fid (first ++ args.toList.map (ev G st.tm) ++ cap) st.hp st.nx (Det r hp' nx') ∧ stabOk st.hp hp' lds ∧ exD P G ops ul os ⟨putT o.dst r st.tm, hp', nx', st.nt, st.df, st.nb⟩ lds K
        | _ => False
      | .next .. => False
      | _ => exq P G o (ev G st.tm) st.hp st.nx fun r hp' nx' => ldOk ld st.hp hp' st.nx nx' lds ∧
          exD P G ops ul os ⟨putT o.dst r st.tm, hp', nx', st.nt, st.df, st.nb⟩ (if ul.contains i then addRd (zJ o (ev G st.tm)) lds else lds) K
    | some (j, want) => match (ops.toList[j]?).bind (·.dst) with
      | some g => match gcond ((st.tm.lookup g).getD .unk) want with
        | some b => match ld with
          | false => ∃ r0, (b = true → exP P G o (fun x => gstrip (ev G st.tm x)) st.hp st.nx r0 st.hp st.nx) ∧
            exD P G ops ul os ⟨putT o.dst (.whn b r0) st.tm, st.hp, st.nx, st.nt, st.df, st.nb⟩ (if ul.contains i then addRd (zJ o (fun x => gstrip (ev G st.tm x))) lds else lds) K
          | true => b = true ∧ ∃ r0 hp' nx', exq P G o (fun x => gstrip (ev G st.tm x)) st.hp st.nx (Det r0 hp' nx') ∧ stabOk st.hp hp' lds ∧
            exD P G ops ul os ⟨putT o.dst (.whn true r0) st.tm, hp', nx', st.nt, st.df, st.nb⟩ (if ul.contains i then addRd (zJ o (fun x => gstrip (ev G st.tm x))) lds else lds) K
        | none => False
      | none => False
section
variable {P : Program} {G : Nat → Option (List D)} {ro : Option Nat} {ops : Array Oper} {ul : List Nat}
theorem stabOk_mem {hp hp' : HpT} : ∀ {l : List Nat}, stabOk hp hp' l → ∀ id ∈ l, hp'.lookup id = hp.lookup id
  | [], _, _, h => by simp at h
  | x :: l, ⟨h1, h2⟩, id, h => by
    rcases List.mem_cons.1 h with rfl | h
    · exact h1
    · exact stabOk_mem h2 id h
theorem yP {K : St → Prop} : ∀ (L : List (Nat × Oper × Bool)) (st : St) (lds : List Nat), exD P G ops ul L st lds K →
    ∃ evs stf, RunL st evs stf ∧ evs.map (fun e => (e.i, e.o, e.ld)) = L ∧ (∀ e ∈ evs, EvAt P G ops e.ld e.o e.st e.r e.hp e.nx) ∧
      (∀ e ∈ evs, e.ld = true → ∀ id ∈ lds, e.hp.lookup id = e.st.hp.lookup id) ∧
      evs.Pairwise (fun x y => y.ld = true → ul.contains x.i = true → ∀ id, rdEv G x.o x.st = some id → y.hp.lookup id = y.st.hp.lookup id) ∧ K stf
  | [], st, lds, h => ⟨[], st, rfl, rfl, fun _ h => by simp at h, fun _ h => by simp at h, .nil, h⟩
  | (i, o, ld) :: os, st, lds, h => by
    obtain ⟨hd, h⟩ := h
    have key : ∀ (r : SV) (hp' : HpT) (nx' : Nat) (lds' : List Nat), EvAt P G ops ld o st r hp' nx' → (ld = false → hp' = st.hp ∧ nx' = st.nx) → (ld = true → ∀ id ∈ lds, hp'.lookup id = st.hp.lookup id) →
        (∀ id ∈ lds, id ∈ lds') → (ul.contains i = true → ∀ id, rdEv G o st = some id → id ∈ lds') → exD P G ops ul os ⟨putT o.dst r st.tm, hp', nx', st.nt, st.df, st.nb⟩ lds' K →
        ∃ evs stf, RunL st evs stf ∧ evs.map (fun e => (e.i, e.o, e.ld)) = (i, o, ld) :: os ∧ (∀ e ∈ evs, EvAt P G ops e.ld e.o e.st e.r e.hp e.nx) ∧
          (∀ e ∈ evs, e.ld = true → ∀ id ∈ lds, e.hp.lookup id = e.st.hp.lookup id) ∧
          evs.Pairwise (fun x y => y.ld = true → ul.contains x.i = true → ∀ id, rdEv G x.o x.st = some id → y.hp.lookup id = y.st.hp.lookup id) ∧ K stf := by
      intro r hp' nx' lds' he hq hs hsub hrd hex
      obtain ⟨evs, stf, h1, h2, h3, h4, h5, h6⟩ := yP os _ lds' hex
      refine ⟨⟨i, o, ld, st, r, hp', nx'⟩ :: evs, stf, ⟨rfl, hq, h1⟩, by simp [h2], ?_, ?_, List.pairwise_cons.2 ⟨?_, h5⟩, h6⟩
      · intro e hem
        rcases List.mem_cons.1 hem with rfl | hem
        · exact he
        · exact h3 e hem
      · intro e hem hl id hid
        rcases List.mem_cons.1 hem with rfl | hem
        · exact hs hl id hid
        · exact h4 e hem hl id (hsub id hid)
      · intro y hy hyl hul id hid
        exact h4 y hy hyl id (hrd hul id hid)
    cases hg : o.guard with
    | none =>
      rw [hg] at h
      simp only at h
      cases hv : callV o with
      | true =>
        unfold callV at hv
        split at hv
        · rename_i f args ats ho
          rw [ho] at h
          simp only at h
          split at h
          · rename_i fid first cap hf
            cases ld with
            | false =>
              obtain ⟨r, hc, hex⟩ := h
              refine key r st.hp st.nx lds ⟨hd, ?_⟩ (fun _ => ⟨rfl, rfl⟩) (fun h => by cases h) (fun _ h => h) (fun _ id hid => ?_) hex
              · rw [hg]
                simp only [exP, ho, hf]
                exact ⟨hc, trivial, trivial⟩
              · simp only [rdEv, hg, zJ, ho] at hid
                cases hid
            | true =>
              obtain ⟨r, hp', nx', hc, hst, hex⟩ := h
              refine key r hp' nx' lds ⟨hd, ?_⟩ (fun h => by cases h) (fun _ => stabOk_mem hst) (fun _ h => h) (fun _ id hid => ?_) hex
              · rw [hg]
                simp only
                unfold exq
                rw [ho]
                simp only [zB, hf]
                exact hc
              · simp only [rdEv, hg, zJ, ho] at hid
                cases hid
          · exact h.elim
        · rename_i ho
          rw [ho] at h
          exact h.elim
        · cases hv
      | false =>
        have h' : exq P G o (ev G st.tm) st.hp st.nx fun r hp' nx' => ldOk ld st.hp hp' st.nx nx' lds ∧
            exD P G ops ul os ⟨putT o.dst r st.tm, hp', nx', st.nt, st.df, st.nb⟩ (if ul.contains i then addRd (zJ o (ev G st.tm)) lds else lds) K := by
          clear key
          obtain ⟨dst, op, type, pos, after, guard⟩ := o
          simp only at h ⊢
          cases op <;> try exact h
          · rename_i x b
            simp [callV] at hv
          · rename_i c
            obtain ⟨callee, args, ats⟩ := c
            cases callee <;> first | exact h | simp [callV] at hv
        obtain ⟨r, hp', nx', ⟨hl, hex⟩, hdet⟩ := exq_det hv h'
        refine key r hp' nx' _ ⟨hd, ?_⟩ (fun hf => ?_) (fun ht => ?_) (fun id hid => ?_) (fun hu id hid => ?_) hex
        · rw [hg]
          simp only
          cases ld
          · simp only
            rw [yI hv]
            exact hdet
          · exact hdet
        · subst hf; exact hl
        · subst ht; exact stabOk_mem hl
        · split
          · unfold addRd
            split
            · exact List.mem_cons_of_mem _ hid
            · exact hid
          · exact hid
        · rw [if_pos hu]
          simp only [rdEv, hg] at hid
          rw [hid]
          exact List.mem_cons_self
    | some jw =>
      obtain ⟨j, want⟩ := jw
      rw [hg] at h
      simp only at h
      have hlds : ∀ id ∈ lds, id ∈ (if ul.contains i = true then addRd (zJ o (fun x => gstrip (ev G st.tm x))) lds else lds) := fun id hid => by
        split
        · unfold addRd
          split
          · exact List.mem_cons_of_mem _ hid
          · exact hid
        · exact hid
      have hrds : ul.contains i = true → ∀ id, rdEv G o st = some id → id ∈ (if ul.contains i = true then addRd (zJ o (fun x => gstrip (ev G st.tm x))) lds else lds) := fun hu id hid => by
        rw [if_pos hu]
        simp only [rdEv, hg] at hid
        rw [hid]
        exact List.mem_cons_self
      split at h
      · rename_i g hgd
        split at h
        · rename_i b hb
          cases ld with
          | false =>
            obtain ⟨r0, hx, hex⟩ := h
            refine key (.whn b r0) st.hp st.nx _ ⟨hd, ?_⟩ (fun _ => ⟨rfl, rfl⟩) (fun h => by cases h) hlds hrds hex
            rw [hg]
            exact ⟨g, b, r0, by simpa using hgd, hb, rfl, .inl ⟨rfl, rfl, hx⟩⟩
          | true =>
            obtain ⟨rfl, r0, hp', nx', hx, hst, hex⟩ := h
            refine key (.whn true r0) hp' nx' _ ⟨hd, ?_⟩ (fun h => by cases h) (fun _ => stabOk_mem hst) hlds hrds hex
            rw [hg]
            exact ⟨g, true, r0, by simpa using hgd, hb, rfl, .inr ⟨rfl, rfl, hx⟩⟩
        · exact h.elim
      · exact h.elim
def isRd (o : Oper) : Bool := match o.op with | .load .. => true | _ => false
theorem rdEv_isRd {o : Oper} {st : St} (h : (rdEv G o st).isSome = true) : isRd o = true := by
  unfold rdEv at h
  split at h
  all_goals
    unfold zJ at h
    unfold isRd
    split at h
    · rename_i ho; rw [ho]
    · cases h
def pairB {α : Type} (f : α → α → Bool) : List α → Bool
  | [] => true
  | x :: l => l.all (f x) && pairB f l
theorem pairB_spec {α : Type} {f : α → α → Bool} : ∀ {l : List α}, pairB f l = true → l.Pairwise (fun x y => f x y = true)
  | [], _ => .nil
  | x :: l, h => by
    simp only [pairB, Bool.and_eq_true, List.all_eq_true] at h
    exact .cons (fun y hy => h.1 y hy) (pairB_spec h.2)
def dPair (m : List Nat) (ops : Array Oper) (ul : List Nat) (x y : Nat × Oper × Bool) : Bool :=
  x.1 != y.1 && !Bf m y.1 x.1 && (Bf m x.1 y.1 || x.2.1.apart ops y.2.1 && !(x.2.2 && y.2.2) && !(x.2.2 && isRd y.2.1) && (!(y.2.2 && isRd x.2.1) || ul.contains x.1))
def dChk (m : List Nat) (ops : Array Oper) (ul : List Nat) (L : List (Nat × Oper × Bool)) : Bool :=
  L.length == ops.size && pairB (dPair m ops ul) L && L.all (fun x => x.2.2 || quietKind x.2.1) && (List.range ops.size).all (fun i => L.any (·.1 == i)) &&
  (List.range ops.size).all fun q => match ops[q]? with | some o => m.getD q 0 == orE m o.after.toList && o.after.toList.all (fun e => !Region.binds .any e || e.on < q) | none => true
def mkL (louds : List Nat) (ops : List Oper) : List Nat → List (Nat × Oper × Bool)
  | [] => []
  | i :: is => match ops[i]? with
    | some o => (i, o, louds.contains i) :: mkL louds ops is
    | none => mkL louds ops is
theorem mkL_get {louds : List Nat} {ops : List Oper} : ∀ {is : List Nat} {x : Nat × Oper × Bool}, x ∈ mkL louds ops is → ops[x.1]? = some x.2.1
  | [], _, h => by simp [mkL] at h
  | i :: is, x, h => by
    unfold mkL at h
    split at h
    · rename_i o ho
      rcases List.mem_cons.1 h with rfl | h
      · exact ho
      · exact mkL_get h
    · exact mkL_get h
theorem DOk_of {m : List Nat} {L : List (Nat × Oper × Bool)} {evs : List Ev} (hc : dChk m ops ul L = true) (hg : ∀ x ∈ L, ops[x.1]? = some x.2.1) (hm : evs.map (fun e => (e.i, e.o, e.ld)) = L) :
    DOk ops m evs ∧ (∀ e ∈ evs, e.ld = false → quietKind e.o = true) ∧ evs.Pairwise (fun x y => x.ld = true → isRd y.o = true → Bf m x.i y.i = true) ∧
      evs.Pairwise (fun x y => y.ld = true → isRd x.o = true → Bf m x.i y.i = true ∨ ul.contains x.i = true) := by
  simp only [dChk, Bool.and_eq_true] at hc
  obtain ⟨⟨⟨⟨h0, h1⟩, h2⟩, h3⟩, h4⟩ := hc
  have hp := pairB_spec h1
  rw [← hm, List.pairwise_map] at hp
  have hp' : evs.Pairwise (fun x y => x.i ≠ y.i ∧ Bf m y.i x.i = false ∧ (Bf m x.i y.i = true ∨ (x.o.apart ops y.o = true ∧ ¬(x.ld = true ∧ y.ld = true) ∧ ¬(x.ld = true ∧ isRd y.o = true) ∧ (¬(y.ld = true ∧ isRd x.o = true) ∨ ul.contains x.i = true)))) := by
    refine hp.imp fun {x y} h => ?_
    simp only [dPair, Bool.and_eq_true, bne_iff_ne, ne_eq, Bool.not_eq_true', Bool.or_eq_true] at h
    obtain ⟨⟨a1, a2⟩, a3⟩ := h
    refine ⟨a1, a2, ?_⟩
    rcases a3 with a3 | ⟨⟨⟨a3, a4⟩, a5⟩, a6⟩
    · exact .inl a3
    · refine .inr ⟨a3, fun ⟨u, v⟩ => by simp [u, v] at a4, fun ⟨u, v⟩ => by simp [u, v] at a5, ?_⟩
      rcases a6 with a6 | a6
      · exact .inl fun ⟨u, v⟩ => by simp [u, v] at a6
      · exact .inr a6
  have mem : ∀ e ∈ evs, (e.i, e.o, e.ld) ∈ L := fun e he => by rw [← hm]; exact List.mem_map_of_mem (f := fun e : Ev => (e.i, e.o, e.ld)) he
  refine ⟨⟨fun e he => hg _ (mem e he), fun i hi => ?_, hp'.imp fun h => h.1, hp'.imp fun h => h.2.1, hp'.imp fun h => h.2.2.imp id fun h => h.1, hp'.imp fun h => ?_, fun q o ho => ?_, fun q o ho e he hb => ?_⟩, fun e he hl => ?_, hp'.imp fun h hx hy => ?_, hp'.imp fun h hy hx => ?_⟩
  · have := List.all_eq_true.1 h3 i (List.mem_range.2 hi)
    obtain ⟨x, hx, hxi⟩ := List.any_eq_true.1 this
    rw [← hm] at hx
    obtain ⟨e, he, rfl⟩ := List.mem_map.1 hx
    exact ⟨e, he, by simpa using hxi⟩
  · intro hx hy
    rcases h.2.2 with h | h
    · exact h
    · exact absurd ⟨hx, hy⟩ h.2.1
  · have hq : q < ops.size := (Array.getElem?_eq_some_iff.1 ho).1
    have := List.all_eq_true.1 h4 q (List.mem_range.2 hq)
    rw [ho] at this
    simp only [Bool.and_eq_true, beq_iff_eq] at this
    exact this.1
  · have hq : q < ops.size := (Array.getElem?_eq_some_iff.1 ho).1
    have := List.all_eq_true.1 h4 q (List.mem_range.2 hq)
    rw [ho] at this
    simp only [Bool.and_eq_true, List.all_eq_true] at this
    have := this.2 e (by simpa using he)
    simpa [hb] using this
  · have := List.all_eq_true.1 h2 _ (mem e he)
    simpa [hl] using this
  · rcases h.2.2 with h | h
    · exact h
    · exact absurd ⟨hx, hy⟩ h.2.2.1
  · rcases h.2.2 with h | h
    · exact .inl h
    · rcases h.2.2.2 with h | h
      · exact absurd ⟨hy, hx⟩ h
      · exact .inr h
theorem Tr.draw {id : Nat} {L : List (Nat × Oper × Bool)} {st : St} {Q : Exit → St → Prop} (hmix : P.follows .mixedOrders = true) (hc : dChk (Region.before ops).toList ops ul L = true) (hg : ∀ x ∈ L, ops[x.1]? = some x.2.1)
    (h : exD P G ops ul L st [] (Q .normal)) : Tr P G ro (.region id ops true) st Q := by
  intro O M pb pl a w hR
  obtain ⟨evs, stf, h1, h2, h3, h4, h5, h6⟩ := yP L st [] h
  obtain ⟨d1, d2, d3, d4⟩ := DOk_of hc hg h2
  refine wpIn_region_any hmix ?_
  have hst : Step (ownOf pl st.hp) (ownOf pl st.hp) w { w with drawn := w.drawn + 1 } := ⟨Nat.le_refl _, fun _ _ _ => rfl, rfl, rfl, fun _ h => .inl h⟩
  have hadd : Add w { w with drawn := w.drawn + 1 } := ⟨Nat.le_refl _, fun _ _ => rfl, rfl, rfl⟩
  refine draw_sim (own0 := ownOf pl st.hp) (w0 := w) d1 h1 (fun e he => ⟨h3 e he, d2 e he⟩) ?_ ?_ (fun pl' a' w' hR' hs' => ⟨pl', stf, h6, hR', hs'⟩) ops.size (Array.replicate ops.size false) pl st a _ ?_ ?_
  · refine (d4.and h5).imp fun {x y} ⟨h1, h2⟩ hl => ?_
    by_cases hr : isRd x.o = true
    · rcases h1 hl hr with h | h
      · exact .inl h
      · exact .inr fun id hid => h2 hl h id hid
    · exact .inr fun id hid => absurd (rdEv_isRd (by rw [hid]; rfl)) hr
  · exact d3.imp fun h hl hr => h hl (rdEv_isRd hr)
  · have hlen : L.length = ops.size := by
      simp only [dChk, Bool.and_eq_true] at hc
      simpa using hc.1.1.1.1
    have : ∀ e : Ev, (!(Array.replicate ops.size false).getD e.i false) = true := fun e => by
      by_cases hlt : e.i < ops.size <;> simp [hlt]
    rw [List.filter_eq_self.2 fun e _ => this e, ← hlen, ← h2, List.length_map]
  · have h0 : ∀ i, (Array.replicate ops.size false).getD i false = false := fun i => by
      by_cases hlt : i < ops.size <;> simp [hlt]
    refine ⟨by simp, fun i o hi => ?_, ⟨hR.hs.add hadd, hR.tm.ext hadd.ext (fun _ _ h => h), hR.nt, hR.dfStep hst, hR.bd⟩, hst, fun t => ?_, ?_, rfl, rfl, rfl⟩
    · rw [h0] at hi; cases hi
    · rw [foldT_none evs _ fun e _ _ => h0 e.i]
    · rw [foldH_none evs _ fun e _ _ => h0 e.i]
end
end Go.Sy
namespace Go.Sy
section
variable {P : Program} {G : Nat → Option (List D)} {ro : Option Nat} {ops : Array Oper} {ul : List Nat}
def exY (P : Program) (G : Nat → Option (List D)) (ops : Array Oper) (ul louds is : List Nat) (st : St) (lds : List Nat) (K : St → Prop) : Prop := exD P G ops ul (mkL louds ops.toList is) st lds K
def CallD (P : Program) (G : Nat → Option (List D)) (ops : Array Oper) (ul louds : List Nat) (dst : Option Tmp) (f : FuncId) (args : List SV) (is : List Nat) (st : St) (lds : List Nat) (K : St → Prop) : Prop :=
  ∃ r, CallP P G f args r ∧ exD P G ops ul (mkL louds ops.toList is) ⟨putT dst r st.tm, st.hp, st.nx, st.nt, st.df, st.nb⟩ lds K
def CallL (P : Program) (G : Nat → Option (List D)) (ops : Array Oper) (ul louds : List Nat) (dst : Option Tmp) (f : FuncId) (args : List SV) (is : List Nat) (st : St) (lds : List Nat) (K : St → Prop) : Prop :=
  ∃ r hp' nx', CallH P G f args st.hp st.nx (Det r hp' nx') ∧ stabOk st.hp hp' lds ∧ exD P G ops ul (mkL louds ops.toList is) ⟨putT dst r st.tm, hp', nx', st.nt, st.df, st.nb⟩ lds K
def GdD (P : Program) (G : Nat → Option (List D)) (ops : Array Oper) (ul louds : List Nat) (o : Oper) (is : List Nat) (st : St) (b : Bool) (lds : List Nat) (K : St → Prop) : Prop :=
  ∃ r0, (b = true → exP P G o (fun x => gstrip (ev G st.tm x)) st.hp st.nx r0 st.hp st.nx) ∧
    exD P G ops ul (mkL louds ops.toList is) ⟨putT o.dst (.whn b r0) st.tm, st.hp, st.nx, st.nt, st.df, st.nb⟩ lds K
theorem CallD.use {louds : List Nat} {dst : Option Tmp} {f : FuncId} {args : List SV} {is : List Nat} {st : St} {lds : List Nat} {K : St → Prop} {r : SV} (h : CallP P G f args r)
    (hk : exY P G ops ul louds is ⟨putT dst r st.tm, st.hp, st.nx, st.nt, st.df, st.nb⟩ lds K) : CallD P G ops ul louds dst f args is st lds K := ⟨r, h, hk⟩
theorem CallL.use {louds : List Nat} {dst : Option Tmp} {f : FuncId} {args : List SV} {is : List Nat} {st : St} {lds : List Nat} {K : St → Prop} {r : SV} {hp' : HpT} {nx' : Nat} (h : CallH P G f args st.hp st.nx (Det r hp' nx'))
    (hst : stabOk st.hp hp' lds) (hk : exY P G ops ul louds is ⟨putT dst r st.tm, hp', nx', st.nt, st.df, st.nb⟩ lds K) : CallL P G ops ul louds dst f args is st lds K := ⟨r, hp', nx', h, hst, hk⟩
theorem GdD.mk {louds : List Nat} {o : Oper} {is : List Nat} {st : St} {b : Bool} {lds : List Nat} {K : St → Prop} (r : SV) (h : b = true → exP P G o (fun x => gstrip (ev G st.tm x)) st.hp st.nx r st.hp st.nx)
    (hk : exY P G ops ul louds is ⟨putT o.dst (.whn b r) st.tm, st.hp, st.nx, st.nt, st.df, st.nb⟩ lds K) : GdD P G ops ul louds o is st b lds K := ⟨r, h, hk⟩
def GdL (P : Program) (G : Nat → Option (List D)) (ops : Array Oper) (ul louds : List Nat) (o : Oper) (is : List Nat) (st : St) (b : Bool) (lds lds' : List Nat) (K : St → Prop) : Prop :=
  b = true ∧ ∃ r0 hp' nx', exq P G o (fun x => gstrip (ev G st.tm x)) st.hp st.nx (Det r0 hp' nx') ∧ stabOk st.hp hp' lds ∧
    exD P G ops ul (mkL louds ops.toList is) ⟨putT o.dst (.whn true r0) st.tm, hp', nx', st.nt, st.df, st.nb⟩ lds' K
theorem GdL.use {louds : List Nat} {o : Oper} {is : List Nat} {st : St} {b : Bool} {lds lds' : List Nat} {K : St → Prop} {r : SV} {hp' : HpT} {nx' : Nat} (hb : b = true) (h : exq P G o (fun x => gstrip (ev G st.tm x)) st.hp st.nx (Det r hp' nx')) (hst : stabOk st.hp hp' lds)
    (hk : exY P G ops ul louds is ⟨putT o.dst (.whn true r) st.tm, hp', nx', st.nt, st.df, st.nb⟩ lds' K) : GdL P G ops ul louds o is st b lds lds' K := ⟨hb, r, hp', nx', h, hst, hk⟩
def zC (P : Program) (G : Nat → Option (List D)) (ops : Array Oper) (ul louds : List Nat) (i : Nat) (o : Oper) (is : List Nat) (st : St) (lds : List Nat) (K : St → Prop) : Prop :=
  match o.guard with
  | none => match o.op with
    | .call ⟨.value f, args, _⟩ => match ev G st.tm f with
      | .clo (.func fid) first cap => match louds.contains i with
        | false => CallD P G ops ul louds o.dst fid (first ++ args.toList.map (ev G st.tm) ++ cap) is st lds K
        | true => CallL P G ops ul louds o.dst fid (first ++ args.toList.map (ev G st.tm) ++ cap) is st lds K
      | _ => False
    | .next .. => False
    | _ => exq P G o (ev G st.tm) st.hp st.nx fun r hp' nx' => ldOk (louds.contains i) st.hp hp' st.nx nx' lds ∧
        exY P G ops ul louds is ⟨putT o.dst r st.tm, hp', nx', st.nt, st.df, st.nb⟩ (if ul.contains i then addRd (zJ o (ev G st.tm)) lds else lds) K
  | some (j, want) => match (ops.toList[j]?).bind (·.dst) with
    | some g => match gcond ((st.tm.lookup g).getD .unk) want with
      | some b => match louds.contains i with
        | false => GdD P G ops ul louds o is st b (if ul.contains i then addRd (zJ o (fun x => gstrip (ev G st.tm x))) lds else lds) K
        | true => GdL P G ops ul louds o is st b lds (if ul.contains i then addRd (zJ o (fun x => gstrip (ev G st.tm x))) lds else lds) K
      | none => False
    | none => False
theorem xR {louds : List Nat} {st : St} {lds : List Nat} {K : St → Prop} : exY P G ops ul louds [] st lds K = K st := rfl
theorem xQ {louds : List Nat} {i : Nat} {is : List Nat} {st : St} {lds : List Nat} {K : St → Prop} :
    exY P G ops ul louds (i :: is) st lds K = match ops.toList[i]? with
      | some o => (dstOk o.dst st.nt ∧ zC P G ops ul louds i o is st lds K)
      | none => exY P G ops ul louds is st lds K := by
  unfold exY
  simp only [mkL]
  cases ops.toList[i]? with
  | none => rfl
  | some o =>
    obtain ⟨dst, op, type, pos, after, guard⟩ := o
    cases guard with
    | none =>
      cases op <;> first
        | rfl
        | (rename_i c
           obtain ⟨callee, args, ats⟩ := c
           cases callee <;> rfl)
    | some g => rfl
theorem Tr.regD {id : Nat} {y : Code} {st : St} {Q : Exit → St → Prop} (is louds ul ks : List Nat) {st' : St} (hmix : P.follows .mixedOrders = true) (hc : dChk (Region.before ops).toList ops ul (mkL louds ops.toList is) = true)
    (h : exY P G ops ul louds is st [] fun s => s.keep ks = st') (hy : Tr P G ro y st' Q) : Tr P G ro (.seq (.region id ops true) y) st Q := by
  refine Tr.seq ((Tr.draw (Q := fun x s => match x with | .normal => s.keep ks = st' | _ => False) hmix hc (fun x hx => ?_) h).mono ?_)
  · have := mkL_get hx
    simpa using this
  · intro x s hx
    cases x with
    | normal => exact Tr.imp (hx ▸ Imp.keep ks) hy
    | _ => exact hx.elim
theorem Tr.regD1 {id : Nat} {st : St} {Q : Exit → St → Prop} (is louds ul ks : List Nat) {st' : St} (hmix : P.follows .mixedOrders = true) (hc : dChk (Region.before ops).toList ops ul (mkL louds ops.toList is) = true)
    (h : exY P G ops ul louds is st [] fun s => s.keep ks = st') (hq : Q .normal st') : Tr P G ro (.region id ops true) st Q := by
  refine Tr.post ((Tr.draw (Q := fun x s => match x with | .normal => s.keep ks = st' | _ => False) hmix hc (fun x hx => ?_) h).mono ?_)
  · have := mkL_get hx
    simpa using this
  · intro x s hx
    cases x with
    | normal => exact ⟨st', hx ▸ Imp.keep ks, hq⟩
    | _ => exact hx.elim
end
end Go.Sy
