/- Lemmas, part ZGC. Conditions: none. -/
import Derived.Test.YtijechcadlklhaaGreatZGB
set_option linter.unusedVariables false
namespace Go.Sy
section
variable {P : Program} {G : Nat → Option (List D)} {O : Nat → Prop} {pb pl pl' : Nat → Option Pl} {w w' : World} {hp hp' : HpT} {nx nx' : Nat} {ok ok' : Nat → Prop}
theorem HS.newVac (hs : HS G O pb pl w hp nx) (ha : Add w w') (sz : Nat) :
    HS G O pb (plUp pl nx ⟨0, sz, 0⟩) w' ((nx, .arr sz []) :: hp) (nx + 1) ∧ Step (ownOf pl hp) (ownOf (plUp pl nx ⟨0, sz, 0⟩) ((nx, .arr sz []) :: hp)) w w' ∧
    (∀ id q, pl id = some q → plUp pl nx ⟨0, sz, 0⟩ id = some q) :=
  ⟨hs.new ha ⟨0, sz, 0⟩ (.arr sz []) (fun h => absurd rfl h) (fun h => absurd rfl h) (.vac (q := ⟨0, sz, 0⟩) rfl), hs.step_new ha ⟨0, sz, 0⟩ (fun h => absurd rfl h) _, hs.plUp_mono _⟩
def z6 (P : Program) (t : TypeId) (l c : SV) (hp : HpT) (nx : Nat) (K : KT) : Prop :=
  match l, c with
  | .d (.lit (.int _ l)), .d (.lit (.int _ c)) => match tez P t, tby P t with
    | some z, some b => 0 ≤ l ∧ l ≤ c ∧ z.length ≠ 0 ∧ c ≤ 1099511627776 ∧ (b : Int) * c ≤ 1099511627776 ∧ telem P t = some z.length ∧
        K (.slc nx z.length 0 l.toNat c.toNat) ((nx, .arr z.length (List.replicate l.toNat z)) :: hp) (nx + 1)
    | _, _ => False
  | _, _ => False
theorem run_exMakeSlice {t : TypeId} {l c : SV} {vl vc : Value} {K : KT} (hs : HS G O pb pl w hp nx) (hl : SR pl (okOf O pl hp) w l vl) (hc : SR pl (okOf O pl hp) w c vc) (h : z6 P t l c hp nx K) :
    ∃ u w', (Instr.makeSlice t vl vc).run P w = .ok u w' ∧ Fin G O pb pl w hp K u w' := by
  unfold z6 at h
  split at h
  · rename_i k l k' c
    cases hl.lit; cases hc.lit
    split at h
    · rename_i z b hz hb
      obtain ⟨h0, hlc, hne, hc1, hc2, htl, hK⟩ := h
      obtain ⟨e, i, zv, hu, hi, hzv, rfl⟩ := tby_some hb
      obtain ⟨e', hu', htsz⟩ := telem_some htl
      rw [hu] at hu'
      cases hu'
      simp only [tez, hu, tzero, hi, Option.bind_some, hzv, Option.map_some, Option.some.injEq] at hz
      have hisz : i.size = z.length := by simpa [tsz, hi] using htsz
      have hzl : zv.cells.size = z.length := by rw [← hz]; simp
      have hrun := run_make (P := P) w t e i zv hu hi hzv k k' l c h0 hlc (by omega) (by omega)
      by_cases hcz : c = 0
      · subst hcz
        have hl0 : l = 0 := by omega
        subst hl0
        obtain ⟨g1, g2, g3⟩ := hs.newVac (Add.alloc w (.cells (madeCells zv.cells ((0 : Int).toNat * i.size)) e)) z.length
        exact ⟨_, _, hrun, _, _, _, _, hK, g1, .slc0 nx z.length 0 0 0 _ (plUp_self _ _ _) rfl rfl rfl rfl rfl _, g2, g3⟩
      · have htot : (madeCells zv.cells (c.toNat * i.size)).size = c.toNat * z.length := by rw [size_madeCells, hisz]
        obtain ⟨g1, g2, g3⟩ := hs.newArr rfl rfl rfl (madeCells zv.cells (c.toNat * i.size)) e z.length (List.replicate l.toNat z) (by rw [htot]; exact Nat.mul_ne_zero (by omega) hne)
          (by rw [htot]; simp; exact Nat.mul_le_mul_right _ (by omega)) (by intro i hi; simp) (by
            intro a ha j hj
            simp only [List.getElem_replicate] at hj ⊢
            have ha' : a < l.toNat := by simpa using ha
            have hle := Nat.mul_le_mul_right z.length (show a + 1 ≤ c.toNat by omega)
            rw [Nat.add_mul] at hle
            have hlt : a * z.length + j < c.toNat * i.size := by rw [hisz]; omega
            have hmod : (a * z.length + j) % zv.cells.size = j := by rw [hzl, Nat.mul_comm, Nat.mul_add_mod, Nat.mod_eq_of_lt hj]
            have hj' : j < zv.cells.size := by omega
            have e1 : (madeCells zv.cells (c.toNat * i.size)).getD (a * z.length + j) undef = zv.cells.getD j undef := by
              simp only [madeCells, Array.getD_eq_getD_getElem?]
              rw [Array.getElem?_map, Array.getElem?_range, if_pos hlt]
              simp [hmod, hj']
            rw [e1]
            have := zeroCells_rel (pl := pl) (ok := okOf O pl hp) (w := w) zv j (by rw [hz]; exact hj)
            simpa [hz] using this)
        refine ⟨_, _, hrun, _, _, _, _, hK, g1, ?_, g2, g3⟩
        have := SR.slc (ok := okOf O (plUp pl nx ⟨w.heap.size, z.length, (madeCells zv.cells (c.toNat * i.size)).size⟩) ((nx, Obj.arr z.length (List.replicate l.toNat z)) :: hp))
          (w := w.alloc (.cells (madeCells zv.cells (c.toNat * i.size)) e)) nx z.length 0 l.toNat c.toNat c.toNat _ (plUp_self pl nx ⟨w.heap.size, z.length, (madeCells zv.cells (c.toNat * i.size)).size⟩) rfl (by omega) (Nat.le_refl _) (by simp [htot])
        simpa using this
    · exact h.elim
  · exact h.elim
theorem run_exMakeMap {t : TypeId} {K : KT} (hs : HS G O pb pl w hp nx) (h : K (.mapr nx) ((nx, .map []) :: hp) (nx + 1)) :
    ∃ u w', (Instr.makeMap t none).run P w = .ok u w' ∧ Fin G O pb pl w hp K u w' := by
  have hq : (⟨w.heap.size, 1, 1⟩ : Pl).tot ≠ 0 → (⟨w.heap.size, 1, 1⟩ : Pl).blk = w.heap.size := fun _ => rfl
  have ha := Add.alloc w (.map #[] 0)
  refine ⟨.map (some w.heap.size), w.alloc (.map #[] 0), rfl, plUp pl nx ⟨w.heap.size, 1, 1⟩, _, _, _, h, ?_, .mapr nx _ (plUp_self _ _ _), hs.step_new ha _ hq _, hs.plUp_mono _⟩
  refine hs.new ha _ _ hq (fun _ => by simp) (.map [] #[] 0 (by simp) (heap_alloc_new _ _) ⟨rfl, rfl, fun i hi => absurd hi (by simp)⟩)
def bnd (x : Option SV) (d : Nat) : Option Int :=
  match x with
  | none => some d
  | some (.d (.lit (.int _ n))) => some n
  | _ => none
def sbnd (lo hi mx : Option SV) (len : Nat) : Option (Int × Int × Option Int) :=
  match bnd lo 0, bnd hi len, mx with
  | some l, some h, none => some (l, h, none)
  | some l, some h, some (.d (.lit (.int _ m))) => if hi.isSome then some (l, h, some m) else none
  | _, _, _ => none
def yE (sz : Nat) (es : List (List D)) (b : Option (Int × Int × Option Int)) (K : SV → Prop) : Prop :=
  (∀ e ∈ es, e.length = sz) ∧ match b with
  | some (l, h, none) => 0 ≤ l ∧ l ≤ h ∧ h ≤ es.length ∧ K (.d (.sl ((es.take h.toNat).drop l.toNat)))
  | some (l, h, some m) => 0 ≤ l ∧ l ≤ h ∧ h = m ∧ m ≤ es.length ∧ K (.dx ((es.take h.toNat).drop l.toNat))
  | none => False
def zV (P : Program) (t : TypeId) (x : SV) (lo hi mx : Option SV) (K : SV → Prop) : Prop :=
  match telem P t with
  | some sz => match x with
    | .slc id sz' off len cap => sz' = sz ∧ match sbnd lo hi mx len with
      | some (l, h, none) => 0 ≤ l ∧ l ≤ h ∧ h ≤ cap ∧ if l ≠ 0 ∧ l = h then K (.d (.sl [])) else K (.slc id sz (off + l.toNat) (h.toNat - l.toNat) (cap - l.toNat))
      | some (l, h, some m) => 0 ≤ l ∧ l ≤ h ∧ h ≤ m ∧ m ≤ cap ∧ (l = 0 ∨ l < m) ∧ K (.slc id sz (off + l.toNat) (h.toNat - l.toNat) (m.toNat - l.toNat))
      | none => False
    | .d (.sl es) => yE sz es (sbnd lo hi mx es.length) K
    | .dx es => yE sz es (sbnd lo hi mx es.length) K
    | _ => False
  | none => False
def OptR (pl : Nat → Option Pl) (ok : Nat → Prop) (w : World) : Option SV → Option Value → Prop
  | none, none => True
  | some s, some v => SR pl ok w s v
  | _, _ => False
theorem bnd_run {x : Option SV} {vx : Option Value} (hx : OptR pl ok w x vx) {d : Nat} {l : Int} (h : bnd x d = some l) : (vx = none ∧ x = none ∧ l = d) ∨ (∃ k, vx = some (.int k l) ∧ x.isSome) := by
  unfold bnd at h
  split at h
  · cases vx with
    | none => cases h; exact .inl ⟨rfl, rfl, rfl⟩
    | some v => exact hx.elim
  · rename_i k n
    cases h
    cases vx with
    | none => exact hx.elim
    | some v => cases (show SR pl ok w _ v from hx).lit; exact .inr ⟨k, rfl, rfl⟩
  · cases h
theorem run_sliceBounds {lo hi : Option SV} {vlo vhi : Option Value} (hlo : OptR pl ok w lo vlo) (hhi : OptR pl ok w hi vhi) {len cap : Nat} {l h : Int} (hl : bnd lo 0 = some l) (hh : bnd hi len = some h)
    (h0 : 0 ≤ l) (h1 : l ≤ h) (h2 : h ≤ cap) : (Instr.sliceBounds true len cap vlo vhi none).run P w = .ok (l.toNat, h.toNat, cap) w := by
  have e1 : (h.toNat : Int) = h := Int.toNat_of_nonneg (by omega)
  rcases bnd_run hlo hl with ⟨rfl, _, rfl⟩ | ⟨k, rfl, _⟩ <;> rcases bnd_run hhi hh with ⟨rfl, _, rfl⟩ | ⟨k', rfl, _⟩
  · simp [Instr.sliceBounds]
  · simp [Instr.sliceBounds, run_sliceBound _ _ _ _ _ (show (0 : Int) ≤ h by omega) h2]
  · have : l ≤ (len : Int) := h1
    simp [Instr.sliceBounds, run_sliceBound _ _ _ _ _ h0 this]
  · have h3 : l ≤ ((h.toNat : Nat) : Int) := by omega
    simp [Instr.sliceBounds, run_sliceBound _ _ _ _ _ (show (0 : Int) ≤ h by omega) h2, run_sliceBound _ _ _ _ _ h0 h3]
theorem run_sliceBounds3 {lo hi : Option SV} {vlo vhi : Option Value} (hlo : OptR pl ok w lo vlo) (hhi : OptR pl ok w hi vhi) {len cap : Nat} {l h m : Int} {km : IntKind} (hl : bnd lo 0 = some l) (hh : bnd hi len = some h) (his : hi.isSome = true)
    (h0 : 0 ≤ l) (h1 : l ≤ h) (h2 : h ≤ m) (h3 : m ≤ cap) : (Instr.sliceBounds true len cap vlo vhi (some (.int km m))).run P w = .ok (l.toNat, h.toNat, m.toNat) w := by
  have e1 : (h.toNat : Int) = h := Int.toNat_of_nonneg (by omega)
  have e2 : (m.toNat : Int) = m := Int.toNat_of_nonneg (by omega)
  rcases bnd_run hhi hh with ⟨_, rfl, _⟩ | ⟨k', rfl, _⟩
  · cases his
  · have g1 : h ≤ ((m.toNat : Nat) : Int) := by omega
    rcases bnd_run hlo hl with ⟨rfl, _, rfl⟩ | ⟨k, rfl, _⟩
    · simp [Instr.sliceBounds, run_sliceBound _ _ _ _ _ (show (0 : Int) ≤ m by omega) h3, run_sliceBound _ _ _ _ _ (show (0 : Int) ≤ h by omega) g1]
    · have g2 : l ≤ ((h.toNat : Nat) : Int) := by omega
      simp [Instr.sliceBounds, run_sliceBound _ _ _ _ _ (show (0 : Int) ≤ m by omega) h3, run_sliceBound _ _ _ _ _ (show (0 : Int) ≤ h by omega) g1, run_sliceBound _ _ _ _ _ h0 g2]
theorem run_sliceAt_of {t e : TypeId} {a : Option Addr} {len cap sz : Nat} {lo hi mx : Option Value} {l h m : Nat} (hu : P.underlying t = some (.slice e)) (hsz : tsz P e = some sz)
    (hb : (Instr.sliceBounds true len cap lo hi mx).run P w = .ok (l, h, m) w) :
    (Instr.sliceAt t (.slice a len cap) lo hi mx).run P w = .ok (.slice (if m = l then a else a.map (·.add (l * sz))) (h - l) (m - l)) w := by
  simp [Instr.sliceAt, run_underlying hu, Instr.slice, hb, run_tsz hsz]
theorem DR.part {es : List (List D)} {a : Option Addr} {cap sz : Nat} (hd : DR ok w (.sl es) (.slice a es.length cap)) (hz : ∀ e ∈ es, e.length = sz) {l h m : Nat} (h1 : l ≤ h) (h2 : h ≤ es.length) (h3 : h ≤ m) (hm : m ≤ cap) :
    DR ok w (.sl ((es.take h).drop l)) (.slice (if m = l then a else a.map (·.add (l * sz))) (h - l) (m - l)) := by
  have hlen : ((es.take h).drop l).length = h - l := by simp; omega
  by_cases he : h = l
  · subst he
    have : (es.take h).drop h = [] := by simp
    rw [this, Nat.sub_self]
    exact .nil _ _
  · rw [if_neg (by omega)]
    generalize hv : Value.slice a es.length cap = v at hd
    cases hd with
    | nil a' cap' => simp at h2; omega
    | sl sz' _ B off cap' f hB hs hc hz' hw hr =>
      cases hv
      have hss : sz' = sz := by
        have := hz _ (List.getElem_mem (show l < es.length by omega))
        rw [hz' l (by omega)] at this
        exact this
      subst hss
      rw [← hlen]
      simp only [Option.map_some, addr_add]
      refine .sl sz' _ B (off + l * sz') _ (fun i j => f (l + i) j) hB hs (by omega) ?_ ?_ ?_
      · intro i hi
        simp only [List.getElem_drop, List.getElem_take]
        exact hz' _ _
      · intro i hi j hj
        simp only [List.getElem_drop, List.getElem_take] at hj
        have := hw (l + i) (by omega) j hj
        rw [Nat.add_mul] at this
        rw [← this]
        congr 2
        omega
      · intro i hi j hj
        simp only [List.getElem_drop, List.getElem_take]
        exact hr _ _ _ _
theorem sbnd_none {lo hi mx : Option SV} {vlo vhi vmx : Option Value} (hlo : OptR pl ok w lo vlo) (hhi : OptR pl ok w hi vhi) (hmx : OptR pl ok w mx vmx) {len cap : Nat} {l h : Int}
    (hb : sbnd lo hi mx len = some (l, h, none)) (h0 : 0 ≤ l) (h1 : l ≤ h) (h2 : h ≤ cap) : (Instr.sliceBounds true len cap vlo vhi vmx).run P w = .ok (l.toNat, h.toNat, cap) w := by
  unfold sbnd at hb
  split at hb
  · rename_i hl hh
    cases hb
    cases vmx with
    | none => exact run_sliceBounds hlo hhi hl hh h0 h1 h2
    | some v => exact hmx.elim
  · split at hb <;> cases hb
  · cases hb
theorem sbnd_some {lo hi mx : Option SV} {vlo vhi vmx : Option Value} (hlo : OptR pl ok w lo vlo) (hhi : OptR pl ok w hi vhi) (hmx : OptR pl ok w mx vmx) {len cap : Nat} {l h m : Int}
    (hb : sbnd lo hi mx len = some (l, h, some m)) (h0 : 0 ≤ l) (h1 : l ≤ h) (h2 : h ≤ m) (h3 : m ≤ cap) : (Instr.sliceBounds true len cap vlo vhi vmx).run P w = .ok (l.toNat, h.toNat, m.toNat) w := by
  unfold sbnd at hb
  split at hb
  · cases hb
  · rename_i hl hh
    split at hb
    · rename_i his
      cases hb
      cases vmx with
      | none => exact hmx.elim
      | some v =>
        cases (show SR pl ok w _ v from hmx).lit
        exact run_sliceBounds3 hlo hhi hl hh his h0 h1 h2 h3
    · cases hb
  · cases hb
theorem run_exPart {t e : TypeId} {sz : Nat} {es : List (List D)} {a : Option Addr} {cap : Nat} {lo hi mx : Option SV} {vlo vhi vmx : Option Value} {K : SV → Prop} (hlo : OptR pl ok w lo vlo) (hhi : OptR pl ok w hi vhi) (hmx : OptR pl ok w mx vmx)
    (hu : P.underlying t = some (.slice e)) (hsz : tsz P e = some sz) (hcap : es.length ≤ cap) (hd : DR ok w (.sl es) (.slice a es.length cap)) (h : yE sz es (sbnd lo hi mx es.length) K) :
    ∃ r v, K r ∧ SR pl ok w r v ∧ (Instr.sliceAt t (.slice a es.length cap) vlo vhi vmx).run P w = .ok v w := by
  obtain ⟨hz, h⟩ := h
  generalize hb : sbnd lo hi mx es.length = b at h
  split at h
  · rename_i l h'
    obtain ⟨h0, h1, h2, hK⟩ := h
    exact ⟨_, _, hK, .d _ _ (hd.part hz (by omega) (by omega) (by omega) (by omega)), run_sliceAt_of hu hsz (sbnd_none (P := P) hlo hhi hmx (cap := cap) hb h0 h1 (by omega))⟩
  · rename_i l h' m
    obtain ⟨h0, h1, rfl, h3, hK⟩ := h
    refine ⟨_, _, hK, ?_, run_sliceAt_of hu hsz (sbnd_some (P := P) hlo hhi hmx (cap := cap) hb h0 h1 (Int.le_refl _) (by omega))⟩
    have hp := hd.part hz (l := l.toNat) (h := h'.toNat) (m := h'.toNat) (by omega) (by omega) (Nat.le_refl _) (by omega)
    have hlen : ((es.take h'.toNat).drop l.toNat).length = h'.toNat - l.toNat := by simp; omega
    rw [← hlen] at hp ⊢
    exact .dx _ _ hp
  · exact h.elim
theorem run_exSlice {t : TypeId} {x : SV} {vx : Value} {lo hi mx : Option SV} {vlo vhi vmx : Option Value} {K : SV → Prop} (hx : SR pl ok w x vx) (hlo : OptR pl ok w lo vlo) (hhi : OptR pl ok w hi vhi) (hmx : OptR pl ok w mx vmx)
    (h : zV P t x lo hi mx K) : ∃ r v, K r ∧ SR pl ok w r v ∧ (Instr.sliceAt t vx vlo vhi vmx).run P w = .ok v w := by
  unfold zV at h
  split at h
  · rename_i sz htl
    obtain ⟨e, hu, hsz⟩ := telem_some htl
    split at h
    · rename_i id sz' off len cap
      obtain ⟨rfl, h⟩ := h
      generalize hb : sbnd lo hi mx len = b at h
      split at h
      · rename_i l h'
        obtain ⟨h0, h1, h2, hK⟩ := h
        cases hx with
        | slc _ _ _ _ _ cap' q hq hqs hc hc' ht =>
          by_cases hem : l ≠ 0 ∧ l = h'
          · rw [if_pos hem] at hK
            refine ⟨_, _, hK, ?_, run_sliceAt_of hu hsz (sbnd_none (P := P) hlo hhi hmx (cap := cap') hb h0 h1 (by omega))⟩
            rw [show h'.toNat - l.toNat = 0 by omega]
            exact .d _ _ (.nil _ _)
          rw [if_neg hem] at hK
          have h3 : l = 0 ∨ l < cap := by
            by_cases hl0 : l = 0
            · exact .inl hl0
            · exact .inr (by have : l ≠ h' := fun hc => hem ⟨hl0, hc⟩
                             omega)
          refine ⟨_, _, hK, ?_, run_sliceAt_of hu hsz (sbnd_none (P := P) hlo hhi hmx (cap := cap') hb h0 h1 (by omega))⟩
          have e1 : (if cap' = l.toNat then some (⟨q.blk, off * sz', none⟩ : Addr) else (some (⟨q.blk, off * sz', none⟩ : Addr)).map (·.add (l.toNat * sz'))) = some ⟨q.blk, (off + l.toNat) * sz', none⟩ := by
            rcases h3 with rfl | h3
            · simp [addr_add]
            · rw [if_neg (by omega)]; simp [addr_add, Nat.add_mul]
          rw [e1]
          exact .slc id sz' _ _ _ _ q hq hqs (by omega) (by omega) (by
            have : off + l.toNat + (cap' - l.toNat) = off + cap' := by omega
            rw [this]; exact ht)
        | slc0 _ _ _ _ _ q hq hqs ht z1 z2 z3 a =>
          subst z1 z2 z3
          have hl0 : l = 0 := by omega
          have hh0 : h' = 0 := by omega
          subst hl0 hh0
          rw [if_neg (by simp)] at hK
          exact ⟨_, _, hK, .slc0 id sz' 0 0 0 q hq hqs ht rfl rfl rfl _, run_sliceAt_of hu hsz (sbnd_none (P := P) hlo hhi hmx (cap := 0) hb h0 h1 (by omega))⟩
      · rename_i l h' m
        obtain ⟨h0, h1, h2, h2', h3, hK⟩ := h
        cases hx with
        | slc _ _ _ _ _ cap' q hq hqs hc hc' ht =>
          refine ⟨_, _, hK, ?_, run_sliceAt_of hu hsz (sbnd_some (P := P) hlo hhi hmx (cap := cap') hb h0 h1 h2 (by omega))⟩
          have e1 : (if m.toNat = l.toNat then some (⟨q.blk, off * sz', none⟩ : Addr) else (some (⟨q.blk, off * sz', none⟩ : Addr)).map (·.add (l.toNat * sz'))) = some ⟨q.blk, (off + l.toNat) * sz', none⟩ := by
            rcases h3 with rfl | h3
            · simp [addr_add]
            · rw [if_neg (by omega)]; simp [addr_add, Nat.add_mul]
          rw [e1]
          exact .slc id sz' _ _ _ _ q hq hqs (by omega) (Nat.le_refl _) (by
            refine Nat.le_trans (Nat.mul_le_mul_right _ ?_) ht
            omega)
        | slc0 _ _ _ _ _ q hq hqs ht z1 z2 z3 a =>
          subst z1 z2 z3
          have hm0 : m = 0 := by omega
          have hl0 : l = 0 := by omega
          have hh0 : h' = 0 := by omega
          subst hl0 hh0 hm0
          exact ⟨_, _, hK, .slc0 id sz' 0 0 0 q hq hqs ht rfl rfl rfl _, run_sliceAt_of hu hsz (sbnd_some (P := P) hlo hhi hmx (cap := 0) hb h0 h1 h2 (by omega))⟩
      · exact h.elim
    · rename_i es
      cases hx with | d _ _ hd =>
      obtain ⟨a, cap, rfl⟩ := hd.len
      refine run_exPart hlo hhi hmx hu hsz ?_ hd h
      cases hd with
      | nil a cap => simp
      | sl sz' _ B off cap f hB hs hc hz' hw hr => exact hc
    · rename_i es
      cases hx with | dx _ a hd =>
      exact run_exPart hlo hhi hmx hu hsz (Nat.le_refl _) hd h
    · exact h.elim
  · exact h.elim
def yJ (mx : Bool) (xs : List SV) (K : SV → Prop) : Prop :=
  match xs with
  | [.d (.lit (.int k a)), .d (.lit (.int k' b))] => k = k' ∧ K (.d (.lit (.int k (if mx then max a b else min a b))))
  | [.d (.lit (.int k a)), .d (.lit (.int k1 b)), .d (.lit (.int k2 c)), .d (.lit (.int k3 d)), .d (.lit (.int k4 e))] => mx = false ∧ k = k1 ∧ k = k2 ∧ k = k3 ∧ k = k4 ∧ K (.d (.lit (.int k (min (min (min (min a b) c) d) e))))
  | _ => False
theorem run_exMax {at_ : Array TypeId} {t : TypeId} {xs : List SV} {vs : Array Value} {K : SV → Prop} (hl : vs.size = xs.length) (hr : ∀ i (h : i < xs.length), SR pl ok w (xs[i]) (vs.getD i undef)) (h : yJ true xs K) :
    ∃ r v, K r ∧ SR pl ok w r v ∧ (Builtin.max_ at_ t vs).run P w = .ok v w := by
  unfold yJ at h
  split at h
  · rename_i k a k' b
    obtain ⟨rfl, h⟩ := h
    have h0 := (hr 0 (by simp)).lit
    have h1 := (hr 1 (by simp)).lit
    have : vs = #[.int k a, .int k b] := by
      apply Array.ext
      · simpa using hl
      · intro i hi hi'
        have : i = 0 ∨ i = 1 := by simp at hi'; omega
        rcases this with rfl | rfl
        · simpa [Array.getD_eq_getD_getElem?, hi] using h0
        · simpa [Array.getD_eq_getD_getElem?, hi] using h1
    subst this
    refine ⟨_, _, h, .d _ _ (.lit _ rfl), ?_⟩
    simp [Builtin.max_, Builtin.max2]
    by_cases hab : a < b
    · rw [if_pos hab]; omega
    · rw [if_neg hab]; omega
  · cases h.1
  · exact h.elim
theorem run_exMin {at_ : Array TypeId} {t : TypeId} {xs : List SV} {vs : Array Value} {K : SV → Prop} (hl : vs.size = xs.length) (hr : ∀ i (h : i < xs.length), SR pl ok w (xs[i]) (vs.getD i undef)) (h : yJ false xs K) :
    ∃ r v, K r ∧ SR pl ok w r v ∧ (Builtin.min_ at_ t vs).run P w = .ok v w := by
  unfold yJ at h
  split at h
  · rename_i k a k' b
    obtain ⟨rfl, h⟩ := h
    have h0 := (hr 0 (by simp)).lit
    have h1 := (hr 1 (by simp)).lit
    have : vs = #[.int k a, .int k b] := by
      apply Array.ext
      · simpa using hl
      · intro i hi hi'
        have : i = 0 ∨ i = 1 := by simp at hi'; omega
        rcases this with rfl | rfl
        · simpa [Array.getD_eq_getD_getElem?, hi] using h0
        · simpa [Array.getD_eq_getD_getElem?, hi] using h1
    subst this
    refine ⟨_, _, h, .d _ _ (.lit _ rfl), ?_⟩
    simp [Builtin.min_, Builtin.min2]
    by_cases hab : b < a
    · rw [if_pos hab]; omega
    · rw [if_neg hab]; omega
  · rename_i k a k1 b k2 c k3 d k4 e
    obtain ⟨-, rfl, rfl, rfl, rfl, h⟩ := h
    have h0 := (hr 0 (by simp)).lit
    have h1 := (hr 1 (by simp)).lit
    have h2 := (hr 2 (by simp)).lit
    have h3 := (hr 3 (by simp)).lit
    have h4 := (hr 4 (by simp)).lit
    have : vs = #[.int k a, .int k b, .int k c, .int k d, .int k e] := by
      apply Array.ext
      · simpa using hl
      · intro i hi hi'
        have : i = 0 ∨ i = 1 ∨ i = 2 ∨ i = 3 ∨ i = 4 := by simp at hi'; omega
        rcases this with rfl | rfl | rfl | rfl | rfl
        · simpa [Array.getD_eq_getD_getElem?, hi] using h0
        · simpa [Array.getD_eq_getD_getElem?, hi] using h1
        · simpa [Array.getD_eq_getD_getElem?, hi] using h2
        · simpa [Array.getD_eq_getD_getElem?, hi] using h3
        · simpa [Array.getD_eq_getD_getElem?, hi] using h4
    subst this
    refine ⟨_, _, h, .d _ _ (.lit _ rfl), ?_⟩
    have m2 : ∀ (x y : Int) (w : World), (Builtin.min2 (.int k x) (.int k y)).run P w = .ok (.int k (min x y)) w := by
      intro x y w
      simp [Builtin.min2]
      by_cases hab : y < x
      · rw [if_pos hab]; omega
      · rw [if_neg hab]; omega
    simp [Builtin.min_, m2]
  · exact h.elim
end
end Go.Sy
namespace Go.Sy
theorem del_sublist (id : Nat) : ∀ hp : HpT, (del hp id).Sublist hp
  | [] => .slnil
  | (k, x) :: l => by
    unfold del
    by_cases hk : k = id
    · rw [if_pos hk]; exact List.sublist_cons_self _ _
    · rw [if_neg hk]; exact (del_sublist id l).cons_cons _
theorem del_ne {id : Nat} : ∀ {hp : HpT}, hp.Pairwise (fun p p' => p.1 ≠ p'.1) → ∀ {p : Nat × Obj}, p ∈ del hp id → p.1 ≠ id
  | [], _, p, h => by simp [del] at h
  | (k, x) :: l, hd, p, h => by
    cases hd with | cons h1 h2 =>
    unfold del at h
    by_cases hk : k = id
    · rw [if_pos hk] at h
      have := h1 p h
      simp only at this
      intro he
      exact this (by rw [hk, he])
    · rw [if_neg hk] at h
      rcases List.mem_cons.1 h with rfl | h
      · exact hk
      · exact del_ne h2 h
section
variable {P : Program} {G : Nat → Option (List D)} {O : Nat → Prop} {pb pl pl' : Nat → Option Pl} {w w' : World} {hp hp' : HpT} {nx nx' : Nat} {ok ok' : Nat → Prop}
theorem HS.sub (hs : HS G O pb pl w hp nx) (h : hp'.Sublist hp) : HS G O pb pl w hp' nx ∧ Step (ownOf pl hp) (ownOf pl hp') w w := by
  have step : Step (ownOf pl hp) (ownOf pl hp') w w := Step.less w fun B ⟨p, h1, r⟩ => ⟨p, h.subset h1, r⟩
  exact ⟨hs.change (fun _ _ h => h) step (fun p h1 => hs.obj_old (fun _ _ h => h) step (h.subset h1) fun _ _ _ _ => rfl) (hs.apart.sublist h) hs.fresh, step⟩
theorem HS.alias (hs : HS G O pb pl w hp nx) {id : Nat} {o : Obj} (hm : (id, o) ∈ hp) {q : Pl} (hq : pl id = some q) :
    HS G O pb (plUp pl nx q) w ((nx, o) :: del hp id) (nx + 1) ∧ Step (ownOf pl hp) (ownOf (plUp pl nx q) ((nx, o) :: del hp id)) w w ∧ (∀ id' q', pl id' = some q' → plUp pl nx q id' = some q') := by
  have hmono := hs.plUp_mono q
  have hsub := del_sublist id hp
  have step : Step (ownOf pl hp) (ownOf (plUp pl nx q) ((nx, o) :: del hp id)) w w := Step.less w fun B hB => by
    obtain ⟨p, h1, q', h2, h3, h4⟩ := hB
    rcases List.mem_cons.1 h1 with rfl | h1
    · rw [plUp_self] at h2; cases h2; exact ⟨_, hm, q, hq, h3, h4⟩
    · have := hs.mem_lt (hsub.subset h1)
      rw [plUp_ne _ _ (by omega)] at h2
      exact ⟨p, hsub.subset h1, q', h2, h3, h4⟩
  refine ⟨hs.change hmono step ?_ ?_ ?_, step, hmono⟩
  · intro p h1
    rcases List.mem_cons.1 h1 with rfl | h1
    · obtain ⟨q', g1, g2, g3⟩ := hs.obj_old hmono step hm fun _ _ _ _ => rfl
      rw [hmono _ _ hq] at g1
      cases g1
      exact ⟨q, plUp_self _ _ _, g2, g3⟩
    · exact hs.obj_old hmono step (hsub.subset h1) fun _ _ _ _ => rfl
  · refine List.Pairwise.cons ?_ ?_
    · intro p h1
      have hlt := hs.mem_lt (hsub.subset h1)
      have hne := del_ne (hs.apart.imp fun h => h.1) h1
      refine ⟨by simp only; omega, fun q₁ q₂ e1 e2 t1 t2 => ?_⟩
      rw [plUp_self] at e1; cases e1
      rw [plUp_ne _ _ (by omega)] at e2
      exact ((hs.two (hsub.subset h1) hm hne).2 q₂ q e2 hq t2 t1).symm
    · refine (hs.apart.sublist hsub).imp_of_mem fun {p p'} h1 h2 h => ⟨h.1, fun q₁ q₂ g1 g2 => ?_⟩
      have l1 := hs.mem_lt (hsub.subset h1)
      have l2 := hs.mem_lt (hsub.subset h2)
      rw [plUp_ne _ _ (by omega)] at g1 g2
      exact h.2 q₁ q₂ g1 g2
  · intro i hi
    rw [plUp_ne _ _ (by omega)]
    exact hs.fresh i (by omega)
def srcOf (hp : HpT) (sz : Nat) : SV → Option (List (List SV))
  | .d (.sl es) => some (es.map fun e => e.map SV.d)
  | .dx es => some (es.map fun e => e.map SV.d)
  | .slc id sz' off len _ => match hp.lookup id with
    | some (.arr _ es) => if sz' = sz ∧ off + len ≤ es.length then some ((es.drop off).take len) else none
    | _ => none
  | _ => none
theorem DR.src {es : List (List D)} {v : Value} (h : DR ok w (.sl es) v) {sz : Nat} (hz : ∀ e ∈ es, e.length = sz) (hsz : sz ≠ 0) :
    ∃ (a : Option Addr) (cap : Nat) (cells : List Value), v = .slice a es.length cap ∧ cells.length = es.length * sz ∧ (∀ W : World, W.heap = w.heap → (Builtin.firstCells sz es.length v).run P W = .ok cells.toArray W) ∧
      ∀ i (hi : i < es.length) j (hj : j < (es[i]).length), DR ok w ((es[i])[j]) (cells.getD (i * sz + j) undef) := by
  cases h with
  | nil a cap =>
    refine ⟨a, cap, [], rfl, by simp, fun W _ => ?_, fun i hi => absurd hi (by simp)⟩
    cases a <;> simp [Builtin.firstCells, loadCells, loadCellsFrom]
  | sl sz' _ B off cap f hB hs hc hz' hw hr =>
    refine ⟨_, cap, (List.range (es.length * sz)).map (fun k => f (k / sz) (k % sz)), rfl, by simp, fun W hW => ?_, fun i hi j hj => ?_⟩
    · simp only [Builtin.firstCells]
      refine run_loadCells W _ _ _ fun j hj => ?_
      rw [addr_add]
      have hd : j / sz < es.length := Nat.div_lt_of_lt_mul (by rw [Nat.mul_comm]; exact hj)
      have hm : j % sz < (es[j / sz]).length := by rw [hz _ (List.getElem_mem hd)]; exact Nat.mod_lt _ (by omega)
      have hss : sz' = sz := by rw [← hz' _ hd]; exact hz _ (List.getElem_mem hd)
      have := hw (j / sz) hd (j % sz) hm
      rw [hss] at this
      have e : j / sz * sz + j % sz = j := by rw [Nat.mul_comm]; exact Nat.div_add_mod j sz
      rw [e] at this
      rw [← this]
      simp only [World.cell?, hW]
    · have hj' := hz _ (List.getElem_mem hi)
      have hle := Nat.mul_le_mul_right sz (show i + 1 ≤ es.length from hi)
      rw [Nat.add_mul] at hle
      have hlt : i * sz + j < es.length * sz := by omega
      have hd : (i * sz + j) / sz = i := by rw [Nat.mul_comm, Nat.mul_add_div (by omega), Nat.div_eq_of_lt (by omega)]; omega
      have hm : (i * sz + j) % sz = j := by rw [Nat.mul_comm, Nat.mul_add_mod, Nat.mod_eq_of_lt (by omega)]
      simp only [List.getD_eq_getElem?_getD, List.getElem?_map, List.getElem?_range hlt, Option.map_some, Option.getD_some, hd, hm]
      exact hr i hi j hj
theorem HS.src (hs : HS G O pb pl w hp nx) {s : SV} {v : Value} (hx : SR pl (okOf O pl hp) w s v) {sz : Nat} {news : List (List SV)} (h : srcOf hp sz s = some news) (hz : ∀ e ∈ news, e.length = sz) (hsz : sz ≠ 0) :
    ∃ (a : Option Addr) (cap : Nat) (cells : List Value), v = .slice a news.length cap ∧ cells.length = news.length * sz ∧ (∀ W : World, W.heap = w.heap → (Builtin.firstCells sz news.length v).run P W = .ok cells.toArray W) ∧
      ∀ i (hi : i < news.length) j (hj : j < (news[i]).length), SR pl (okOf O pl hp) w ((news[i])[j]) (cells.getD (i * sz + j) undef) := by
  have data : ∀ {es : List (List D)}, DR (okOf O pl hp) w (.sl es) v → news = (es.map fun e => e.map SV.d) → ∃ (a : Option Addr) (cap : Nat) (cells : List Value), v = .slice a news.length cap ∧ cells.length = news.length * sz ∧ (∀ W : World, W.heap = w.heap → (Builtin.firstCells sz news.length v).run P W = .ok cells.toArray W) ∧
      ∀ i (hi : i < news.length) j (hj : j < (news[i]).length), SR pl (okOf O pl hp) w ((news[i])[j]) (cells.getD (i * sz + j) undef) := by
    rintro es hd rfl
    have hz' : ∀ e ∈ es, e.length = sz := by
      intro e he
      have := hz (e.map SV.d) (List.mem_map_of_mem he)
      simpa using this
    obtain ⟨a, cap, cells, h1, h2, h3, h4⟩ := hd.src (P := P) hz' hsz
    refine ⟨a, cap, cells, by simpa using h1, by simpa using h2, by simpa using h3, fun i hi j hj => ?_⟩
    simp only [List.getElem_map] at hj ⊢
    exact .d _ _ (h4 i (by simpa using hi) j (by simpa using hj))
  unfold srcOf at h
  split at h
  · cases hx with | d _ _ hd => cases h; exact data hd rfl
  · cases hx with | dx _ a hd => cases h; exact data hd rfl
  · rename_i id sz' off len cap
    split at h
    · rename_i sz'' es hl
      split at h
      · rename_i hc
        obtain ⟨rfl, hle⟩ := hc
        cases h
        have hlen : ((es.drop off).take len).length = len := by simp; omega
        cases hx with
        | slc _ _ _ _ _ cap' q hq hqs hc hc' ht =>
          refine ⟨_, cap', (List.range (len * sz')).map (fun k => match w.cell? ⟨q.blk, off * sz' + k, none⟩ with | some v => v | none => undef), by rw [hlen], by simp [hlen], fun W hW => ?_, fun i hi j hj => ?_⟩
          · rw [hlen]
            simp only [Builtin.firstCells]
            refine run_loadCells W _ _ _ fun j hj => ?_
            rw [addr_add]
            have hd : j / sz' < len := Nat.div_lt_of_lt_mul (by rw [Nat.mul_comm]; exact hj)
            obtain ⟨g1, c, e, g2, g3, g4, g5, g6⟩ := hs.cells hl hq (show off + j / sz' < es.length by omega)
            have hm : j % sz' < (es[off + j / sz']).length := by rw [g4, ← g1, hqs]; exact Nat.mod_lt _ (by omega)
            have g7 := (g6 (j % sz') hm).2
            rw [hqs] at g7
            have e' : (off + j / sz') * sz' + j % sz' = off * sz' + j := by
              rw [Nat.add_mul, Nat.add_assoc]
              congr 1
              rw [Nat.mul_comm]; exact Nat.div_add_mod j sz'
            rw [e'] at g7
            have : W.cell? ⟨q.blk, off * sz' + j, none⟩ = w.cell? ⟨q.blk, off * sz' + j, none⟩ := by simp only [World.cell?, hW]
            rw [this, g7]
          · have hi' : i < len := by omega
            simp only [List.getElem_take, List.getElem_drop] at hj ⊢
            obtain ⟨g1, c, e, g2, g3, g4, g5, g6⟩ := hs.cells hl hq (show off + i < es.length by omega)
            have hj' : j < sz' := by omega
            have g8 := g6 j hj
            rw [hqs] at g8
            have hle' := Nat.mul_le_mul_right sz' (show i + 1 ≤ len by omega)
            rw [Nat.add_mul] at hle'
            simp only [List.getD_eq_getElem?_getD, List.getElem?_map, List.getElem?_range (show i * sz' + j < len * sz' by omega), Option.map_some, Option.getD_some]
            have e' : off * sz' + (i * sz' + j) = (off + i) * sz' + j := by rw [Nat.add_mul]; omega
            rw [e', g8.2]
            exact g8.1
        | slc0 _ _ _ _ _ q hq hqs ht z1 z2 z3 a =>
          subst z1 z2 z3
          have : ((es.drop 0).take 0) = [] := by simp
          rw [this]
          refine ⟨a, 0, [], rfl, by simp, fun W _ => ?_, fun i hi => absurd hi (by simp)⟩
          cases a <;> simp [Builtin.firstCells, loadCells, loadCellsFrom]
      · cases h
    · cases h
  · cases h
def zQ (P : Program) (t t' : TypeId) (s x : SV) (hp : HpT) (nx : Nat) (K : KT) : Prop :=
  match telem P t, tby P t, telem P t' with
  | some sz, some b, some _ => sz ≠ 0 ∧ (tez P t).map List.length = some sz ∧ match srcOf hp sz x with
    | some news => (∀ e ∈ news, e.length = sz ∧ e.all SV.one = true) ∧ match s with
      | .dx es => (es = [] ∨ news ≠ []) ∧ (∀ e ∈ es, e.length = sz) ∧ es.length + news.length ≤ 1073741824 ∧ b ≤ 65536 ∧
          K (.slc nx sz 0 (es.length + news.length) (es.length + news.length)) ((nx, .arr sz ((es.map fun e => e.map SV.d) ++ news)) :: hp) (nx + 1)
      | .slc id sz' off len cap => sz' = sz ∧ match hp.lookup id with
        | some (.arr _ es) =>
          if off = 0 ∧ len = es.length then es.length + news.length ≤ 1073741824 ∧ b ≤ 65536 ∧
            K (.slc nx sz 0 (len + news.length) (len + news.length)) ((nx, .arr sz (es ++ news)) :: del hp id) (nx + 1)
          else off + len + news.length ≤ es.length ∧ len + news.length ≤ cap ∧
            K (.slc id sz off (len + news.length) cap) (upd hp id (.arr sz (es.take (off + len) ++ news ++ es.drop (off + len + news.length)))) nx
        | _ => False
      | _ => False
    | none => False
  | _, _, _ => False
theorem run_append_none_new {t t' u e e' : TypeId} {i : TypeInfo} (hu : P.underlying t = some (.slice e)) (hu' : P.underlying t' = some (.slice e')) (hi : P.info? e = some i) {a : Option Addr} {sLen sCap : Nat} {x : Option Addr} {c : Nat} (hc : sLen ≤ sCap)
    (hx : (Builtin.firstCells i.size 0 (.slice x 0 c)).run P w = .ok #[] w) :
    (Builtin.append_ #[t, t'] u #[.slice a sLen sCap, .slice x 0 c]).run P w = .ok (.slice a sLen sCap) w := by
  cases a <;> simp [Builtin.append_, run_underlying hu, run_underlying hu', sizeOf, typeInfo, hi, Builtin.lenOf, hc, hx, storeCells]
theorem run_append_room' {t t' u e e' : TypeId} {i : TypeInfo} (hu : P.underlying t = some (.slice e)) (hu' : P.underlying t' = some (.slice e')) (hi : P.info? e = some i) {g o sLen sCap : Nat} {cur : Array Value} {ec : TypeId} (hg : w.heap[g]? = some (.cells cur ec (0, 0)))
    {x : Option Addr} {m c : Nat} {news : List Value} (hx : (Builtin.firstCells i.size m (.slice x m c)).run P w = .ok news.toArray w) (h1 : ∀ u ∈ news, u.oneCell' = true)
    (hroom : sLen + m ≤ sCap) (hfit : o + sLen * i.size + news.length ≤ cur.size) :
    (Builtin.append_ #[t, t'] u #[.slice (some ⟨g, o, none⟩) sLen sCap, .slice x m c]).run P w =
      .ok (.slice (some ⟨g, o, none⟩) (sLen + m) sCap) (w.setRow g (cur.toList.take (o + sLen * i.size) ++ news ++ cur.toList.drop (o + sLen * i.size + news.length)).toArray) := by
  have hst := run_storeCells_at P g (o + sLen * i.size) ec news 0 cur w hg (by simpa using hfit) h1
  simp only [Nat.add_zero] at hst
  simp [Builtin.append_, run_underlying hu, run_underlying hu', sizeOf, typeInfo, hi, Builtin.lenOf, hroom, hx, addr_add, hst]
theorem run_append_grow' {t t' u e e' : TypeId} {i : TypeInfo} {z : Value} (hu : P.underlying t = some (.slice e)) (hu' : P.underlying t' = some (.slice e')) (hi : P.info? e = some i) (hz : i.zero = some z) {a : Option Addr} {sLen sCap : Nat} {olds : List Value}
    (hs : (Builtin.firstCells i.size sLen (.slice a sLen sCap)).run P w.drew = .ok olds.toArray w.drew)
    {x : Option Addr} {m c : Nat} {news : List Value} (hx : (Builtin.firstCells i.size m (.slice x m c)).run P w.drew = .ok news.toArray w.drew)
    (hg : sCap < sLen + m) (h63 : ((sLen + m : Nat) : Int) ≤ 9223372036854775807) (hfit : Builtin.nextslicecap (sLen + m) sCap * i.bytes ≤ 281474976710656) :
    (Builtin.append_ #[t, t'] u #[.slice a sLen sCap, .slice x m c]).run P w =
      .ok (.slice (some ⟨w.heap.size, 0, none⟩) (sLen + m) (grownCap w (sLen + m) sCap e))
        (w.drew.alloc (.cells (olds.toArray ++ news.toArray ++ Builtin.zeroCells z.cells (grownCap w (sLen + m) sCap e - (sLen + m))) e)) := by
  have hn : ¬ (sLen + m ≤ sCap) := by omega
  have h63' : ¬ (9223372036854775807 < ((sLen : Int) + (m : Int))) := by omega
  have h48' : ¬ (281474976710656 < Builtin.nextslicecap (sLen + m) sCap * i.bytes) := by omega
  simp [Builtin.append_, run_underlying hu, run_underlying hu', sizeOf, typeInfo, zeroValue, hi, hz, Builtin.lenOf, hn, h63', h48', Question.forced, hs, hx, newRow, grownCap]
  congr 2
  apply Array.ext'
  simp [List.append_assoc]
theorem one_cells {news : List (List SV)} {cells : List Value} {sz : Nat} (hsz : sz ≠ 0) (hz : ∀ e ∈ news, e.length = sz ∧ e.all SV.one = true) (hl : cells.length = news.length * sz)
    (hr : ∀ i (hi : i < news.length) j (hj : j < (news[i]).length), SR pl ok w ((news[i])[j]) (cells.getD (i * sz + j) undef)) : ∀ u ∈ cells, u.oneCell' = true := by
  intro u hu
  obtain ⟨k, hk, rfl⟩ := List.getElem_of_mem hu
  have hd : k / sz < news.length := Nat.div_lt_of_lt_mul (by rw [Nat.mul_comm]; omega)
  have h1 := hz _ (List.getElem_mem hd)
  have hm : k % sz < (news[k / sz]).length := by rw [h1.1]; exact Nat.mod_lt _ (by omega)
  have h2 := hr _ hd _ hm
  have e' : k / sz * sz + k % sz = k := by rw [Nat.mul_comm]; exact Nat.div_add_mod k sz
  rw [e'] at h2
  simp only [List.getD_eq_getElem?_getD, List.getElem?_eq_getElem hk, Option.getD_some] at h2
  exact h2.oneCell (List.all_eq_true.1 h1.2 _ (List.getElem_mem hm))
theorem HS.grown (hs : HS G O pb pl w hp nx) {e : TypeId} {z : Value} {olds news : List (List SV)} {co cn : List Value} {sz : Nat} (hsz : sz ≠ 0) (hzs : z.cells.size = sz) (ho : ∀ e ∈ olds, e.length = sz) (hn : ∀ e ∈ news, e.length = sz)
    (hlo : co.length = olds.length * sz) (hln : cn.length = news.length * sz)
    (hro : ∀ i (hi : i < olds.length) j (hj : j < (olds[i]).length), SR pl (okOf O pl hp) w ((olds[i])[j]) (co.getD (i * sz + j) undef))
    (hrn : ∀ i (hi : i < news.length) j (hj : j < (news[i]).length), SR pl (okOf O pl hp) w ((news[i])[j]) (cn.getD (i * sz + j) undef)) (k : Nat) (hk : olds.length + news.length ≤ k) (hpos : olds.length + news.length ≠ 0) (K : KT)
    (hK : K (.slc nx sz 0 (olds.length + news.length) (olds.length + news.length)) ((nx, .arr sz (olds ++ news)) :: hp) (nx + 1)) :
    Fin G O pb pl w hp K (.slice (some ⟨w.heap.size, 0, none⟩) (olds.length + news.length) k) (w.drew.alloc (.cells (co.toArray ++ cn.toArray ++ Builtin.zeroCells z.cells (k - (olds.length + news.length))) e)) := by
  generalize hc : co.toArray ++ cn.toArray ++ Builtin.zeroCells z.cells (k - (olds.length + news.length)) = c
  have hcs : c.size = k * sz := by
    rw [← hc]
    simp only [Array.size_append, List.size_toArray, size_zeroCells, hzs, hlo, hln, ← Nat.add_mul]
    congr 1
    omega
  have hget : ∀ m, m < (olds.length + news.length) * sz → c.getD m undef = if m < olds.length * sz then co.getD m undef else cn.getD (m - olds.length * sz) undef := by
    intro m hm
    rw [← hc]
    simp only [Array.getD_eq_getD_getElem?, List.getD_eq_getElem?_getD]
    rw [Nat.add_mul] at hm
    rw [Array.getElem?_append_left (by simp; omega)]
    by_cases h : m < olds.length * sz
    · rw [if_pos h, Array.getElem?_append_left (by simp; omega)]
      simp
    · rw [if_neg h, Array.getElem?_append_right (by simp; omega)]
      simp [hlo]
  obtain ⟨g1, g2, g3⟩ := hs.newArr (w0 := w.drew) rfl rfl rfl c e sz (olds ++ news) (by rw [hcs]; exact Nat.mul_ne_zero (by omega) hsz) (by rw [hcs]; simp; exact Nat.mul_le_mul_right _ hk)
    (by intro i hi
        have := List.getElem_mem hi
        rcases List.mem_append.1 this with h | h
        · exact ho _ h
        · exact hn _ h) (by
      intro i hi j hj
      simp only [List.length_append] at hi
      by_cases h : i < olds.length
      · simp only [List.getElem_append_left h] at hj ⊢
        have hj' := ho _ (List.getElem_mem h)
        have hle := Nat.mul_le_mul_right sz (show i + 1 ≤ olds.length from h)
        rw [Nat.add_mul] at hle
        rw [hget _ (by rw [Nat.add_mul]; omega), if_pos (by omega)]
        exact hro i h j hj
      · simp only [List.getElem_append_right (Nat.le_of_not_lt h)] at hj ⊢
        have h' : i - olds.length < news.length := by omega
        have hj' := hn _ (List.getElem_mem h')
        have hle := Nat.mul_le_mul_right sz (show (i - olds.length) + 1 ≤ news.length by omega)
        rw [Nat.add_mul] at hle
        have e1 : i * sz = olds.length * sz + (i - olds.length) * sz := by rw [← Nat.add_mul]; congr 1; omega
        rw [hget _ (by rw [Nat.add_mul]; omega), if_neg (by omega)]
        have e2 : i * sz + j - olds.length * sz = (i - olds.length) * sz + j := by omega
        rw [e2]
        exact hrn _ h' j hj)
  refine ⟨_, _, _, _, hK, g1, ?_, g2, g3⟩
  have := SR.slc (ok := okOf O (plUp pl nx ⟨w.heap.size, sz, c.size⟩) ((nx, Obj.arr sz (olds ++ news)) :: hp)) (w := w.drew.alloc (.cells c e)) nx sz 0 (olds.length + news.length) (olds.length + news.length) k _ (plUp_self pl nx ⟨w.heap.size, sz, c.size⟩) rfl (Nat.le_refl _) hk (by simp [hcs])
  simpa using this
end
end Go.Sy
