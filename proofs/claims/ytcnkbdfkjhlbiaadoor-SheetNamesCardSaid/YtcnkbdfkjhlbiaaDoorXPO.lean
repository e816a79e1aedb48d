/- Lemmas, part XPO. Conditions: none. -/
import Derived.Test.YtcnkbdfkjhlbiaaDoorXPN
set_option linter.unusedVariables false
namespace Go.Proofs.YtcnkbdfkjhlbiaaDoor
open Go.Sy
set_option maxRecDepth 8000
def joinJ (bs junk : List Nat) (p : Pair) : List Nat := if idxOf (fun (x : Nat) => x.testBit p.fst.toNat) bs = idxOf (fun (x : Nat) => x.testBit p.snd.toNat) bs then junk else 0 :: junk
theorem joinJ_len {n : Nat} {bs junk : List Nat} (h : BlkOk n bs) {p : Pair} (h1 : p.fst.toNat < n) (h2 : p.snd.toNat < n) : (joinB bs p).length + (joinJ bs junk p).length = bs.length + junk.length := by
  unfold joinB joinJ
  obtain ⟨i, hi, hil, hit⟩ := idx_cov (h.cov _ h1)
  obtain ⟨j, hj, hjl, hjt⟩ := idx_cov (h.cov _ h2)
  simp only [← hi, ← hj, Int.toNat_natCast]
  by_cases hij : (i : Int) = j
  · rw [if_pos hij, if_pos hij]
  · rw [if_neg hij, if_neg hij, List.length_eraseIdx_of_lt (by simpa using hjl), List.length_set, List.length_cons]; omega
theorem join_h (o4 o2 o0 : Sy.Obj) (c : Census) (bs junk : List Nat) (one : List Bool) (least : List Int) (a b n : Nat) (h : BlkOk n bs) (hn : n ≤ 10) (ha : a < n) (hb : b < n) :
    CallH Tryd.prog G0 118 [.ptr 1 0 0, .agg [I a, I b]] [(4, o4), (3, .arr 1 (rU (bs ++ junk))), (2, o2), (1, .arr 2056 [wsOf c (.slc 3 1 0 bs.length (bs.length + junk.length)) one least]), (0, o0)] 5
      (fun _ hp' nx' => hp' = [(5, .arr 2 [[I a, I b]]), (4, o4), (3, .arr 1 (rU (joinB bs ⟨a, b⟩ ++ joinJ bs junk ⟨a, b⟩))), (2, o2), (1, .arr 2056 [wsOf c (.slc 3 1 0 (joinB bs ⟨a, b⟩).length (bs.length + junk.length)) one least]), (0, o0)] ∧ nx' = 6) := by
  have hlt : ∀ x ∈ bs, x < 4096 := fun x hx => by
    have := h.lt x hx
    have h2 : 2 ^ n ≤ 2 ^ 10 := Nat.pow_le_pow_right (by omega) hn
    omega
  have hl : bs.length ≤ 1000 := by have := h.len; omega
  obtain ⟨i, hi, hil, _⟩ := idx_cov (h.cov _ ha)
  obtain ⟨j, hj, hjl, _⟩ := idx_cov (h.cov _ hb)
  by_cases hij : i = j
  · have hab : idxOf (fun (x : Nat) => x.testBit a) bs = idxOf (fun (x : Nat) => x.testBit b) bs := by rw [← hi, ← hj, hij]
    have e1 : joinB bs ⟨a, b⟩ = bs := by simp only [joinB, Int.toNat_natCast]; rw [if_pos hab]
    have e2 : joinJ bs junk ⟨a, b⟩ = junk := by simp only [joinJ, Int.toNat_natCast]; rw [if_pos hab]
    rw [e1, e2]
    exact join_eq o4 o2 o0 c bs junk one least a b hlt hl hab
  · have hab : ¬ idxOf (fun (x : Nat) => x.testBit a) bs = idxOf (fun (x : Nat) => x.testBit b) bs := by rw [← hi, ← hj]; omega
    have e1 : joinB bs ⟨a, b⟩ = (bs.set i (bs.getD i 0 ||| bs.getD j 0)).eraseIdx j := by
      simp only [joinB, Int.toNat_natCast]; rw [if_neg hab, ← hi, ← hj]; rfl
    have e2 : joinJ bs junk ⟨a, b⟩ = 0 :: junk := by simp only [joinJ, Int.toNat_natCast]; rw [if_neg hab]
    have e3 : (joinB bs ⟨a, b⟩).length = bs.length - 1 := by rw [e1, List.length_eraseIdx_of_lt (by simpa using hjl), List.length_set]
    rw [e3, e1, e2]
    exact join_ne o4 o2 o0 c bs junk one least a b hlt hl i j hi hj hil hjl hij
theorem blocks0_len (k : Nat) : (blocks0 k).length = k := by simp [blocks0]
theorem blocks0_succ (k : Nat) : blocks0 (k + 1) = blocks0 k ++ [2 ^ k] := by simp [blocks0, List.range_succ]
def minG (l : List Int) (s : Nat) (gs : List Nat) : List Int := gs.foldl (fun l g => l.set s (min (l.getD s 0) (wr64 (1 + l.getD (s ^^^ (s &&& g)) 0)))) l
theorem minG_len (s : Nat) : ∀ (gs : List Nat) (l : List Int), (minG l s gs).length = l.length
  | [], _ => rfl
  | g :: gs, l => by
    have := minG_len s gs (l.set s (min (l.getD s 0) (wr64 (1 + l.getD (s ^^^ (s &&& g)) 0))))
    rw [List.length_set] at this
    exact this
theorem minG_snoc (l : List Int) (s : Nat) (gs : List Nat) (g : Nat) : minG l s (gs ++ [g]) = (minG l s gs).set s (min ((minG l s gs).getD s 0) (wr64 (1 + (minG l s gs).getD (s ^^^ (s &&& g)) 0))) := by
  unfold minG; rw [List.foldl_append]; rfl
def oneS (c : Census) (bs : List Nat) (one : List Bool) (s : Nat) : List Bool := one.set s (c.fitsSet (unionB bs (elems s)))
def least0 (l : List Int) (s : Nat) : List Int := if s = 0 then (l.set s 1024).set s 0 else l.set s 1024
def stepT (c : Census) (bs : List Nat) (T : List Bool × List Int) (s : Nat) : List Bool × List Int := (oneS c bs T.1 s, minG (least0 T.2 s) s (groupsL (oneS c bs T.1 s) s))
def tables (c : Census) (bs : List Nat) (n : Nat) : List Bool × List Int := (List.range n).foldl (stepT c bs) (List.replicate 1024 false, List.replicate 1024 0)
theorem tables_succ (c : Census) (bs : List Nat) (n : Nat) : tables c bs (n + 1) = stepT c bs (tables c bs n) n := by simp [tables, List.range_succ]
theorem tables_len (c : Census) (bs : List Nat) : ∀ n, (tables c bs n).1.length = 1024 ∧ (tables c bs n).2.length = 1024
  | 0 => by simp [tables]
  | n + 1 => by
    rw [tables_succ]
    have ⟨h1, h2⟩ := tables_len c bs n
    refine ⟨by simp [stepT, oneS, h1], ?_⟩
    simp only [stepT, minG_len]
    unfold least0
    split <;> simp [h2]
def blocksOf (c : Census) : List Nat := c.same.foldl joinB (blocks0 c.entries.length)
def readW (c : Census) : Work := ⟨c, blocksOf c, (tables c (blocksOf c) (2 ^ (blocksOf c).length)).1, (tables c (blocksOf c) (2 ^ (blocksOf c).length)).2⟩
structure Readable (c : Census) : Prop where
  ne : c.entries.length ≤ 10
  ns : c.same.length ≤ 1000
  na : c.apart.length ≤ 1000
  hs : ∀ p ∈ c.same, 0 ≤ p.fst ∧ 0 ≤ p.snd ∧ p.fst.toNat < c.entries.length ∧ p.snd.toNat < c.entries.length
  ha : ∀ p ∈ c.apart, 0 ≤ p.fst ∧ 0 ≤ p.snd
theorem foldJ_ok {n : Nat} : ∀ (l : List Pair) (bs : List Nat), BlkOk n bs → (∀ p ∈ l, p.fst.toNat < n ∧ p.snd.toNat < n) → BlkOk n (l.foldl joinB bs)
  | [], _, h, _ => h
  | p :: l, bs, h, hp => foldJ_ok l _ (joinB_ok h (hp p List.mem_cons_self).1 (hp p List.mem_cons_self).2) fun q hq => hp q (List.mem_cons_of_mem _ hq)
abbrev rHp (c : Census) (bs junk : List Nat) (one : List Bool) (least : List Int) : HpT :=
  [(3, .arr 1 (rU (bs ++ junk))), (2, .arr 1 [[.ptr 1 0 0]]), (1, .arr 2056 [wsOf c (.slc 3 1 0 bs.length (bs.length + junk.length)) one least]), (0, .arr 7 [[SE c.entries, SP c.same, SP c.apart, I c.omitted.lo, I c.omitted.hi, I c.number.lo, I c.number.hi]])]
abbrev nilP : SV := .d (.lit (.pointer none))
theorem ws_setOne {c : Census} {blk : SV} {one : List Bool} {least : List Int} {k : Nat} (h1 : one.length = 1024) (h : k < 1024) (v : Bool) : (wsOf c blk one least).set (8 + k) (B v) = wsOf c blk (one.set k v) least := by
  rw [Nat.add_comm]
  simp only [wsOf, List.set_cons_succ]
  rw [List.set_append_left _ _ (by simp [h1, h]), List.map_set]
theorem ws_setLeast {c : Census} {blk : SV} {one : List Bool} {least : List Int} {k : Nat} (h1 : one.length = 1024) (v : Int) : (wsOf c blk one least).set (1032 + k) (I v) = wsOf c blk one (least.set k v) := by
  rw [show 1032 + k = (1024 + k) + 8 by omega]
  simp only [wsOf, List.set_cons_succ]
  rw [List.set_append_right _ _ (by simp [h1])]
  simp [h1, List.map_set]
theorem ws_least {c : Census} {blk : SV} {one : List Bool} {least : List Int} {k : Nat} (h1 : one.length = 1024) (h : k < least.length) : (wsOf c blk one least).getD (1032 + k) .unk = I (least.getD k 0) := by
  rw [show 1032 + k = (1024 + k) + 8 by omega]
  simp only [wsOf, List.getD_cons_succ]
  simp [List.getD_eq_getElem?_getD, h1, h]
theorem unionB_snoc (bs : List Nat) (l : List Nat) (x : Nat) : unionB bs (l ++ [x]) = unionB bs l ||| bs.getD x 0 := by simp [unionB]
theorem andNot_le (s g : Nat) : s ^^^ (s &&& g) ≤ s := by
  have : s ^^^ (s &&& g) = s &&& (s ^^^ (s &&& g)) := by
    apply Nat.eq_of_testBit_eq
    intro i
    simp only [Nat.testBit_xor, Nat.testBit_and]
    cases s.testBit i <;> cases g.testBit i <;> rfl
  rw [this]; exact Nat.and_le_left
theorem groups_lt {one : List Bool} {s g : Nat} (h : g ∈ groupsL one s) : g < one.length := by
  have := (List.mem_filter.1 h).2
  rcases Nat.lt_or_ge g one.length with h' | h'
  · exact h'
  · simp [List.getD_eq_getElem?_getD, List.getElem?_eq_none h'] at this
abbrev yL := And.intro ty.sz0 <| And.intro ty.agg0 <| And.intro ty.elem0 <| And.intro ty.sz3 <| And.intro ty.agg3 <| And.intro ty.elem3 <| And.intro ty.zero3 <| And.intro ty.und3 <| And.intro ty.sz4 <| And.intro ty.agg4 <| And.intro ty.elem4 <| And.intro ty.zero4 <| And.intro ty.und4 <| And.intro ty.sz34 <| And.intro ty.agg34 <| And.intro ty.elem34 <| And.intro ty.by34 <| And.intro ty.ez34 <| And.intro ty.zero34 <| And.intro ty.und34 <| And.intro ty.sz35 <| And.intro ty.agg35 <| And.intro ty.elem35 <| And.intro ty.by35 <| And.intro ty.ez35 <| And.intro ty.zero35 <| And.intro ty.und35 <| And.intro ty.sz37 <| And.intro ty.agg37 <| And.intro ty.fld37_0 <| And.intro ty.fld37_1 <| And.intro ty.fld37_2 <| And.intro ty.fld37_3 <| And.intro ty.fld37_4 <| And.intro ty.elem37 <| And.intro ty.zero37 <| And.intro ty.pl37 <| And.intro ty.sz43 <| And.intro ty.agg43 <| And.intro ty.elem43 <| And.intro ty.by43 <| And.intro ty.ez43 <| And.intro ty.zero43 <| And.intro ty.und43 <| And.intro ty.sz104 <| And.intro ty.agg104 <| And.intro ty.fld104_0 <| And.intro ty.fld104_1 <| And.intro ty.elem104 <| And.intro ty.zero104 <| And.intro ty.pl104 <| And.intro ty.sz108 <| And.intro ty.agg108 <| And.intro ty.elem108 <| And.intro ty.zero108 <| And.intro ty.sz114 <| And.intro ty.agg114 <| And.intro ty.elem114 <| And.intro ty.zero114 <| And.intro ty.und114 <| And.intro ty.sz142 <| And.intro ty.agg142 <| And.intro ty.elem142 <| And.intro ty.by142 <| And.intro ty.ez142 <| And.intro ty.zero142 <| And.intro ty.und142 <| And.intro ty.sz143 <| And.intro ty.agg143 <| And.intro ty.elem143 <| And.intro ty.arr143 <| And.intro ty.zero143 <| And.intro ty.und143 <| And.intro ty.sz144 <| And.intro ty.agg144 <| And.intro ty.elem144 <| And.intro ty.arr144 <| And.intro ty.zero144 <| And.intro ty.und144 <| And.intro ty.sz146 <| And.intro ty.agg146 <| And.intro ty.fld146_0 <| And.intro ty.fld146_1 <| And.intro ty.fld146_2 <| And.intro ty.fld146_3 <| And.intro ty.elem146 <| And.intro ty.zero146 <| And.intro ty.pl146 <| And.intro ty.sz154 <| And.intro ty.agg154 <| And.intro ty.elem154 <| ty.zero154
set_option maxHeartbeats 4000000 in
theorem read_c (c : Census) (hc : Readable c) : CallP Tryd.prog G0 98 [c.s] (.dp (readW c).d) := by
  obtain ⟨hne, hns, hna, hss, haa⟩ := hc
  obtain ⟨z1, hz1⟩ : ∃ x, x = List.replicate 1024 false := ⟨_, rfl⟩
  obtain ⟨z2, hz2⟩ : ∃ x, x = List.replicate 1024 (0 : Int) := ⟨_, rfl⟩
  have e1 : List.replicate 1024 (SV.d (D.lit (Value.bool false))) = z1.map B := by rw [hz1, List.map_replicate]
  have e2 : List.replicate 1024 (SV.d (D.lit (Value.int .i64 0))) = z2.map I := by rw [hz2, List.map_replicate]
  have l1 : z1.length = 1024 := by rw [hz1, List.length_replicate]
  have l2 : z2.length = 1024 := by rw [hz2, List.length_replicate]
  refine CallP.body 115 [.tmp 2] Tryd.func98 (by kernel_rfl) rfl rfl rfl zP zP ?_
  refine Tr.reg [1, 2] (by
      simp only [↓sxd, sxu, ↓zE, ↓exq, ↓zI, Nat.reduceBEq, Nat.reduceAdd, Nat.reduceLT, Nat.reduceEqDiff]
      (all_goals try exact zF)) ?_
  refine Tr.reg [1, 2, 3] (by
      simp only [↓sxd, sxu, ↓zE, ↓exq, ↓zD, ↓zM, ↓zI, ↓zO, Nat.reduceBEq, Nat.reduceAdd, Nat.reduceLT, Nat.reduceLeDiff, Nat.reduceEqDiff, yL, e1, e2, l1, l2]
      (all_goals try exact zF)) ?_
  refine Tr.seq ?_
  refine Tr.reg [1, 2, 3, 17, 18] (by
      simp only [↓sxd, sxu, ↓zE, ↓exq, ↓zB, ↓zJ, ↓zD, ↓zA, Nat.reduceBEq, Nat.reduceAdd, Nat.reduceLT, Nat.reduceEqDiff, sxe, yL]
      (all_goals try exact zF)) ?_
  refine Tr.imp (st' := ⟨[(1, .ptr 0 0 0), (2, nilP), (3, .ptr 2 0 0), (17, I c.entries.length), (18, I 0)], [(3, .arr 1 (rU (blocks0 0))), (2, .arr 1 [[.ptr 1 0 0]]), (1, .arr 2056 [wsOf c (.slc 3 1 0 0 0) z1 z2]), (0, .arr 7 [[SE c.entries, SP c.same, SP c.apart, I c.omitted.lo, I c.omitted.hi, I c.number.lo, I c.number.hi]])], 4, 115, [], 0⟩) (by simp only [wsOf, blocks0, List.range_zero, List.map_nil]; exact Imp.goV 1 rfl rfl rfl rfl (by repeat' (first | exact trivial | exact F2.nil | refine F2.cons ?_ ?_ | refine TmV.cons rfl VnS.nil ?_ | refine TmV.cons rfl VnS.same ?_ | refine ⟨rfl, ?_⟩ | exact VnO.same _ | refine VnO.arr ?_ | exact VnS.nil | exact VnS.same | exact F2.refl fun _ _ => VnS.same)) (by repeat' (first | exact trivial | exact F2.nil | refine F2.cons ?_ ?_ | refine TmV.cons rfl VnS.nil ?_ | refine TmV.cons rfl VnS.same ?_ | refine ⟨rfl, ?_⟩ | exact VnO.same _ | refine VnO.arr ?_ | exact VnS.nil | exact VnS.same | exact F2.refl fun _ _ => VnS.same))) (Tr.block (Tr.loopI (fun mm ss => ∃ (k : Nat), (k ≤ c.entries.length) ∧ c.entries.length - k = mm ∧ ss = ⟨[(1, .ptr 0 0 0), (2, nilP), (3, .ptr 2 0 0), (17, I c.entries.length), (18, I k)], [(3, .arr 1 (rU (blocks0 k))), (2, .arr 1 [[.ptr 1 0 0]]), (1, .arr 2056 [wsOf c (.slc 3 1 0 k k) z1 z2]), (0, .arr 7 [[SE c.entries, SP c.same, SP c.apart, I c.omitted.lo, I c.omitted.hi, I c.number.lo, I c.number.hi]])], 4, 115, [], 0⟩) _ ⟨0, ?_, rfl, rfl⟩ ?_))
  · (repeat' (first | rfl | exact trivial | exact fun h => h | exact fun h => (by rw [h]; rfl) | apply And.intro | omega | exact Nat.le_of_ble_eq_true rfl))
  rintro mm ss ⟨k, hI, rfl, rfl⟩
  refine Tr.reg [1, 2, 3, 17, 18, 19] (by
      simp only [↓sxd, sxu, ↓zE, ↓exq, Nat.reduceBEq, Nat.reduceLT, sxe]
      (all_goals try exact zF)) ?_
  refine Tr.seq ?_
  refine Tr.cond rfl (fun h19 => ?_) (fun h19 => ?_)
  · have hlt : k < c.entries.length := by simpa using h19
    refine Tr.skip ?_
    refine Tr.seq ?_
    refine Tr.block ?_
    refine Tr.reg [1, 2, 3, 4, 17, 18] (by
        simp only [↓sxd, sxu, ↓zE, ↓exq, Nat.reduceBEq, Nat.reduceLT]
        (all_goals try exact zF)) ?_
    refine Tr.regD1 [0, 1, 2, 3, 4, 5, 6, 7, 8, 9, 10, 11] [8, 11] [0] [1, 2, 3, 17, 18] mix (by kernel_rfl) (by
        simp only [↓sxd, sxu, ↓zC, zK, ↓exq, ↓zB, ↓zD, ↓zV, ↓zG, ↓zQ, ↓zA, Nat.reduceBEq, Nat.reduceAdd, Nat.reduceLT, Nat.reduceLeDiff, Nat.reduceEqDiff, sxe, yL, shl_u (show k < 64 by omega), blocks0_len]
        (all_goals try exact zF)) ?_
    have w1 : IntKind.i64.wrap ((k : Int) + 1) = ((k + 1 : Nat) : Int) := by rw [wr (by omega) (by omega)]; rfl
    refine Tr.reg1 [1, 2, 3, 17, 18] (by
        simp only [↓sxd, sxu, ↓zE, ↓exq, Nat.reduceBEq, Nat.reduceLT, w1]
        (all_goals try exact zF)) ?_
    refine ⟨_, _, ?_, Imp.go (fun i => if i < 3 then i else i + 1) _ rfl rfl (List.Sublist.refl _) (fun _ h => absurd h (Nat.not_lt_zero _)) (fun id h => by simp only [show ¬ id < 3 by omega, if_false]; omega) ?_ ?_ (fun _ => rfl), ⟨k + 1, hlt, rfl, rfl⟩⟩
    · omega
    · simp only [Int.natCast_add, Int.natCast_one]; all_goals try exact zT
    · simp only [blocks0_succ, wsOf, rU, List.map_append, List.map_cons, List.map_nil]; all_goals try exact zT
  · have hge : k = c.entries.length := by simp at h19; omega
    refine Tr.exit ?_
    refine Tr.seq ?_
    refine Tr.reg [2, 3, 34, 35, 36] (by
        simp only [↓sxd, sxu, ↓zE, ↓exq, ↓zB, ↓zJ, ↓zD, ↓zA, Nat.reduceBEq, Nat.reduceAdd, Nat.reduceLT, Nat.reduceEqDiff, sxe, yL]
        (all_goals try exact zF)) ?_
    refine Tr.imp (st' := ⟨[(2, nilP), (3, .ptr 2 0 0), (34, SP c.same), (35, I c.same.length), (36, I 0)], rHp c (blocks0 c.entries.length) [] z1 z2, 4, 115, [], 0⟩) (by subst hge; simp only [rHp, List.append_nil, List.length_nil, Nat.add_zero, blocks0_len]; exact Imp.keepAll) (Tr.block (Tr.loopI (fun mm ss => ∃ (j : Nat) (bs junk : List Nat), (j ≤ c.same.length ∧ bs = (c.same.take j).foldl joinB (blocks0 c.entries.length) ∧ bs.length + junk.length = c.entries.length ∧ BlkOk c.entries.length bs) ∧ c.same.length - j = mm ∧ ss = ⟨[(2, nilP), (3, .ptr 2 0 0), (34, SP c.same), (35, I c.same.length), (36, I j)], rHp c bs junk z1 z2, 4, 115, [], 0⟩) _ ⟨0, blocks0 c.entries.length, [], ?_, rfl, rfl⟩ ?_))
    · exact ⟨Nat.zero_le _, rfl, by simp [blocks0_len], blocks0_ok _⟩
    rintro mm ss ⟨j, bs, junk, hI, rfl, rfl⟩
    obtain ⟨hj, hbs, hlen, hok⟩ := hI
    refine Tr.reg [2, 3, 34, 35, 36, 37] (by
        simp only [↓sxd, sxu, ↓zE, ↓exq, Nat.reduceBEq, Nat.reduceLT, Int.ofNat_lt]
        (all_goals try exact zF)) ?_
    refine Tr.seq ?_
    refine Tr.cond rfl (fun h37 => ?_) (fun h37 => ?_)
    · have hlt : j < c.same.length := by simpa using h37
      obtain ⟨q1, q2, q3, q4⟩ := hss _ (getD_mem (d := default) hlt)
      obtain ⟨a, ha⟩ := Int.eq_ofNat_of_zero_le q1
      obtain ⟨b, hb⟩ := Int.eq_ofNat_of_zero_le q2
      rw [ha, Int.toNat_natCast] at q3
      rw [hb, Int.toNat_natCast] at q4
      refine Tr.skip ?_
      refine Tr.seq ?_
      refine Tr.block ?_
      refine Tr.reg [2, 3, 6, 34, 35, 36] (by
          simp only [↓sxd, sxu, ↓zE, ↓exq, ↓zD, ↓zM, Nat.reduceBEq, Nat.reduceAdd, Nat.reduceLT, Nat.reduceEqDiff, sxe, yL, hlt, ha, hb]
          (all_goals try exact zF)) ?_
      refine Tr.reg1 [2, 3, 34, 35, 36] (by
          simp only [↓sxd, sxu, ↓zE, ↓exq, ↓zD, Nat.reduceBEq, Nat.reduceAdd, Nat.reduceLT, yL]
          (repeat ((with_reducible refine And.intro ?_ ?_); (focus (exact zS))))
          refine (join_h _ _ _ c bs junk _ _ a b c.entries.length hok hne q3 q4).mono ?_
          rintro r hp' nx' ⟨rfl, rfl⟩
          try simp only [↓sxd, sxu, Nat.reduceBEq]
          (all_goals try exact zF)) ?_
      have w1 : IntKind.i64.wrap ((j : Int) + 1) = ((j + 1 : Nat) : Int) := by rw [wr (by omega) (by omega)]; rfl
      refine Tr.reg1 [2, 3, 34, 35, 36] (by
          simp only [↓sxd, sxu, ↓zE, ↓exq, Nat.reduceBEq, Nat.reduceLT, w1]
          (all_goals try exact zF)) ?_
      have hpe : c.same.getD j default = ⟨a, b⟩ := by
        have : c.same.getD j default = ⟨(c.same.getD j default).fst, (c.same.getD j default).snd⟩ := rfl
        rw [this, ha, hb]
      have hjl := joinJ_len (junk := junk) hok (p := ⟨a, b⟩) (by simpa using q3) (by simpa using q4)
      refine ⟨_, _, ?_, Imp.go (fun i => if i < 4 then i else i + 2) _ rfl rfl (.cons _ (.cons _ (.refl _))) (fun _ h => absurd h (Nat.not_lt_zero _)) (fun id h => by simp only [show ¬ id < 4 by omega, if_false]; omega) ?_ ?_ (fun _ => rfl), ⟨j + 1, joinB bs ⟨a, b⟩, joinJ bs junk ⟨a, b⟩, ⟨hlt, ?_, ?_, ?_⟩, rfl, rfl⟩⟩
      · omega
      · repeat' (first | exact TmT.cons rfl (TnS.d _) ?_ | exact trivial | exact F2.nil | refine F2.append ?_ ?_ | refine F2.map fun _ _ => ?_ | refine F2.cons ?_ ?_ | refine TmT.cons rfl ?_ ?_ | exact TnS.d _ | exact TnS.dx _ | exact TnS.dp _ | exact TnS.slc rfl | exact TnS.ptr rfl | refine TnS.frzf rfl (by simp) (by simp) (by simp) ?_ | refine TnS.frz0 rfl (by simp) (by simp) (by simp) ?_ | refine TnS.frzm rfl (by simp) ?_ | exact TnS.mapr rfl | exact TnS.yld rfl | refine ⟨rfl, ?_⟩ | refine TnO.arr ?_ | refine TnO.map ?_ | exact TnO.raw _ | exact TnO.iter _ _ | refine TnS.agg ?_ | refine TnS.tup ?_ | exact TnS.pure (Pure.clo (by assumption) (by assumption)) | refine TnS.clo ?_ ?_ | exact TnS.unk _ | exact TnS.pure (Pure.clo (by assumption) (by assumption)))
      · simp only [rHp, hjl]; all_goals try exact zT
      · rw [List.take_succ_eq_append_getElem hlt, List.foldl_append, ← hbs]
        rw [List.getD_eq_getElem?_getD, List.getElem?_eq_getElem hlt] at hpe
        simp only [Option.getD_some] at hpe
        rw [hpe]; rfl
      · rw [hjl]; exact hlen
      · exact joinB_ok hok (by simpa using q3) (by simpa using q4)
    · have hge2 : j = c.same.length := by simp at h37; omega
      refine Tr.exit ?_
      refine Tr.seq ?_
      have hb10 : bs.length ≤ 10 := by have := hok.len; omega
      have hp10 : 2 ^ bs.length ≤ 2 ^ 10 := Nat.pow_le_pow_right (by omega) hb10
      have hp1 : 1 ≤ 2 ^ bs.length := Nat.one_le_two_pow
      have wN : IntKind.u64.wrap (((2 ^ bs.length - 1 : Nat) : Int) + 1) = ((2 ^ bs.length : Nat) : Int) := by rw [wu (by omega) (by omega)]; omega
      have t0 : tables c bs 0 = (z1, z2) := by rw [hz1, hz2]; rfl
      have hn10 : 2 ^ c.entries.length ≤ 2 ^ 10 := Nat.pow_le_pow_right (by omega) hne
      refine Tr.reg [2, 3, 46, 47] (by
          simp only [↓sxd, sxu, ↓zE, ↓exq, ↓zD, Nat.reduceBEq, Nat.reduceLT, yL]
          (repeat ((with_reducible refine And.intro ?_ ?_); (focus (exact zS))))
          refine CallO.useB [] (whole_c (Work.mk c bs z1 z2) (by show bs.length ≤ 20; omega)) (List.nil_sublist _) (.cons (frzW (bs := bs) (junk := junk) rfl rfl (by simp) (by simp) rfl) .nil) (Rigid.lit _) ?_
          try simp only [↓sxd, sxu, ↓zE, ↓exq, Nat.reduceBEq, Nat.reduceLT, wN]
          (all_goals try exact zF)) ?_
      refine Tr.imp (st' := ⟨[(2, nilP), (3, .ptr 2 0 0), (46, U (2 ^ bs.length : Nat)), (47, U 0)], rHp c bs junk (tables c bs 0).1 (tables c bs 0).2, 4, 115, [0], 0⟩) (by rw [t0]; exact Imp.flag) (Tr.block (Tr.loopI (fun mm ss => ∃ (s : Nat), (s ≤ 2 ^ bs.length) ∧ 2 ^ bs.length - s = mm ∧ ss = ⟨[(2, nilP), (3, .ptr 2 0 0), (46, U (2 ^ bs.length : Nat)), (47, U s)], rHp c bs junk (tables c bs s).1 (tables c bs s).2, 4, 115, [0], 0⟩) _ ⟨0, ?_, rfl, rfl⟩ ?_))
      · (repeat' (first | rfl | exact trivial | exact fun h => h | exact fun h => (by rw [h]; rfl) | apply And.intro | omega | exact Nat.le_of_ble_eq_true rfl))
      rintro mm ss ⟨s, hI, rfl, rfl⟩
      refine Tr.reg [2, 3, 46, 47, 48] (by
          simp only [↓sxd, sxu, ↓zE, ↓exq, Nat.reduceBEq, Nat.reduceLT, sxe]
          (all_goals try exact zF)) ?_
      refine Tr.seq ?_
      refine Tr.cond rfl (fun h48 => ?_) (fun h48 => ?_)
      · have hs1 : s < 2 ^ bs.length := by simpa using h48
        have hs2 : s < 1024 := by omega
        obtain ⟨ht1, ht2⟩ := tables_len c bs s
        generalize hT : tables c bs s = T at ht1 ht2
        obtain ⟨T1, T2⟩ := T
        simp only at ht1 ht2
        refine Tr.skip ?_
        refine Tr.seq ?_
        refine Tr.block ?_
        refine Tr.reg [2, 3, 7, 46, 47] (by
            simp only [↓sxd, sxu, ↓zE, ↓exq, ↓zM, Nat.reduceBEq, Nat.reduceAdd, Nat.reduceLT, Nat.reduceEqDiff, yL]
            (all_goals try exact zF)) ?_
        refine Tr.reg [2, 3, 7, 8, 46, 47] (by
            simp only [↓sxd, sxu, ↓zE, ↓exq, Nat.reduceBEq, Nat.reduceLT]
            (all_goals try exact zF)) ?_
        refine Tr.seq ?_
        refine Tr.reg [2, 3, 7, 8, 46, 47, 51, 52, 53] (by
            simp only [↓sxd, sxu, ↓zE, ↓exq, ↓zD, Nat.reduceBEq, Nat.reduceLT, yL]
            (repeat ((with_reducible refine And.intro ?_ ?_); (focus (exact zS))))
            refine CallO.use (list_c s (by omega)) ?_
            try simp only [↓sxd, sxu, ↓zE, ↓exq, ↓zB, ↓zJ, Nat.reduceBEq, Nat.reduceLT, sxe, yL]
            (all_goals try exact zF)) ?_
        refine Tr.imp (st' := ⟨[(2, nilP), (3, .ptr 2 0 0), (7, .ptr 4 0 0), (8, U (unionB bs ((elems s).take 0) : Nat)), (46, U (2 ^ bs.length : Nat)), (47, U s), (51, SI (nats (elems s))), (52, I (elems s).length), (53, I 0)], (4, .arr 1 [[U s]]) :: rHp c bs junk T1 T2, 5, 115, [0], 0⟩) (by simp only [List.take_zero, nats_len]; exact Imp.keepAll) (Tr.block (Tr.loopI (fun mm ss => ∃ (i : Nat), (i ≤ (elems s).length) ∧ (elems s).length - i = mm ∧ ss = ⟨[(2, nilP), (3, .ptr 2 0 0), (7, .ptr 4 0 0), (8, U (unionB bs ((elems s).take i) : Nat)), (46, U (2 ^ bs.length : Nat)), (47, U s), (51, SI (nats (elems s))), (52, I (elems s).length), (53, I i)], (4, .arr 1 [[U s]]) :: rHp c bs junk T1 T2, 5, 115, [0], 0⟩) _ ⟨0, ?_, rfl, rfl⟩ ?_))
        · (repeat' (first | rfl | exact trivial | exact fun h => h | exact fun h => (by rw [h]; rfl) | apply And.intro | omega | exact Nat.le_of_ble_eq_true rfl))
        rintro mm ss ⟨i, hI, rfl, rfl⟩
        refine Tr.reg [2, 3, 7, 8, 46, 47, 51, 52, 53, 54] (by
            simp only [↓sxd, sxu, ↓zE, ↓exq, Nat.reduceBEq, Nat.reduceLT, sxe]
            (all_goals try exact zF)) ?_
        refine Tr.seq ?_
        refine Tr.cond rfl (fun h54 => ?_) (fun h54 => ?_)
        · have hli : i < (elems s).length := by simpa using h54
          have hin : (elems s).getD i 0 < bs.length := elems_lt (getD_mem hli) hs1
          have u1 := unionB_lt hok.lt ((elems s).take i)
          have u2 := hok.lt _ (getD_mem (d := 0) hin)
          refine Tr.skip ?_
          refine Tr.seq ?_
          refine Tr.block ?_
          refine Tr.reg [2, 3, 7, 8, 10, 46, 47, 51, 52, 53] (by
              simp only [↓sxd, sxu, ↓zE, ↓exq, ↓zD, Nat.reduceBEq, Nat.reduceLT, sxe, yL, nats_len, nats_get, hli]
              (all_goals try exact zF)) ?_
          refine Tr.reg1 [2, 3, 7, 8, 46, 47, 51, 52, 53] (by
              simp only [↓sxd, sxu, ↓zE, ↓exq, ↓zD, ↓zV, ↓zA, Nat.reduceBEq, Nat.reduceLT, Nat.reduceEqDiff, sxe, yL, hin, rU_getA hin, or_u (show unionB bs ((elems s).take i) < 18446744073709551616 by omega) (show bs.getD ((elems s).getD i 0) 0 < 18446744073709551616 by omega)]
              (all_goals try exact zF)) ?_
          have hel := elems_len s
          have w1 : IntKind.i64.wrap ((i : Int) + 1) = ((i + 1 : Nat) : Int) := by rw [wr (by omega) (by omega)]; rfl
          refine Tr.reg1 [2, 3, 7, 8, 46, 47, 51, 52, 53] (by
              simp only [↓sxd, sxu, ↓zE, ↓exq, Nat.reduceBEq, Nat.reduceLT, w1]
              (all_goals try exact zF)) ?_
          refine ⟨_, _, ?_, ?_, ⟨i + 1, hli, rfl, rfl⟩⟩
          · omega
          · have : unionB bs ((elems s).take (i + 1)) = unionB bs ((elems s).take i) ||| bs.getD ((elems s).getD i 0) 0 := by
              rw [List.take_succ_eq_append_getElem hli, unionB_snoc, List.getD_eq_getElem?_getD (l := elems s), List.getElem?_eq_getElem hli]; rfl
            rw [this]; exact Imp.keepAll
        · have hge6 : i = (elems s).length := by simp at h54; omega
          subst hge6
          have u3 := unionB_lt hok.lt (elems s)
          refine Tr.exit ?_
          refine Tr.regD [0, 1, 2, 3, 4, 5, 6, 7, 8] [4, 8] [0, 1] [2, 3, 7, 46, 47] mix (by kernel_rfl) (by
              simp only [↓sxd, sxu, ↓zC, zK, ↓exq, ↓zD, Nat.reduceBEq, Nat.reduceLT, yL, List.take_length]
              (repeat ((with_reducible refine And.intro ?_ ?_); (focus (exact zS))))
              refine CallL.use (CallP.useB [] (fits_c (Work.mk c bs T1 T2) (unionB bs (elems s)) (by omega) (fun e he => elems_lt he u3) haa (by show c.apart.length < _; omega)) (List.nil_sublist _) (.cons (frzW (bs := bs) (junk := junk) rfl rfl (by simp) (by simp) rfl) (.cons (TnS.d _) .nil)) (Rigid.lit _) ⟨rfl, rfl, rfl⟩) (by simp only; (all_goals try exact zF)) ?_
              try simp only [↓sxd, sxu, ↓zC, zK, ↓exq, ↓zV, ↓zA, Nat.reduceBEq, Nat.reduceAdd, Nat.reduceLT, Nat.reduceLeDiff, Nat.reduceEqDiff, sxe, yL, ht1, ht2, ws_setOne ht1 hs2]
              (all_goals try exact zF)) ?_
          have ho : (oneS c bs T1 s).length = 1024 := by simp [oneS, ht1]
          have hone : T1.set s (c.fitsSet (unionB bs (elems s))) = oneS c bs T1 s := rfl
          have i64s : (1032 + s ≤ 2056) = True := by simp; omega
          refine Tr.regD [0, 1, 2, 3, 4, 5] [5] [] [2, 3, 7, 46, 47] mix (by kernel_rfl) (by
              simp only [↓sxd, sxu, ↓zC, zK, ↓exq, ↓zD, ↓zV, ↓zA, Nat.reduceBEq, Nat.reduceAdd, Nat.reduceLT, Nat.reduceLeDiff, Nat.reduceEqDiff, sxe, yL, hone, ho, ht2, hs2, ws_setLeast ho]
              (all_goals try exact zF)) ?_
          refine Tr.seq ?_
          refine Tr.reg [2, 3, 7, 46, 47, 81] (by
              simp only [↓sxd, sxu, ↓zE, ↓exq, ↓zD, Nat.reduceBEq, Nat.reduceLT, yL]
              (all_goals try exact zF)) ?_
          refine Tr.join2 (st' := ⟨[(2, nilP), (3, .ptr 2 0 0), (7, .ptr 4 0 0), (46, U (2 ^ bs.length : Nat)), (47, U s)], (4, .arr 1 [[U s]]) :: rHp c bs junk (oneS c bs T1 s) (least0 T2 s), 5, 115, [0], 0⟩) ?_ ?_
          ·
            refine Tr.cond rfl (fun h81 => ?_) (fun h81 => ?_)
            · have h0 : s = 0 := by simpa using h81
              have i64t : (1032 + s ≤ (oneS c bs T1 s).length + T2.length + 7) = True := by rw [ho, ht2]; simp; omega
              refine Tr.regD1 [0, 1, 2, 3, 4, 5] [5] [] [2, 3, 7, 46, 47] mix (by kernel_rfl) (by
                  simp only [↓sxd, sxu, ↓zC, zK, ↓exq, ↓zD, ↓zV, ↓zA, Nat.reduceBEq, Nat.reduceAdd, Nat.reduceLT, Nat.reduceLeDiff, Nat.reduceEqDiff, sxe, yL, ho, ht2, hs2, ws_setLeast ho, List.length_set]
                  (all_goals try exact zF)) ?_
              exact ⟨_, (by first |(unfold least0; rw [if_pos (by simpa using h81)]; exact Imp.keepAll) |(unfold least0; rw [if_neg (by simpa using h81)]; exact Imp.keep [2, 3, 7, 46, 47])), rfl⟩
            · refine Tr.skip ?_
              exact ⟨_, (by first |(unfold least0; rw [if_pos (by simpa using h81)]; exact Imp.keepAll) |(unfold least0; rw [if_neg (by simpa using h81)]; exact Imp.keep [2, 3, 7, 46, 47])), rfl⟩
          refine Tr.reg [2, 3, 7, 46, 47, 89] (by
              simp only [↓sxd, sxu, ↓zE, ↓exq, ↓zD, Nat.reduceBEq, Nat.reduceLT, yL]
              (repeat ((with_reducible refine And.intro ?_ ?_); (focus (exact zS))))
              refine (groups_h _ _ 1 s).mono ?_
              rintro r hp' nx' ⟨rfl, rfl, rfl⟩
              try simp only [↓sxd, sxu, Nat.reduceBEq, Nat.reduceAdd]
              (all_goals try exact zF)) ?_
          refine Tr.block ?_
          have hml : ∀ gs, (minG (least0 T2 s) s gs).length = 1024 := fun gs => by
            rw [minG_len]; unfold least0; split <;> simp [ht2]
          refine Tr.rangeF2 rfl (fun fn ca cb has hbd => ?_)
          try dsimp only
          refine CallH.mono (groups1_h c (.slc 3 1 0 bs.length (bs.length + junk.length)) (oneS c bs T1 s) ho s hs2 (minG (least0 T2 s) s) hml (fun gs => (7, .loop fn _ _ _ ca cb .ready none 0) :: (6, .arr 1 [[U s]]) :: (5, .arr 1 [[.ptr 1 0 0]]) :: (4, .arr 1 [[U s]]) :: rHp c bs junk (oneS c bs T1 s) (minG (least0 T2 s) s gs)) 8 6 5 1 7 (fun _ => rfl) (fun _ => rfl) (fun _ => rfl) (fun _ _ => False) ?_) ?_
          · intro gs g ts hgs
            have hg : g < 1024 := by
              have hm : g ∈ groupsL (oneS c bs T1 s) s := by rw [← hgs]; simp
              have := groups_lt hm
              rwa [ho] at this
            have hL := hml gs
            generalize hLe : minG (least0 T2 s) s gs = L at hL
            have hx := andNot_le s g
            refine RoundH.of_body2 has hbd rfl rfl (fun t ht => by simp at ht; subst ht; decide) (fun ro => ?_)
            refine Tr.reg1 [3, 7, 11] (by
                simp only [↓sxd, sxu, ↓zE, ↓exq, Nat.reduceBEq, Nat.reduceLT, bindT]
                (all_goals try exact zF)) ?_
            refine ⟨rfl, none, _, rfl, ?_⟩
            try dsimp only
            refine Tr.block ?_
            have i64t : (1032 + s ≤ (oneS c bs T1 s).length + L.length + 7) = True := by rw [ho, hL]; simp; omega
            have hxl : (1032 + (s ^^^ (s &&& g)) ≤ (oneS c bs T1 s).length + L.length + 7) = True := by rw [ho, hL]; simp; omega
            refine Tr.regD1 [0, 1, 2, 3, 4, 5, 6, 7, 8, 9, 10, 11, 12, 13, 14, 15, 16, 17, 18, 19, 20, 21, 22] [22] [] [] mix (by kernel_rfl) (by
                simp only [↓sxd, sxu, ↓zC, zK, ↓exq, ↓zD, ↓zV, ↓zG, ↓zA, Nat.reduceBEq, Nat.reduceAdd, Nat.reduceLT, Nat.reduceLeDiff, Nat.reduceEqDiff, sxe, yL, ho, hL, hs2, ws_least ho (show s < L.length by omega), ws_least ho (show s ^^^ (s &&& g) < L.length by omega), andNot_u (show s < 18446744073709551616 by omega) (show g < 18446744073709551616 by omega)]
                (repeat ((with_reducible refine And.intro ?_ ?_); (focus (exact zS))))
                refine CallD.use (min2_c _ _) ?_
                try simp only [↓sxd, sxu, ↓zC, zK, ↓exq, ↓zV, ↓zA, Nat.reduceBEq, Nat.reduceAdd, Nat.reduceLT, Nat.reduceLeDiff, Nat.reduceEqDiff, sxe, yL, ho, hL, hs2, ws_setLeast ho]
                (all_goals try exact zF)) ?_
            refine ⟨_, _, _, _, _, _, _, _, _, rfl, ?_⟩
            refine .inl ⟨rfl, ?_, rfl⟩
            simp only [minG_snoc, hLe, wr64]
            rfl
          rintro r hp' nx' (⟨rfl, rfl⟩ | hf)
          rotate_left
          · exact hf.elim
          refine ⟨_, .ready, none, rfl, by decide, ?_⟩
          try dsimp only
          have w1 : IntKind.u64.wrap ((s : Int) + 1) = ((s + 1 : Nat) : Int) := by rw [wu (by omega) (by omega)]; rfl
          refine Tr.reg1 [2, 3, 46, 47] (by
              simp only [↓sxd, sxu, ↓zE, ↓exq, Nat.reduceBEq, Nat.reduceLT, Nat.reduceEqDiff, w1]
              (all_goals try exact zF)) ?_
          refine ⟨_, _, ?_, Imp.go (fun i => if i < 4 then i else i + 4) _ rfl rfl (.cons _ (.cons _ (.cons _ (.cons _ (.refl _))))) (fun _ h => absurd h (Nat.not_lt_zero _)) (fun id h => by simp only [show ¬ id < 4 by omega, if_false]; omega) ?_ ?_ (fun h => by cases h), ⟨s + 1, hs1, rfl, rfl⟩⟩
          · omega
          · repeat' (first | exact TmT.cons rfl (TnS.d _) ?_ | exact trivial | exact F2.nil | refine F2.append ?_ ?_ | refine F2.map fun _ _ => ?_ | refine F2.cons ?_ ?_ | refine TmT.cons rfl ?_ ?_ | exact TnS.d _ | exact TnS.dx _ | exact TnS.dp _ | exact TnS.slc rfl | exact TnS.ptr rfl | refine TnS.frzf rfl (by simp) (by simp) (by simp) ?_ | refine TnS.frz0 rfl (by simp) (by simp) (by simp) ?_ | refine TnS.frzm rfl (by simp) ?_ | exact TnS.mapr rfl | exact TnS.yld rfl | refine ⟨rfl, ?_⟩ | refine TnO.arr ?_ | refine TnO.map ?_ | exact TnO.raw _ | exact TnO.iter _ _ | refine TnS.agg ?_ | refine TnS.tup ?_ | exact TnS.pure (Pure.clo (by assumption) (by assumption)) | refine TnS.clo ?_ ?_ | exact TnS.unk _ | exact TnS.pure (Pure.clo (by assumption) (by assumption)))
          · simp only [tables_succ, hT, stepT]; all_goals try exact zT
      · have hs1 : s = 2 ^ bs.length := by simp at h48; omega
        refine Tr.exit ?_
        refine Tr.reg [2] (by
            simp only [↓sxd, sxu, ↓zE, ↓exq, ↓zD, Nat.reduceBEq, Nat.reduceLT, yL]
            (all_goals try exact zF)) ?_
        subst hs1
        have hbk : blocksOf c = bs := by rw [hbs, hge2, List.take_length]; rfl
        refine Tr.imp (st' := ⟨[(2, .dp (Work.mk c bs (tables c bs (2 ^ bs.length)).1 (tables c bs (2 ^ bs.length)).2).d)], [], _, _, _, _⟩) (Imp.fin (.cons rfl (frzW (bs := bs) (junk := junk) rfl rfl (by simp) (by simp) rfl) trivial)) ?_
        refine Tr.ret ?_
        refine ⟨.inr rfl, ?_⟩
        simp only [readW, hbk]; rfl
end Go.Proofs.YtcnkbdfkjhlbiaaDoor
