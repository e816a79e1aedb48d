/- Lemmas, part XPN. Conditions: none. -/
import Derived.Test.YtcnkbdfkjhlbiaaDoorXPM
set_option linter.unusedVariables false
namespace Go.Proofs.YtcnkbdfkjhlbiaaDoor
open Go.Sy
set_option maxRecDepth 8000
abbrev uG := And.intro ty.sz0 <| And.intro ty.agg0 <| And.intro ty.elem0 <| And.intro ty.sz108 <| And.intro ty.agg108 <| And.intro ty.elem108 <| And.intro ty.zero108 <| And.intro ty.sz114 <| And.intro ty.agg114 <| And.intro ty.elem114 <| And.intro ty.zero114 <| And.intro ty.und114 <| And.intro ty.sz153 <| And.intro ty.agg153 <| And.intro ty.elem153 <| And.intro ty.zero153 <| And.intro ty.sz154 <| And.intro ty.agg154 <| And.intro ty.elem154 <| ty.zero154
theorem groups_h (hp : HpT) (nx iw s : Nat) : CallH Tryd.prog G0 95 [.ptr iw 0 0, U s] hp nx (fun r hp' nx' => r = .clo (.func 117) [] [.ptr (nx + 1) 0 0, .ptr nx 0 0] ∧ hp' = (nx + 1, .arr 1 [[U s]]) :: (nx, .arr 1 [[.ptr iw 0 0]]) :: hp ∧ nx' = nx + 2) := by
  refine CallH.body 6 [.tmp 4] Tryd.func95 (by kernel_rfl) rfl rfl rfl ?_
  refine Tr.reg [2, 3] (by
      simp only [↓sxd, sxu, ↓zE, ↓exq, ↓zI, Nat.reduceBEq, Nat.reduceAdd, Nat.reduceLT, Nat.reduceEqDiff]
      (all_goals try exact zF)) ?_
  refine Tr.reg [4] (by
      simp only [↓sxd, sxu, ↓zE, ↓exq, Nat.reduceBEq, Nat.reduceLT]
      (all_goals try exact zF)) ?_
  refine Tr.ret ?_
  exact ⟨.inr rfl, _, rfl, rfl, rfl, rfl⟩
def lowb (s : Nat) : Nat := if s = 0 then 0 else 2 ^ low s
theorem lowb_all : (List.range 4096).all (fun s => (s &&& ((18446744073709551616 - s) % 18446744073709551616)) == lowb s) = true := by kernel_rfl
theorem lowb_u {s : Nat} (h : s < 4096) : IntKind.u64.wrap ((BitVec.ofInt IntKind.u64.bits (s : Int) &&& BitVec.ofInt IntKind.u64.bits (IntKind.u64.wrap (0 - (s : Int)))).toNat : Int) = (lowb s : Int) := by
  have e1 : IntKind.u64.wrap (0 - (s : Int)) = (((18446744073709551616 - s) % 18446744073709551616 : Nat) : Int) := by
    have e : IntKind.u64.bits = 64 := rfl
    have sg : IntKind.u64.signed = false := rfl
    simp only [IntKind.wrap, e, sg, Bool.false_and, Bool.false_eq_true, if_false]
    omega
  have h2 := List.all_eq_true.1 lowb_all s (List.mem_range.2 h)
  rw [e1, and_u (by omega) (Nat.mod_lt _ (by decide))]
  congr 1
  simpa using h2
def subsFrom : Nat → Nat → Nat → List Nat
  | 0, _, _ => []
  | f + 1, sub, rest => sub :: if sub = 0 then [] else subsFrom f ((sub - 1) &&& rest) rest
theorem subs_fuel : ∀ (f g x rest : Nat), x < f → x < g → subsFrom f x rest = subsFrom g x rest
  | 0, _, _, _, h, _ => by omega
  | _, 0, _, _, _, h => by omega
  | f + 1, g + 1, x, rest, h1, h2 => by
    rw [subsFrom, subsFrom]
    by_cases h : x = 0
    · rw [if_pos h, if_pos h]
    · rw [if_neg h, if_neg h]
      have : (x - 1) &&& rest ≤ x - 1 := Nat.and_le_left
      rw [subs_fuel f g _ rest (by omega) (by omega)]
def restOf (s : Nat) : Nat := s ^^^ (s &&& lowb s)
def groupsL (one : List Bool) (s : Nat) : List Nat := ((subsFrom (restOf s + 1) (restOf s) (restOf s)).map (· ||| lowb s)).filter fun g => one.getD g false
theorem ws_one {c : Census} {blk : SV} {one : List Bool} {least : List Int} (h1 : one.length = 1024) {k : Nat} (h : k < 1024) : (wsOf c blk one least).getD (8 + k) .unk = B (one.getD k false) := by
  rw [Nat.add_comm]
  simp only [wsOf, List.getD_cons_succ]
  simp [List.getD_eq_getElem?_getD, List.getElem?_append, h1, h]
theorem ws_len {c : Census} {blk : SV} {one : List Bool} {least : List Int} (h1 : one.length = 1024) (h2 : least.length = 1024) : (wsOf c blk one least).length = 2056 := by simp [wsOf, h1, h2]
theorem bits_all : (List.range 1024).all (fun s => decide (lowb s ≤ s) && decide (restOf s ≤ s)) = true := by kernel_rfl
theorem bits_le {s : Nat} (h : s < 1024) : lowb s ≤ s ∧ restOf s ≤ s := by
  have := List.all_eq_true.1 bits_all s (List.mem_range.2 h)
  simpa using this
abbrev yR := And.intro ty.sz0 <| And.intro ty.agg0 <| And.intro ty.elem0 <| And.intro ty.sz4 <| And.intro ty.agg4 <| And.intro ty.elem4 <| And.intro ty.zero4 <| And.intro ty.und4 <| And.intro ty.sz108 <| And.intro ty.agg108 <| And.intro ty.elem108 <| And.intro ty.zero108 <| And.intro ty.sz114 <| And.intro ty.agg114 <| And.intro ty.elem114 <| And.intro ty.zero114 <| And.intro ty.und114 <| And.intro ty.sz143 <| And.intro ty.agg143 <| And.intro ty.elem143 <| And.intro ty.arr143 <| And.intro ty.zero143 <| And.intro ty.und143 <| And.intro ty.sz146 <| And.intro ty.agg146 <| And.intro ty.fld146_0 <| And.intro ty.fld146_1 <| And.intro ty.fld146_2 <| And.intro ty.fld146_3 <| And.intro ty.elem146 <| And.intro ty.zero146 <| And.intro ty.pl146 <| And.intro ty.sz147 <| And.intro ty.agg147 <| And.intro ty.elem147 <| ty.zero147
theorem groups1_h (c : Census) (blk : SV) (one : List Bool) (h1 : one.length = 1024) (s : Nat) (hs : s < 1024) (lst : List Nat → List Int) (h2 : ∀ gs, (lst gs).length = 1024) (H : List Nat → HpT) (nx ib iwb iw l : Nat)
    (hS : ∀ gs, (H gs).lookup ib = some (.arr 1 [[U s]])) (hW : ∀ gs, (H gs).lookup iwb = some (.arr 1 [[.ptr iw 0 0]])) (hO : ∀ gs, (H gs).lookup iw = some (.arr 2056 [wsOf c blk one (lst gs)]))
    (Stop : HpT → Nat → Prop) (hY : ∀ (gs : List Nat) (g : Nat) (ts : List Nat), gs ++ g :: ts = groupsL one s → RoundH Tryd.prog G0 l [U g] (H gs) nx (fun r hp' nx' => (r = B true ∧ hp' = H (gs ++ [g]) ∧ nx' = nx) ∨ (r = B false ∧ Stop hp' nx'))) :
    CallH Tryd.prog G0 117 [.yld l, .ptr ib 0 0, .ptr iwb 0 0] (H []) nx (fun _ hp' nx' => (hp' = H (groupsL one s) ∧ nx' = nx) ∨ Stop hp' nx') := by
  refine CallH.body 37 [] Tryd.func117 (by kernel_rfl) rfl rfl rfl ?_
  have hS0 := hS []
  obtain ⟨f1, f2⟩ := bits_le hs
  refine Tr.reg [0, 1, 2, 4] (by
    simp only [↓sxd, sxu, ↓zE, ↓exq, ↓zL, ↓zD, Nat.reduceBEq, Nat.reduceAdd, Nat.reduceLT, yR, hS0, lowb_u (show s < 4096 by omega)]
    (all_goals try exact zF)) ?_
  refine Tr.reg [0, 1, 2, 4, 5] (by
    simp only [↓sxd, sxu, ↓zE, ↓exq, ↓zD, Nat.reduceBEq, Nat.reduceLT, yR, hS0, andNot_u (show s < 18446744073709551616 by omega) (show lowb s < 18446744073709551616 by omega)]
    (all_goals try exact zF)) ?_
  refine Tr.reg [0, 1, 2, 4, 5, 6] (by
    simp only [↓sxd, sxu, ↓zE, ↓exq, Nat.reduceBEq, Nat.reduceLT]
    (all_goals try exact zF)) ?_
  refine Tr.block (Tr.loopI (fun mm ss => ∃ (gs : List Nat) (sub : Nat), (sub ≤ 1023 ∧ gs ++ ((subsFrom (sub + 1) sub (restOf s)).map (· ||| lowb s)).filter (fun g => one.getD g false) = groupsL one s) ∧ sub = mm ∧
    ss = ⟨[(0, .yld l), (1, .ptr ib 0 0), (2, .ptr iwb 0 0), (4, U (lowb s)), (5, U (restOf s)), (6, U sub)], H gs, nx, 37, [], nx⟩) _ ⟨[], restOf s, ⟨by omega, rfl⟩, rfl, rfl⟩ ?_)
  rintro mm ss ⟨gs, sub, ⟨hsub, hgs⟩, rfl, rfl⟩
  have hS1 := hS gs
  have hW1 := hW gs
  have hO1 := hO gs
  have hg : sub ||| lowb s < 1024 := Nat.or_lt_two_pow (n := 10) (by omega) (by omega)
  have hor := or_u (show sub < 18446744073709551616 by omega) (show lowb s < 18446744073709551616 by omega)
  have hix : (((sub ||| lowb s : Nat) : Int) < ((1024 : Nat) : Int)) = True := by simp; omega
  have hlen : (8 + (sub ||| lowb s) < (wsOf c blk one (lst gs)).length) = True := by rw [ws_len h1 (h2 gs)]; simp; omega
  have hval := ws_one (c := c) (blk := blk) (least := lst gs) h1 hg
  have hx := hgs
  rw [subsFrom, List.map_cons, List.filter_cons] at hx
  cases ho : one.getD (sub ||| lowb s) false with
  | false =>
    rw [ho, if_neg (by decide)] at hx
    have hx' : gs ++ (if sub = 0 then [] else ((subsFrom sub ((sub - 1) &&& restOf s) (restOf s)).map (· ||| lowb s)).filter (fun g => one.getD g false)) = groupsL one s := by
      rw [← hx]; split <;> rfl
    refine Tr.seq (Tr.block (Tr.seq (Tr.reg [0, 1, 2, 4, 5, 6, 34] (by
      simp only [↓sxd, sxu, ↓zE, ↓exq, ↓zD, ↓zV, ↓zA, Nat.reduceBEq, Nat.reduceLT, Nat.reduceEqDiff, sxe, yR, hW1, hO1, hor, hix, hval, ho]
      (repeat ((with_reducible refine And.intro ?_ ?_); (focus (exact zS))))
      refine GdO.no rfl ?_
      simp only [↓sxd, sxu, ↓zE, Nat.reduceBEq, Nat.reduceLT]
      refine GdO.no rfl ?_
      simp only [↓sxd, sxu, ↓zE, Nat.reduceBEq, Nat.reduceLT]
      refine GdO.no rfl ?_
      simp only [↓sxd, sxu, ↓zE, Nat.reduceBEq, Nat.reduceLT]
      refine GdO.no rfl ?_
      simp only [↓sxd, sxu, ↓zE, Nat.reduceBEq, Nat.reduceLT]
      refine GdO.no rfl ?_
      simp only [↓sxd, sxu, ↓zE, Nat.reduceBEq, Nat.reduceLT]
      refine GdO.no rfl ?_
      simp only [↓sxd, sxu, ↓zE, ↓exq, ↓zH, Nat.reduceBEq, Nat.reduceLT]
      (all_goals try exact zF)) ?_)))
    refine Tr.cond rfl (fun h34 => by cases h34) (fun _ => Tr.skip ?_)
    refine Tr.reg [0, 1, 2, 4, 5, 6, 36] (by
      simp only [↓sxd, sxu, ↓zE, ↓exq, Nat.reduceBEq, Nat.reduceLT]
      (all_goals try exact zF)) ?_
    refine Tr.cond rfl (fun h36 => ?_) (fun h36 => ?_)
    · have h0 : sub = 0 := by simpa using h36
      subst h0
      refine Tr.ret ⟨.inr rfl, .tup [], trivial, .inl ⟨?_, rfl⟩⟩
      rw [← hx']; simp
    · have h0 : sub ≠ 0 := by simpa using h36
      have x1 : IntKind.u64.wrap ((sub : Int) - 1) = ((sub - 1 : Nat) : Int) := by rw [wu (by omega) (by omega)]; omega
      refine Tr.skip (Tr.reg1 [0, 1, 2, 4, 5, 6] (by
        simp only [↓sxd, sxu, ↓zE, ↓exq, Nat.reduceBEq, Nat.reduceLT, x1, and_u (show sub - 1 < 18446744073709551616 by omega) (show restOf s < 18446744073709551616 by omega)]
        (all_goals try exact zF)) ?_)
      have hlt : (sub - 1) &&& restOf s < sub := Nat.lt_of_le_of_lt Nat.and_le_left (by omega)
      refine ⟨_, _, hlt, Imp.keepAll, ⟨gs, (sub - 1) &&& restOf s, ⟨by omega, ?_⟩, rfl, rfl⟩⟩
      rw [← hx', if_neg h0, subs_fuel _ sub _ _ (by omega) hlt]
  | true =>
    rw [ho, if_pos rfl] at hx
    have hx' : (gs ++ [sub ||| lowb s]) ++ (if sub = 0 then [] else ((subsFrom sub ((sub - 1) &&& restOf s) (restOf s)).map (· ||| lowb s)).filter (fun g => one.getD g false)) = groupsL one s := by
      rw [← hx, List.append_assoc]; split <;> rfl
    refine Tr.seq (Tr.block (Tr.seq (Tr.seq (Tr.region ?_))))
    simp only [↓sxd, sxu, ↓zE, ↓exq, ↓zD, ↓zV, ↓zA, Nat.reduceBEq, Nat.reduceLT, Nat.reduceEqDiff, sxe, yR, hW1, hO1, hor, hix, hval, ho]
    (repeat ((with_reducible refine And.intro ?_ ?_); (focus (exact zS))))
    refine GdO.now rfl ?_
    simp only [↓sxd, sxu, ↓zE, ↓exq, Nat.reduceBEq, Nat.reduceLT]
    refine GdO.now rfl ?_
    simp only [↓sxd, sxu, ↓zE, ↓exq, Nat.reduceBEq, Nat.reduceLT]
    refine GdO.now rfl ?_
    simp only [↓sxd, sxu, ↓zE, ↓exq, Nat.reduceBEq, Nat.reduceLT]
    refine GdO.now rfl ?_
    simp only [↓sxd, sxu, ↓zE, ↓exq, Nat.reduceBEq, Nat.reduceLT, hor]
    refine GdO.now rfl ?_
    simp only [↓sxd, sxu, ↓zE, ↓exq, ↓zB, Nat.reduceBEq, Nat.reduceLT]
    refine (hY gs (sub ||| lowb s) _ hx).mono ?_
    rintro r hp' nx' (⟨rfl, rfl, rfl⟩ | ⟨rfl, hstop⟩)
    · try simp only [↓sxd, sxu, ↓zE, ↓zC, zK, ↓exP, ↓exq, ↓zB, ↓zH, ↓zL, ↓zD, ↓zV, ↓zA, Nat.reduceBEq, Nat.reduceAdd, Nat.reduceLT, Nat.reduceMul, Nat.reduceSub, Nat.reduceLeDiff, Nat.reduceEqDiff, Int.reduceLE, Int.reduceLT, Int.reduceToNat, reduceIte, sxe, yR]
      refine GdO.now rfl ?_
      simp only [↓sxd, sxu, ↓zE, ↓exq, ↓zH, ↓zL, Nat.reduceBEq, Nat.reduceLT, Bool.not_true]
      (repeat ((with_reducible refine And.intro ?_ ?_); (focus (exact zS))))
      refine Tr.cond rfl (fun h34 => by cases h34) (fun _ => Tr.skip ?_)
      refine Tr.reg [0, 1, 2, 4, 5, 6, 36] (by
        simp only [↓sxd, sxu, ↓zE, ↓exq, Nat.reduceBEq, Nat.reduceLT]
        (all_goals try exact zF)) ?_
      refine Tr.cond rfl (fun h36 => ?_) (fun h36 => ?_)
      · have h0 : sub = 0 := by simpa using h36
        subst h0
        refine Tr.ret ⟨.inr rfl, .tup [], trivial, .inl ⟨?_, rfl⟩⟩
        rw [← hx']; simp
      · have h0 : sub ≠ 0 := by simpa using h36
        have x1 : IntKind.u64.wrap ((sub : Int) - 1) = ((sub - 1 : Nat) : Int) := by rw [wu (by omega) (by omega)]; omega
        refine Tr.skip (Tr.reg1 [0, 1, 2, 4, 5, 6] (by
          simp only [↓sxd, sxu, ↓zE, ↓exq, Nat.reduceBEq, Nat.reduceLT, x1, and_u (show sub - 1 < 18446744073709551616 by omega) (show restOf s < 18446744073709551616 by omega)]
          (all_goals try exact zF)) ?_)
        have hlt : (sub - 1) &&& restOf s < sub := Nat.lt_of_le_of_lt Nat.and_le_left (by omega)
        refine ⟨_, _, hlt, Imp.keepAll, ⟨gs ++ [sub ||| lowb s], (sub - 1) &&& restOf s, ⟨by omega, ?_⟩, rfl, rfl⟩⟩
        rw [← hx', if_neg h0, subs_fuel _ sub _ _ (by omega) hlt]
    · try simp only [↓sxd, sxu, ↓zE, ↓zC, zK, ↓exP, ↓exq, ↓zB, ↓zH, ↓zL, ↓zD, ↓zV, ↓zA, Nat.reduceBEq, Nat.reduceAdd, Nat.reduceLT, Nat.reduceMul, Nat.reduceSub, Nat.reduceLeDiff, Nat.reduceEqDiff, Int.reduceLE, Int.reduceLT, Int.reduceToNat, reduceIte, sxe, yR]
      refine GdO.now rfl ?_
      simp only [↓sxd, sxu, ↓zE, ↓exq, ↓zH, ↓zL, Nat.reduceBEq, Nat.reduceLT, Bool.not_false]
      (repeat ((with_reducible refine And.intro ?_ ?_); (focus (exact zS))))
      refine Tr.cond rfl (fun _ => Tr.ret ⟨.inr rfl, .tup [], trivial, .inr hstop⟩) (fun h34 => by cases h34)
end Go.Proofs.YtcnkbdfkjhlbiaaDoor
namespace Go.Proofs.YtcnkbdfkjhlbiaaDoor
open Go.Sy
theorem mem_el : ∀ (f i s j : Nat), j ∈ el f i s ↔ i ≤ j ∧ j < i + f ∧ s.testBit (j - i) = true
  | 0, i, s, j => by simp [el]; omega
  | f + 1, i, s, j => by
    have ih := mem_el f (i + 1) (s / 2) j
    have hbit : i + 1 ≤ j → (s / 2).testBit (j - (i + 1)) = s.testBit (j - i) := by
      intro h
      rw [← Nat.testBit_succ]
      congr 1
      omega
    unfold el
    by_cases h0 : s = 0
    · subst h0; simp
    · rw [if_neg h0]
      have hself : s.testBit 0 = decide (s % 2 = 1) := Nat.testBit_zero s
      by_cases h1 : s % 2 = 1
      · rw [if_pos h1, List.mem_cons, ih]
        constructor
        · rintro (rfl | ⟨a, b, c⟩)
          · simp [hself, h1]
          · exact ⟨by omega, by omega, by rw [← hbit a]; exact c⟩
        · rintro ⟨a, b, c⟩
          by_cases hj : j = i
          · exact .inl hj
          · exact .inr ⟨by omega, by omega, by rw [hbit (by omega)]; exact c⟩
      · rw [if_neg h1, ih]
        constructor
        · rintro ⟨a, b, c⟩
          exact ⟨by omega, by omega, by rw [← hbit a]; exact c⟩
        · rintro ⟨a, b, c⟩
          have hj : j ≠ i := by
            intro hc; subst hc
            rw [Nat.sub_self, hself] at c
            simp [h1] at c
          exact ⟨by omega, by omega, by rw [hbit (by omega)]; exact c⟩
theorem mem_elems {s j : Nat} : j ∈ elems s ↔ j < 16 ∧ s.testBit j = true := by
  unfold elems
  rw [mem_el]
  simp
theorem testBit_lt {s j k : Nat} (h : s.testBit j = true) (hs : s < 2 ^ k) : j < k := by
  by_cases hc : j < k
  · exact hc
  · have := Nat.testBit_lt_two_pow (x := s) (i := j) (Nat.lt_of_lt_of_le hs (Nat.pow_le_pow_right (by omega) (by omega)))
    rw [this] at h; cases h
theorem elems_lt {s j k : Nat} (h : j ∈ elems s) (hs : s < 2 ^ k) : j < k := testBit_lt (mem_elems.1 h).2 hs
def unionB (bs : List Nat) (l : List Nat) : Nat := l.foldl (fun a n => a ||| bs.getD n 0) 0
theorem unionB_lt {bs : List Nat} {k : Nat} (hb : ∀ x ∈ bs, x < 2 ^ k) (l : List Nat) : unionB bs l < 2 ^ k := by
  unfold unionB
  have key : ∀ (l : List Nat) (a : Nat), a < 2 ^ k → l.foldl (fun a n => a ||| bs.getD n 0) a < 2 ^ k := by
    intro l
    induction l with
    | nil => intro a h; exact h
    | cons n l ih =>
      intro a h
      refine ih _ (Nat.or_lt_two_pow h ?_)
      by_cases hn : n < bs.length
      · exact hb _ (getD_mem hn)
      · rw [List.getD_eq_getElem?_getD, List.getElem?_eq_none (by omega)]; exact Nat.two_pow_pos k
  exact key l 0 (Nat.two_pow_pos k)
structure BlkOk (n : Nat) (bs : List Nat) : Prop where
  len : bs.length ≤ n
  lt : ∀ x ∈ bs, x < 2 ^ n
  cov : ∀ e, e < n → ∃ x ∈ bs, x.testBit e = true
def blocks0 (n : Nat) : List Nat := (List.range n).map fun i => 2 ^ i
theorem blocks0_ok (n : Nat) : BlkOk n (blocks0 n) where
  len := by simp [blocks0]
  lt x hx := by
    simp only [blocks0, List.mem_map, List.mem_range] at hx
    obtain ⟨i, hi, rfl⟩ := hx
    exact Nat.pow_lt_pow_right (by omega) hi
  cov e he := ⟨2 ^ e, by simp only [blocks0, List.mem_map, List.mem_range]; exact ⟨e, he, rfl⟩, by simp⟩
theorem idx_cov {bs : List Nat} {e : Nat} (h : ∃ x ∈ bs, x.testBit e = true) : ∃ i : Nat, (i : Int) = idxOf (fun (x : Nat) => x.testBit e) bs ∧ i < bs.length ∧ (bs.getD i 0).testBit e = true := by
  unfold idxOf
  cases hf : bs.findIdx? (fun (x : Nat) => x.testBit e) with
  | none =>
    rw [List.findIdx?_eq_none_iff] at hf
    obtain ⟨x, h1, h2⟩ := h
    rw [hf x h1] at h2; cases h2
  | some i =>
    rw [List.findIdx?_eq_some_iff_getElem] at hf
    obtain ⟨h1, h2, _⟩ := hf
    exact ⟨i, rfl, h1, by rw [List.getD_eq_getElem?_getD, List.getElem?_eq_getElem h1]; exact h2⟩
theorem merge_mem {bs : List Nat} {i j : Nat} (hi : i < bs.length) (hj : j < bs.length) (hij : i ≠ j) {v x : Nat} :
    x ∈ (bs.set i v).eraseIdx j ↔ x = v ∨ ∃ k, k < bs.length ∧ k ≠ i ∧ k ≠ j ∧ bs.getD k 0 = x := by
  rw [List.mem_eraseIdx_iff_getElem]
  simp only [List.length_set]
  constructor
  · rintro ⟨k, hk, hkj, he⟩
    by_cases hki : i = k
    · subst hki; rw [List.getElem_set_self] at he; exact .inl he.symm
    · rw [List.getElem_set_ne hki] at he
      exact .inr ⟨k, hk, Ne.symm hki, by omega, by rw [List.getD_eq_getElem?_getD, List.getElem?_eq_getElem hk]; exact he⟩
  · rintro (rfl | ⟨k, hk, h1, h2, he⟩)
    · exact ⟨i, by simpa using hi, by omega, by simp⟩
    · refine ⟨k, by simpa using hk, h2, ?_⟩
      rw [List.getElem_set_ne (Ne.symm h1)]
      rw [List.getD_eq_getElem?_getD, List.getElem?_eq_getElem hk] at he
      exact he
theorem joinB_ok {n : Nat} {bs : List Nat} (h : BlkOk n bs) {p : Pair} (h1 : p.fst.toNat < n) (h2 : p.snd.toNat < n) : BlkOk n (joinB bs p) := by
  unfold joinB
  obtain ⟨i, hi, hil, hit⟩ := idx_cov (h.cov _ h1)
  obtain ⟨j, hj, hjl, hjt⟩ := idx_cov (h.cov _ h2)
  simp only [← hi, ← hj, Int.toNat_natCast]
  by_cases hij : (i : Int) = j
  · rw [if_pos hij]; exact h
  · rw [if_neg hij]
    have hne : i ≠ j := by omega
    have hlti := h.lt _ (getD_mem (d := 0) hil)
    have hltj := h.lt _ (getD_mem (d := 0) hjl)
    refine ⟨?_, fun x hx => ?_, fun e he => ?_⟩
    · rw [List.length_eraseIdx_of_lt (by simpa using hjl), List.length_set]; have := h.len; omega
    · rcases (merge_mem hil hjl hne).1 hx with rfl | ⟨k, hk, _, _, rfl⟩
      · exact Nat.or_lt_two_pow hlti hltj
      · exact h.lt _ (getD_mem hk)
    · obtain ⟨x, hx, hxe⟩ := h.cov e he
      obtain ⟨k, hk, rfl⟩ := List.getElem_of_mem hx
      have hg : bs.getD k 0 = bs[k] := by rw [List.getD_eq_getElem?_getD, List.getElem?_eq_getElem hk]; rfl
      by_cases h3 : k = i ∨ k = j
      · refine ⟨_, (merge_mem hil hjl hne).2 (.inl rfl), ?_⟩
        rw [Nat.testBit_or]
        rcases h3 with rfl | rfl
        · rw [hg, hxe]; rfl
        · rw [hg, hxe]; simp
      · exact ⟨bs[k], (merge_mem hil hjl hne).2 (.inr ⟨k, hk, by omega, by omega, hg⟩), hxe⟩
end Go.Proofs.YtcnkbdfkjhlbiaaDoor
