/- It is proved that the tied card of SheetPersons holds: at every input the law returns true and its argument reads behind the call as before. Conditions: none. -/
import Derived.Test.YtcnkbdfkjhlbiaaDoorXPBB
import Derived.Test.YtcnkbdfkjhlbiaaDoorCards
import Derived.Test.YtcnkbdfkjhlbiaaDoorTie
set_option linter.unusedVariables false
namespace Go.Proofs.YtcnkbdfkjhlbiaaDoor
open Go.Sy
set_option maxRecDepth 8000
theorem nats_getD {l : List (List Nat)} {i : Nat} (h : i < l.length) : (l.map nats).getD i [] = nats (l.getD i []) := by
  simp [List.getD_eq_getElem?_getD, h]
theorem getD_memL {l : List (List Nat)} {i : Nat} (h : i < l.length) : l.getD i [] ∈ l := getD_mem h
theorem few_len {c : Census} (h : c.few = true) : c.thin = true := by
  unfold Census.few at h
  rw [Bool.and_eq_true] at h
  exact h.1
theorem small_thin {c : Census} (h : c.thin = true) : c.small := by
  obtain ⟨h1, h2, h3⟩ := thin_len h
  exact ⟨by omega, by omega, by omega⟩
theorem perFold_take {l : List (List Nat)} {i : Nat} (h : i < l.length) : perFold (l.take (i + 1)) = spanStep (perFold (l.take i)) (many (l.getD i [])) := by
  unfold perFold
  rw [List.take_succ_eq_append_getElem h, List.foldl_append]
  simp [List.getD_eq_getElem?_getD, h]
theorem omFold_take {c : Census} {l : List (List Nat)} {i : Nat} (h : i < l.length) : c.omFold (l.take (i + 1)) = (List.range c.omTo).foldl (c.omStep (many (l.getD i []))) (c.omFold (l.take i)) := by
  unfold Census.omFold
  rw [List.take_succ_eq_append_getElem h, List.foldl_append]
  simp [List.getD_eq_getElem?_getD, h]
theorem omStep_to {c : Census} {m : Int} {o : Rng} {n : Nat} : (List.range (n + 1)).foldl (c.omStep m) o = c.omStep m ((List.range n).foldl (c.omStep m) o) n := by
  rw [List.range_succ, List.foldl_append]; rfl
abbrev z6 := And.intro ty.sz0 <| And.intro ty.agg0 <| And.intro ty.elem0 <| And.intro ty.sz3 <| And.intro ty.agg3 <| And.intro ty.elem3 <| And.intro ty.zero3 <| And.intro ty.und3 <| And.intro ty.sz4 <| And.intro ty.agg4 <| And.intro ty.elem4 <| And.intro ty.zero4 <| And.intro ty.und4 <| And.intro ty.sz25 <| And.intro ty.agg25 <| And.intro ty.fld25_0 <| And.intro ty.fld25_1 <| And.intro ty.elem25 <| And.intro ty.zero25 <| And.intro ty.pl25 <| And.intro ty.sz27 <| And.intro ty.agg27 <| And.intro ty.fld27_0 <| And.intro ty.fld27_1 <| And.intro ty.fld27_2 <| And.intro ty.fld27_3 <| And.intro ty.fld27_4 <| And.intro ty.elem27 <| And.intro ty.zero27 <| And.intro ty.pl27 <| And.intro ty.sz30 <| And.intro ty.agg30 <| And.intro ty.fld30_0 <| And.intro ty.fld30_1 <| And.intro ty.elem30 <| And.intro ty.zero30 <| And.intro ty.pl30 <| And.intro ty.sz31 <| And.intro ty.agg31 <| And.intro ty.elem31 <| And.intro ty.zero31 <| And.intro ty.und31 <| And.intro ty.sz32 <| And.intro ty.agg32 <| And.intro ty.elem32 <| And.intro ty.sz37 <| And.intro ty.agg37 <| And.intro ty.fld37_0 <| And.intro ty.fld37_1 <| And.intro ty.fld37_2 <| And.intro ty.fld37_3 <| And.intro ty.fld37_4 <| And.intro ty.elem37 <| And.intro ty.zero37 <| And.intro ty.pl37 <| And.intro ty.sz39 <| And.intro ty.agg39 <| And.intro ty.elem39 <| And.intro ty.by39 <| And.intro ty.ez39 <| And.intro ty.zero39 <| And.intro ty.und39 <| And.intro ty.sz40 <| And.intro ty.agg40 <| And.intro ty.elem40 <| And.intro ty.sz43 <| And.intro ty.agg43 <| And.intro ty.elem43 <| And.intro ty.by43 <| And.intro ty.ez43 <| And.intro ty.zero43 <| ty.und43
set_option maxHeartbeats 4000000 in
theorem SheetPersons_c (c : Census) : CallP Tryd.prog G0 3 [c.s] (B true) := by
  refine CallP.body 115 [.tmp 2] Tryd.func3 (by kernel_rfl) rfl rfl rfl zP zP ?_
  refine Tr.reg [1] (by
      simp only [↓sxd, sxu, ↓zE, ↓exq, ↓zI, Nat.reduceBEq, Nat.reduceAdd, Nat.reduceLT, Nat.reduceEqDiff]
      (all_goals try exact zF)) ?_
  refine Tr.seq ?_
  refine Tr.reg [1, 15] (by
      simp only [↓sxd, sxu, ↓zE, ↓exq, ↓zD, Nat.reduceAdd, Nat.reduceLT, z6]
      (repeat ((with_reducible refine And.intro ?_ ?_); (focus (exact zS))))
      refine CallO.use (Few_c c) ?_
      try simp only [↓sxd, sxu, ↓zE, ↓exq, ↓zL, Nat.reduceBEq, Nat.reduceLT]
      (all_goals try exact zF)) ?_
  refine Tr.cond rfl (fun h15 => ?_) (fun h15 => ?_)
  · refine Tr.reg [2] (by
        simp only [↓sxd, sxu, ↓zE, Nat.reduceLT]
        (repeat ((with_reducible refine And.intro ?_ ?_); (focus (exact zS))))
        refine CallO.use (awake_c) ?_
        try simp only [↓sxd, sxu, ↓zE, ↓exq, Nat.reduceLT]
        (all_goals try exact zF)) ?_
    refine Tr.ret ?_
    (refine ⟨.inr rfl, ?_⟩; first | rfl | exact ⟨rfl, rfl, trivial⟩ | exact ⟨rfl, rfl, rfl, trivial⟩ | (simp only [Res, ResL, ResOK, ↓sxd, sxu, ↓zE, ↓zC, zK, ↓exP, ↓exq, ↓zB, ↓zH, ↓zL, ↓zJ, ↓zD, ↓zN, ↓zM, ↓zI, ↓zO, ↓zA, Nat.reduceBEq, Nat.reduceAdd, Nat.reduceLT, Nat.reduceMul, Nat.reduceSub, Nat.reduceLeDiff, Nat.reduceEqDiff, Int.reduceLE, Int.reduceLT, Int.reduceToNat, reduceIte, sxe, z6]; (repeat' (first | rfl | exact trivial | exact fun h => h | exact fun h => (by rw [h]; rfl) | apply And.intro | omega | exact Nat.le_of_ble_eq_true rfl))))
  · have hfew : c.few = true := by simpa using h15
    have hth := few_len hfew
    have hsm := small_thin hth
    obtain ⟨t1, t2, t3⟩ := thin_len hth
    have hP := Persons_c c hsm Census.readable
    have hV := valid_c c (by omega) (by omega) (by omega) true
    have hdue := due_eq c true
    have hps : c.personsS = if c.tried true = 0 then ((readW c).persons, c.omitted.cut (wr64 (c.number.lo - (readW c).persons.hi)) (wr64 (c.number.hi - (readW c).persons.lo)), 0) else (⟨0, 0⟩, ⟨0, 0⟩, c.tried true) := rfl
    generalize hps2 : c.personsS = R at hP hps
    obtain ⟨P, O, e⟩ := R
    simp only at hP
    refine Tr.skip ?_
    refine Tr.reg [1, 3, 4, 5] (by
        simp only [↓sxd, sxu, ↓zE, ↓exq, ↓zD, Nat.reduceAdd, Nat.reduceLT, z6]
        (repeat ((with_reducible refine And.intro ?_ ?_); (focus (exact zS))))
        refine CallO.use (lCensus_c c hsm) ?_
        try simp only [↓sxd, sxu, ↓zE, Nat.reduceLT]
        (repeat ((with_reducible refine And.intro ?_ ?_); (focus (exact zS))))
        refine CallO.use (hP) ?_
        try simp only [↓sxd, sxu, ↓zE, ↓exq, ↓zN, ↓zM, Nat.reduceBEq, Nat.reduceAdd, Nat.reduceLT, Nat.reduceEqDiff, z6]
        (all_goals try exact zF)) ?_
    refine Tr.reg [1, 3, 4, 5, 6, 7] (by
        simp only [↓sxd, sxu, ↓zE, ↓exq, ↓zD, Nat.reduceBEq, Nat.reduceAdd, Nat.reduceLT, z6]
        (repeat ((with_reducible refine And.intro ?_ ?_); (focus (exact zS))))
        refine CallO.use (hV) ?_
        try simp only [↓sxd, sxu, ↓zE, ↓exq, ↓zN, Nat.reduceBEq, Nat.reduceAdd, Nat.reduceLT]
        (all_goals try exact zF)) ?_
    refine Tr.seq ?_
    refine Tr.reg [1, 3, 4, 5, 6, 7, 30] (by
        simp only [↓sxd, sxu, ↓zE, ↓exq, Nat.reduceBEq, Nat.reduceLT]
        (all_goals try exact zF)) ?_
    refine Tr.cond rfl (fun h30 => ?_) (fun h30 => ?_)
    · have hd : c.due true ≠ 0 := by simpa using h30
      rw [if_neg (by rw [hdue]; exact hd)] at hps
      simp only [Prod.mk.injEq] at hps
      obtain ⟨rfl, rfl, rfl⟩ := hps
      rw [hdue]
      refine Tr.reg [2] (by
          simp only [↓sxd, sxu, ↓zE, ↓exq, Nat.reduceBEq, Nat.reduceLT]
          iterate 6
            (repeat ((with_reducible refine And.intro ?_ ?_); (focus (exact zS))))
            refine GdO.mk _ (fun hg => by simp only [↓sxd, sxu, ↓exq, ↓zD, ↓zO, Nat.reduceBEq, Nat.reduceAdd, Nat.reduceLT, z6, eqAgg30, svInts, exists_and_left]; (all_goals try exact zF)) ?_
            simp only [↓sxd, sxu, ↓zE, ↓exq, ↓zH, Nat.reduceBEq, Nat.reduceLT]
          (repeat ((with_reducible refine And.intro ?_ ?_); (focus (exact zS))))
          refine GdO.mk _ (fun hg => by simp only [sxu, ↓exq, ↓zB]; (repeat ((with_reducible refine And.intro ?_ ?_); (focus (exact zS)))); exact CallP.use (awake_c) ⟨rfl, rfl, rfl⟩) ?_
          simp only [↓sxd, sxu, ↓zE, ↓exq, ↓zH, Nat.reduceBEq, Nat.reduceLT]
          (all_goals try exact zF)) ?_
      refine Tr.ret ?_
      (refine ⟨.inr rfl, ?_⟩; first | rfl | exact ⟨rfl, rfl, trivial⟩ | exact ⟨rfl, rfl, rfl, trivial⟩ | (simp only [Res, ResL, ResOK, ↓sxd, sxu, ↓zE, ↓zC, zK, ↓exP, ↓exq, ↓zB, ↓zH, ↓zL, ↓zJ, ↓zD, ↓zN, ↓zM, ↓zI, ↓zO, ↓zA, Nat.reduceBEq, Nat.reduceAdd, Nat.reduceLT, Nat.reduceMul, Nat.reduceSub, Nat.reduceLeDiff, Nat.reduceEqDiff, Int.reduceLE, Int.reduceLT, Int.reduceToNat, reduceIte, sxe, z6]; (repeat' (first | rfl | exact trivial | exact fun h => h | exact fun h => (by rw [h]; rfl) | apply And.intro | omega | exact Nat.le_of_ble_eq_true rfl))))
    · have hd : c.due true = 0 := by simpa using h30
      rw [if_pos (by rw [hdue]; exact hd)] at hps
      simp only [Prod.mk.injEq] at hps
      obtain ⟨hPe, hOe, rfl⟩ := hps
      obtain ⟨hf, hcc, hne⟩ := due_zero hd
      have hcons : c.cons = true := (tried_iff.1 (by rw [hdue]; exact hd)).2.2
      obtain ⟨hl1, hl2⟩ := persons_law hf hcons
      have hvl : c.validL true = c.all := if_pos hd
      rw [hvl]
      have o1 := hf.om
      have o2 := hf.nu
      have hpl := pers_lo hf.pairs hf.n10
      have hP2 : P = perFold c.all := by rw [hl1, hPe]
      have hO2 : O = c.omFold c.all := by
        rw [hl2, hOe]
        have hcl := cons_lo hcons
        have e1 : wr64 (c.number.lo - (readW c).persons.hi) = c.number.lo - (pers c).hi := wr_id (by show _ ≤ c.number.lo - (pers c).hi; have := hf.n10; omega) (by show c.number.lo - (pers c).hi < _; omega)
        have e2 : wr64 (c.number.hi - (readW c).persons.lo) = c.number.hi - (pers c).lo := wr_id (by show _ ≤ c.number.hi - (pers c).lo; have := hf.n10; omega) (by show c.number.hi - (pers c).lo < _; omega)
        rw [e1, e2]
      have hmem : ∀ v ∈ c.all, Rgs v ∧ v.length = c.entries.length := fun v hv => by
        have := (mem_all hf.lims).1 hv
        exact ⟨this.2.1, this.1⟩
      have hal : c.all.length ≤ 3628800 := by
        have h1 := (allFrom_len c c.entries.length [] .nil).1
        have h2 : cap c.entries.length 0 ≤ 3628800 := cap_le (by have := hf.n10; omega)
        exact Nat.le_trans h1 h2
      generalize c.all = L at hP2 hO2 hmem hal
      refine Tr.skip ?_
      refine Tr.reg [1, 3, 4, 5, 6, 8, 9] (by
          simp only [↓sxd, sxu, ↓zE, ↓exq, ↓zM, ↓zO, Nat.reduceBEq, Nat.reduceAdd, Nat.reduceLT, Nat.reduceLeDiff, Nat.reduceEqDiff, z6]
          (all_goals try exact zF)) ?_
      refine Tr.seq ?_
      refine Tr.reg [1, 3, 4, 5, 6, 8, 9, 10] (by
          simp only [↓sxd, sxu, ↓zE, ↓exq, Nat.reduceBEq, Nat.reduceLT]
          (all_goals try exact zF)) ?_
      refine Tr.imp (st' := ⟨[(1, .ptr 0 0 0), (3, .ptr 1 0 0), (4, .ptr 2 0 0), (5, I 0), (6, SL (L.map nats)), (8, .ptr 3 0 0), (9, .ptr 4 0 0), (10, I 0)], [(4, .arr 2 [[I (c.omFold (L.take 0)).lo, I (c.omFold (L.take 0)).hi]]), (3, .arr 2 [[I (perFold (L.take 0)).lo, I (perFold (L.take 0)).hi]]), (2, .arr 2 [[I O.lo, I O.hi]]), (1, .arr 2 [[I P.lo, I P.hi]]), (0, .arr 7 [[SE c.entries, SP c.same, SP c.apart, I c.omitted.lo, I c.omitted.hi, I c.number.lo, I c.number.hi]])], 5, 115, [], 0⟩) (Imp.keepAll) (Tr.block (Tr.loopI (fun mm ss => ∃ (i : Nat), (i ≤ L.length) ∧ L.length - i = mm ∧ ss = ⟨[(1, .ptr 0 0 0), (3, .ptr 1 0 0), (4, .ptr 2 0 0), (5, I 0), (6, SL (L.map nats)), (8, .ptr 3 0 0), (9, .ptr 4 0 0), (10, I i)], [(4, .arr 2 [[I (c.omFold (L.take i)).lo, I (c.omFold (L.take i)).hi]]), (3, .arr 2 [[I (perFold (L.take i)).lo, I (perFold (L.take i)).hi]]), (2, .arr 2 [[I O.lo, I O.hi]]), (1, .arr 2 [[I P.lo, I P.hi]]), (0, .arr 7 [[SE c.entries, SP c.same, SP c.apart, I c.omitted.lo, I c.omitted.hi, I c.number.lo, I c.number.hi]])], 5, 115, [], 0⟩) _ ⟨0, ?_, rfl, rfl⟩ ?_))
      · (repeat' (first | rfl | exact trivial | exact fun h => h | exact fun h => (by rw [h]; rfl) | apply And.intro | omega | exact Nat.le_of_ble_eq_true rfl))
      rintro mm ss ⟨i, hI, rfl, rfl⟩
      refine Tr.seq ?_
      refine Tr.reg [1, 3, 4, 5, 6, 8, 9, 10, 52] (by
          simp only [↓sxd, sxu, ↓zE, ↓exq, ↓zB, ↓zJ, Nat.reduceBEq, Nat.reduceLT, sxe, z6]
          (all_goals try exact zF)) ?_
      refine Tr.cond rfl (fun h52 => ?_) (fun h52 => ?_)
      · have hlt : i < L.length := by simp at h52; omega
        have hlm : i < (L.map nats).length := by rw [List.length_map]; exact hlt
        obtain ⟨hrg, hvn⟩ := hmem _ (getD_memL hlt)
        have hvs := hrg.small (by have := hf.n10; omega)
        have hml := hrg.many_len
        have hpt := perFold_take hlt
        have hot := omFold_take (c := c) hlt
        generalize hv : L.getD i [] = v at hrg hvn hvs hml hpt hot
        generalize hm : many v = m at hml hpt hot
        generalize perFold (L.take i) = r at hpt
        generalize c.omFold (L.take i) = o at hot
        refine Tr.skip ?_
        refine Tr.seq ?_
        refine Tr.block ?_
        refine Tr.reg [1, 3, 4, 5, 6, 8, 9, 10, 11] (by
            simp only [↓sxd, sxu, ↓zE, ↓exq, ↓zD, Nat.reduceBEq, Nat.reduceLT, sxe, z6, hlt, nats_getD hlt, hv]
            (repeat ((with_reducible refine And.intro ?_ ?_); (focus (exact zS))))
            refine CallO.use (Many_c v (by have := hf.n10; omega) hvs) ?_
            try simp only [↓sxd, sxu, ↓zE, ↓exq, Nat.reduceBEq, Nat.reduceLT, hm]
            (all_goals try exact zF)) ?_
        refine Tr.reg [1, 3, 4, 5, 6, 8, 9, 10, 11] (by
            simp only [↓sxd, sxu, ↓zE, ↓exq, ↓zB, ↓zD, ↓zO, ↓zA, Nat.reduceBEq, Nat.reduceAdd, Nat.reduceLT, Nat.reduceLeDiff, Nat.reduceEqDiff, z6]
            (all_goals try exact zF)) ?_
        refine Tr.reg [1, 3, 4, 5, 6, 8, 9, 10, 11, 12] (by
            simp only [↓sxd, sxu, ↓zE, ↓exq, ↓zD, ↓zA, Nat.reduceBEq, Nat.reduceAdd, Nat.reduceLT, Nat.reduceEqDiff, z6]
            (all_goals try exact zF)) ?_
        refine Tr.imp (st' := ⟨[(1, .ptr 0 0 0), (3, .ptr 1 0 0), (4, .ptr 2 0 0), (5, I 0), (6, SL (L.map nats)), (8, .ptr 3 0 0), (9, .ptr 4 0 0), (10, I i), (11, I m), (12, I (c.omitted.lo + 0))], [(4, .arr 2 [[I o.lo, I o.hi]]), (3, .arr 2 [[I (spanStep r m).lo, I (spanStep r m).hi]]), (2, .arr 2 [[I O.lo, I O.hi]]), (1, .arr 2 [[I P.lo, I P.hi]]), (0, .arr 7 [[SE c.entries, SP c.same, SP c.apart, I c.omitted.lo, I c.omitted.hi, I c.number.lo, I c.number.hi]])], 5, 115, [], 0⟩) (by rw [Int.add_zero]; exact Imp.keepAll) (Tr.block (Tr.loopI (fun mm ss => ∃ (n : Nat) (q : Rng), (n ≤ c.omTo ∧ q = (List.range n).foldl (c.omStep m) o) ∧ c.omTo - n = mm ∧ ss = ⟨[(1, .ptr 0 0 0), (3, .ptr 1 0 0), (4, .ptr 2 0 0), (5, I 0), (6, SL (L.map nats)), (8, .ptr 3 0 0), (9, .ptr 4 0 0), (10, I i), (11, I m), (12, I (c.omitted.lo + n))], [(4, .arr 2 [[I q.lo, I q.hi]]), (3, .arr 2 [[I (spanStep r m).lo, I (spanStep r m).hi]]), (2, .arr 2 [[I O.lo, I O.hi]]), (1, .arr 2 [[I P.lo, I P.hi]]), (0, .arr 7 [[SE c.entries, SP c.same, SP c.apart, I c.omitted.lo, I c.omitted.hi, I c.number.lo, I c.number.hi]])], 5, 115, [], 0⟩) _ ⟨0, o, ?_, rfl, rfl⟩ ?_))
        · exact ⟨Nat.zero_le _, rfl⟩
        rintro mm ss ⟨n, q, hI, rfl, rfl⟩
        obtain ⟨hn, hq⟩ := hI
        refine Tr.seq ?_
        refine Tr.reg [1, 3, 4, 5, 6, 8, 9, 10, 11, 12, 76] (by
            simp only [↓sxd, sxu, ↓zE, ↓exq, ↓zD, ↓zA, Nat.reduceBEq, Nat.reduceAdd, Nat.reduceLT, Nat.reduceEqDiff, z6]
            (all_goals try exact zF)) ?_
        refine Tr.cond rfl (fun h76 => ?_) (fun h76 => ?_)
        · have hno : n < c.omTo := by unfold Census.omTo; simp at h76; omega
          have hst := omStep_to (c := c) (m := m) (o := o) (n := n)
          rw [← hq] at hst
          refine Tr.skip ?_
          refine Tr.seq ?_
          refine Tr.block ?_
          have w2 : IntKind.i64.wrap ((m : Int) + (c.omitted.lo + (n : Int))) = (m : Int) + (c.omitted.lo + (n : Int)) := wr (by omega) (by unfold Census.omTo at hno; omega)
          refine Tr.reg [1, 3, 4, 5, 6, 8, 9, 10, 11, 12, 88] (by
              simp only [↓sxd, sxu, ↓zE, ↓exq, ↓zD, ↓zA, Nat.reduceBEq, Nat.reduceAdd, Nat.reduceLT, Nat.reduceEqDiff, z6, w2]
              (repeat ((with_reducible refine And.intro ?_ ?_); (focus (exact zS))))
              refine CallO.use (In_c _ _ _ _) ?_
              try simp only [↓sxd, sxu, Nat.reduceBEq]
              (all_goals try exact zF)) ?_
          refine Tr.cond rfl (fun h88 => ?_) (fun h88 => ?_)
          · have hs : c.omStep m q n = spanStep q (c.omitted.lo + n) := by
              unfold Census.omStep; rw [if_pos]; unfold within; simpa using h88
            refine Tr.reg1 [1, 3, 4, 5, 6, 8, 9, 10, 11, 12] (by
                simp only [↓sxd, sxu, ↓zE, ↓exq, ↓zB, ↓zD, ↓zO, ↓zA, Nat.reduceBEq, Nat.reduceAdd, Nat.reduceLT, Nat.reduceLeDiff, Nat.reduceEqDiff, z6]
                (all_goals try exact zF)) ?_
            have w1 : IntKind.i64.wrap (c.omitted.lo + (n : Int) + 1) = c.omitted.lo + ((n + 1 : Nat) : Int) := by rw [wr (by omega) (by unfold Census.omTo at hno; omega)]; omega
            refine Tr.reg1 [1, 3, 4, 5, 6, 8, 9, 10, 11, 12] (by
                simp only [↓sxd, sxu, ↓zE, ↓exq, Nat.reduceBEq, Nat.reduceLT, w1]
                (all_goals try exact zF)) ?_
            refine ⟨_, _, ?_, ?_, ⟨n + 1, c.omStep m q n, ⟨hno, hst.symm⟩, rfl, rfl⟩⟩
            · omega
            · rw [hs]; exact Imp.keepAll
          · have hs : c.omStep m q n = q := by
              unfold Census.omStep; rw [if_neg]; unfold within; simpa using h88
            refine Tr.skip ?_
            have w1 : IntKind.i64.wrap (c.omitted.lo + (n : Int) + 1) = c.omitted.lo + ((n + 1 : Nat) : Int) := by rw [wr (by omega) (by unfold Census.omTo at hno; omega)]; omega
            refine Tr.reg1 [1, 3, 4, 5, 6, 8, 9, 10, 11, 12] (by
                simp only [↓sxd, sxu, ↓zE, ↓exq, Nat.reduceBEq, Nat.reduceLT, w1]
                (all_goals try exact zF)) ?_
            refine ⟨_, _, ?_, ?_, ⟨n + 1, c.omStep m q n, ⟨hno, hst.symm⟩, rfl, rfl⟩⟩
            · omega
            · rw [hs]; exact Imp.keepAll
        · have hno : n = c.omTo := by
            unfold Census.omTo at hn ⊢
            simp at h76; omega
          subst hno
          refine Tr.exit ?_
          have w1 : IntKind.i64.wrap ((i : Int) + 1) = ((i + 1 : Nat) : Int) := by rw [wr (by omega) (by omega)]; rfl
          refine Tr.reg1 [1, 3, 4, 5, 6, 8, 9, 10] (by
              simp only [↓sxd, sxu, ↓zE, ↓exq, Nat.reduceBEq, Nat.reduceLT, w1]
              (all_goals try exact zF)) ?_
          refine ⟨_, _, ?_, ?_, ⟨i + 1, hlt, rfl, rfl⟩⟩
          · omega
          · rw [hpt, hot, ← hq]; exact Imp.keepAll
      · have hge : i = L.length := by simp at h52; omega
        subst hge
        rw [List.take_length, ← hP2, ← hO2]
        refine Tr.exit ?_
        refine Tr.regD [0, 1, 2, 3, 4, 5, 6, 7, 8, 9, 10, 11, 12, 13, 14, 15, 16, 17] [] [] [2] mix (by kernel_rfl) (by
            simp only [↓sxd, sxu, ↓zC, zK, ↓exq, Nat.reduceBEq, Nat.reduceLT]
            iterate 2
              (repeat ((with_reducible refine And.intro ?_ ?_); (focus (exact zS))))
              refine GdD.mk _ (fun hg => by simp only [sxu, ↓exP, ↓exq, ↓zD, Nat.reduceBEq, Nat.reduceAdd, Nat.reduceLT, z6]; (all_goals try exact zF)) ?_
              simp only [↓sxd, sxu, ↓zC, zK, Nat.reduceBEq, Nat.reduceLT]
            (repeat ((with_reducible refine And.intro ?_ ?_); (focus (exact zS))))
            refine GdD.mk _ (fun hg => by simp only [sxu, ↓exP]; first | exact to_c _ P | exact ⟨to_c _ P, rfl, rfl⟩ | exact ⟨to_c _ P, trivial⟩ | exact ⟨to_c _ P, trivial, trivial⟩) ?_
            simp only [↓sxd, sxu, ↓zC, zK, Nat.reduceBEq, Nat.reduceLT]
            iterate 3
              (repeat ((with_reducible refine And.intro ?_ ?_); (focus (exact zS))))
              refine GdD.mk _ (fun hg => by simp only [↓sxd, sxu, ↓exP, ↓exq, ↓zD, Nat.reduceBEq, Nat.reduceAdd, Nat.reduceLT, z6, eqAgg30, svInts, exists_and_left]; (all_goals try exact zF)) ?_
              simp only [↓sxd, sxu, ↓zC, zK, ↓exq, ↓zH, Nat.reduceBEq, Nat.reduceLT]
            (repeat ((with_reducible refine And.intro ?_ ?_); (focus (exact zS))))
            refine GdD.mk _ (fun hg => by simp only [sxu, ↓exP]; first | exact to_c _ O | exact ⟨to_c _ O, rfl, rfl⟩ | exact ⟨to_c _ O, trivial⟩ | exact ⟨to_c _ O, trivial, trivial⟩) ?_
            simp only [↓sxd, sxu, ↓zC, zK, Nat.reduceBEq, Nat.reduceLT]
            (repeat ((with_reducible refine And.intro ?_ ?_); (focus (exact zS))))
            refine GdD.mk _ (fun hg => by simp only [↓sxd, sxu, ↓exP, ↓exq, Nat.reduceBEq, Nat.reduceAdd, eqAgg30, svInts, exists_and_left]; (all_goals try exact zF)) ?_
            simp only [↓sxd, sxu, ↓zC, zK, ↓exq, ↓zH, Nat.reduceBEq, Nat.reduceLT]
            (repeat ((with_reducible refine And.intro ?_ ?_); (focus (exact zS))))
            refine GdD.mk _ (fun hg => by simp only [sxu, ↓exP]; first | exact awake_c | exact ⟨awake_c, rfl, rfl⟩ | exact ⟨awake_c, trivial⟩ | exact ⟨awake_c, trivial, trivial⟩) ?_
            simp only [↓sxd, sxu, ↓zC, zK, ↓exq, ↓zH, Nat.reduceBEq, Nat.reduceLT]
            (all_goals try exact zF)) ?_
        refine Tr.ret ?_
        (refine ⟨.inr rfl, ?_⟩; first | rfl | exact ⟨rfl, rfl, trivial⟩ | exact ⟨rfl, rfl, rfl, trivial⟩ | (simp only [Res, ResL, ResOK, ↓sxd, sxu, ↓zE, ↓zC, zK, ↓exP, ↓exq, ↓zB, ↓zH, ↓zL, ↓zJ, ↓zD, ↓zN, ↓zM, ↓zI, ↓zO, ↓zA, Nat.reduceBEq, Nat.reduceAdd, Nat.reduceLT, Nat.reduceMul, Nat.reduceSub, Nat.reduceLeDiff, Nat.reduceEqDiff, Int.reduceLE, Int.reduceLT, Int.reduceToNat, reduceIte, sxe, z6]; (repeat' (first | rfl | exact trivial | exact fun h => h | exact fun h => (by rw [h]; rfl) | apply And.intro | omega | exact Nat.le_of_ble_eq_true rfl))))
end Go.Proofs.YtcnkbdfkjhlbiaaDoor
namespace Go.Proofs.YtcnkbdfkjhlbiaaDoor
open Go.Sy Go.Deep Go.ChangeShapes Go.WideShapes Go.ChangeAt Go.WideElems Go.RowKit
theorem pars27 : Tryd.prog.readableRec 27 = true ∧ 27 < Tryd.prog.types.size := ⟨by kernel_rfl, of_decide_eq_true (by kernel_rfl)⟩
set_option maxRecDepth 100000 in
theorem persons_lifted (os : Os) (started : os.Started) (H : Type) (enc : TypeId × Value → H) :
    ReturnsInHanded {} Tryd.checked os 3 .any (fun w args => (Rows.sheetPersonsSpec.pre enc Tryd.prog Tryd.f3 [] false w args ∧ laidMetH Tryd.prog laid2 w) ∧ sizedMet enc Tryd.prog Tryd.f3 (OpenSpec.ofChange Rows.sheetPersonsSpec) false w args)
      (Rows.sheetPersonsSpec.post enc Tryd.prog Tryd.f3 false true false false) := by
  refine returnsInHanded_of_change_and (C := Tryd.checked) (X := fun w _ => laidMetH Tryd.prog laid2 w) (fun _ _ _ hh h => h.of_heap hh) Tryd.ownK started (by kernel_rfl) Tryd.func3
    (ChangeSpec.witness_shaped (enc := enc) (C := Tryd.checked) (os := os) (X := fun w _ => laidMetH Tryd.prog laid2 w) false (World.doorLaid Tryd.prog 4000 os) #[.agg #[.slice none 0 0, .slice none 0 0, .slice none 0 0, .int .i64 0, .int .i64 0, .int .i64 0, .int .i64 0]] 8 rfl (World.shaped_of_RefB (by kernel_rfl) (by kernel_rfl)) (by kernel_rfl) (by kernel_rfl) (by kernel_rfl) (door_met os _)) ?_
  intro W base args ds gs before _ hW _ _ hL _
  have hW' := hW
  obtain ⟨p, q, hA0, hV, _, _, _⟩ := hW
  have hA : DataW.TrodAll enc Tryd.prog W 0 (fun _ => true) true Tryd.f3.params.toList args.toList ds p := hA0
  rw [Tryd.params3] at hA
  obtain ⟨v0, d0, rfl, rfl, fuel, h0⟩ := trodAll_one hA
  obtain ⟨c, hc⟩ : ∃ c : Census, SR (fun _ => none) (fun B => ¬ False) W c.s v0 := by
    obtain ⟨c, _, h1⟩ := rd27 _ _ _ h0
    exact ⟨c, agg_of (by show (7 : Nat) ≠ 1; decide) h1⟩
  have := (SheetPersons_c c).2 (fun _ => False) (fun _ => none) W #[v0] (fun _ h => h.elim) (of_laid hL ⟨id, id⟩) rfl (fun i hi => by
    obtain rfl : i = 0 := by simp at hi; omega
    exact hc)
  refine (callsIn_wide.1 this).mono fun e W' ⟨v, he, hv, ha⟩ => ?_
  have hv1 : v = .bool true := by cases hv with | d _ _ h => cases h; rfl
  subst hv1
  exact ⟨_, he, post_true rfl (by kernel_rfl) (by rw [Tryd.params3]; intro t ht; obtain rfl := List.mem_singleton.1 ht; exact pars27) hW' rfl ha⟩
theorem sheetPersons_holds : Rows.SheetPersonsSaid :=
  OpenClaim.holds_of_wide 3 Tryd.f3 rfl rfl rfl rfl rfl rfl rfl ⟨rfl, rfl, rfl, rfl, rfl⟩ rfl rfl rfl rfl rfl (by kernel_rfl) Tryd.func3 (by kernel_rfl)
    (of_decide_eq_true (by kernel_rfl)) (by unfold Func.isWrapper; first | (rw [if_pos (by decide +kernel)]; kernel_rfl) | (rw [if_neg (by decide +kernel)]; exact ⟨rfl, rfl⟩))
    (fun os started H enc _ => persons_lifted os started H enc)
theorem sheetPersonsCard_holds : Rows.SheetPersonsCardSaid :=
  Claim7.holds_tied_plain_at .later [] [.data, .data] true (true, "848ff9a12d0f395eb2d927cb6210c0b99462ff90fb257da722d663d696160e83") false
    sheetPersons_holds (fun _ h => by cases h) (by kernel_rfl) (fun _ h => by cases h) sheetPersons_row_tie rfl ⟨rfl, rfl⟩ (by kernel_rfl) rfl
    (fun f fn hf hfn => by
      obtain rfl : f = 3 := Option.some.inj ((show Tryd.prog.funcNamed "tithing/tithinglaw02.SheetPersons" = some 3 by kernel_rfl).symm.trans hf) |>.symm
      obtain rfl : fn = Tryd.f3 := (Option.some.inj (Tryd.func3.symm.trans hfn)).symm
      exact ⟨by kernel_rfl, fun j t ht => by
        rw [Tryd.params3] at ht
        have h3 : t = 27 := by
          rcases j with _ | j
          · simpa using ht.symm
          · simp at ht
        subst h3
        exact (show Tryd.prog.wantsStandIn 27 = false by kernel_rfl)⟩)
    (by kernel_rfl)
#print axioms sheetPersonsCard_holds
end Go.Proofs.YtcnkbdfkjhlbiaaDoor
