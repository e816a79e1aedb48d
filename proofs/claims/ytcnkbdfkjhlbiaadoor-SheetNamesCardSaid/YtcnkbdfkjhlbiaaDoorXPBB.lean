/- Lemmas, part XPBB. Conditions: none. -/
import Derived.Test.YtcnkbdfkjhlbiaaDoorXPBA
set_option linter.unusedVariables false
namespace Go.Proofs.YtcnkbdfkjhlbiaaDoor
open Go.Sy
set_option maxRecDepth 8000
theorem und30 : (match Tryd.prog.underlying 30 with | some (.struct fs) => fs.toList.map (fun f => (f.name == "_", f.type, f.offset)) | _ => []) = [(false, 3, 0), (false, 3, 1)] := by kernel_rfl
theorem stood30 : Tryd.prog.stoodInHeld 30 = false := by kernel_rfl
theorem fields30 : ∃ f0 f1 : Field, Tryd.prog.underlying 30 = some (.struct #[f0, f1]) ∧ f0.name ≠ "_" ∧ f0.type = 3 ∧ f0.offset = 0 ∧ f1.name ≠ "_" ∧ f1.type = 3 ∧ f1.offset = 1 := by
  have h := und30
  split at h
  · rename_i fs hu
    obtain ⟨l⟩ := fs
    match l, h with
    | [f0, f1], h =>
      simp only [List.map_cons, List.map_nil, List.cons.injEq, Prod.mk.injEq, and_true] at h
      exact ⟨f0, f1, hu, by simpa using h.1.1, h.1.2.1, h.1.2.2, by simpa using h.2.1, h.2.2.1, h.2.2.2⟩
  · cases h
theorem rng_0 (w : World) (a b : Int) : (part 3 #[.int .i64 a, .int .i64 b] 0).run Tryd.prog w = .ok (.int .i64 a) w := by kernel_rfl
theorem rng_1 (w : World) (a b : Int) : (part 3 #[.int .i64 a, .int .i64 b] 1).run Tryd.prog w = .ok (.int .i64 b) w := by kernel_rfl
theorem eq_rng (w : World) (a b a' b' : Int) : (Op.equal 30 (.agg #[.int .i64 a, .int .i64 b]) (.agg #[.int .i64 a', .int .i64 b'])).run Tryd.prog w = .ok (a == a' && b == b') w := by
  obtain ⟨f0, f1, hu, n0, t0, o0, n1, t1, o1⟩ := fields30
  show (Op.equalIn (9998 + 2) 30 _ _).run Tryd.prog w = _
  rw [Op.equalIn]
  have p0 := rng_0 w a b
  have p1 := rng_1 w a b
  have q0 := rng_0 w a' b'
  have q1 := rng_1 w a' b'
  have e0 := eq_int 9998 w a a'
  have e1 := eq_int 9998 w b b'
  have hs := stood30
  cases h0 : (a == a') <;> cases h1 : (b == b') <;> rw [h0] at e0 <;> rw [h1] at e1 <;>
    simp [run_underlying hu, hs, n0, n1, t0, t1, o0, o1, p0, p1, q0, q1, e0, e1]
theorem guard_rng (op : BinOp) (x y : Operand) (w : World) (a b a' b' : Int) : (eqGuard op 30 x y (.agg #[.int .i64 a, .int .i64 b]) (.agg #[.int .i64 a', .int .i64 b'])).run Tryd.prog w = .ok () w := by
  cases op <;> kernel_rfl
theorem eqAgg30 : EqAgg Tryd.prog 30 2 := by
  intro w xs ys l l' ha hb hx hy
  match l, l', ha, hb with
  | [a, b], [a', b'], _, _ =>
    subst hx hy
    refine ⟨fun op x y => guard_rng op x y w a b a' b', ?_⟩
    have h := eq_rng w a b a' b'
    have e : ([a, b] == [a', b']) = (a == a' && (b == b' && true)) := rfl
    rw [e, Bool.and_true]
    exact h
def four (lo hi : Int) (same : List Pair) : Census := ⟨[⟨0, 0, 5, ⟨30, 34⟩⟩, ⟨1, 0, 5, ⟨33, 36⟩⟩, ⟨2, 0, 5, ⟨35, 40⟩⟩, ⟨1, 1, 7, ⟨20, 20⟩⟩], same, [], ⟨0, 1⟩, ⟨lo, hi⟩⟩
def threeC (last : Int) : Coding := ⟨[[1, 2, 3], [1, 5, 3], [4, 5, 3]], [1, 1, last]⟩
theorem four_p : (four 3 5 []).personsS = (⟨3, 4⟩, ⟨0, 1⟩, 0) := by kernel_rfl
theorem four_d : (four 3 3 []).doubled = ([1], 0) := by kernel_rfl
theorem four_l : (four 3 5 [⟨0, 1⟩, ⟨1, 2⟩]).dropS = ([0], 0) := by kernel_rfl
theorem three_c : (threeC 1).codesS = ([[1], [5], [3]], 0) := by kernel_rfl
theorem three_e : (threeC 1).errorsS = (2, 0) := by kernel_rfl
abbrev y8 := And.intro ty.sz0 <| And.intro ty.agg0 <| And.intro ty.elem0 <| And.intro ty.sz3 <| And.intro ty.agg3 <| And.intro ty.elem3 <| And.intro ty.zero3 <| And.intro ty.und3 <| And.intro ty.sz30 <| And.intro ty.agg30 <| And.intro ty.fld30_0 <| And.intro ty.fld30_1 <| And.intro ty.elem30 <| And.intro ty.zero30 <| And.intro ty.pl30 <| And.intro ty.sz34 <| And.intro ty.agg34 <| And.intro ty.elem34 <| And.intro ty.by34 <| And.intro ty.ez34 <| And.intro ty.zero34 <| And.intro ty.und34 <| And.intro ty.sz35 <| And.intro ty.agg35 <| And.intro ty.elem35 <| And.intro ty.by35 <| And.intro ty.ez35 <| And.intro ty.zero35 <| And.intro ty.und35 <| And.intro ty.sz37 <| And.intro ty.agg37 <| And.intro ty.fld37_0 <| And.intro ty.fld37_1 <| And.intro ty.fld37_2 <| And.intro ty.fld37_3 <| And.intro ty.fld37_4 <| And.intro ty.elem37 <| And.intro ty.zero37 <| And.intro ty.pl37 <| And.intro ty.sz106 <| And.intro ty.agg106 <| And.intro ty.fld106_0 <| And.intro ty.fld106_1 <| And.intro ty.fld106_2 <| And.intro ty.fld106_3 <| And.intro ty.elem106 <| And.intro ty.zero106 <| ty.pl106
theorem four_c (lo hi : Int) (same : List Pair) : CallP Tryd.prog G0 59 [I lo, I hi, SP same] (four lo hi same).s := by
  refine CallP.body 22 [.cell 6 37] Tryd.func59 (by kernel_rfl) rfl rfl rfl zP zP ?_
  refine Tr.reg [0, 1, 2, 6] (by
      simp only [↓sxd, sxu, ↓zE, ↓exq, ↓zM, Nat.reduceBEq, Nat.reduceAdd, Nat.reduceLT, Nat.reduceEqDiff, y8]
      (all_goals try exact zF)) ?_
  refine Tr.reg [6] (by
      simp only [↓sxd, sxu, ↓zE, Nat.reduceLT]
      (repeat ((with_reducible refine And.intro ?_ ?_); (focus (exact zS))))
      refine CallO.use (between_c _ _ _) ?_
      try simp only [↓sxd, sxu, ↓zE, ↓exq, ↓zO, Nat.reduceAdd, Nat.reduceLT, Nat.reduceLeDiff, y8]
      (repeat ((with_reducible refine And.intro ?_ ?_); (focus (exact zS))))
      refine CallO.use (between_c _ _ _) ?_
      try simp only [↓sxd, sxu, ↓zE, ↓exq, ↓zO, Nat.reduceAdd, Nat.reduceLT, Nat.reduceLeDiff, y8]
      (repeat ((with_reducible refine And.intro ?_ ?_); (focus (exact zS))))
      refine CallO.use (between_c _ _ _) ?_
      try simp only [↓sxd, sxu, ↓zE, ↓exq, ↓zO, Nat.reduceAdd, Nat.reduceLT, Nat.reduceLeDiff, y8]
      (repeat ((with_reducible refine And.intro ?_ ?_); (focus (exact zS))))
      refine CallO.use (between_c _ _ _) ?_
      try simp only [↓sxd, sxu, ↓zE, ↓exq, ↓zO, ↓zG, Nat.reduceBEq, Nat.reduceAdd, Nat.reduceLT, Nat.reduceMul, Nat.reduceLeDiff, Nat.reduceEqDiff, y8]
      (repeat ((with_reducible refine And.intro ?_ ?_); (focus (exact zS))))
      refine CallO.use (between_c _ _ _) ?_
      try simp only [↓sxd, sxu, ↓zE, ↓exq, Nat.reduceBEq, Nat.reduceLT]
      (repeat ((with_reducible refine And.intro ?_ ?_); (focus (exact zS))))
      refine CallO.use (between_c _ _ _) ?_
      try simp only [↓sxd, sxu, ↓zE, ↓exq, ↓zO, Nat.reduceBEq, Nat.reduceAdd, Nat.reduceLT, Nat.reduceLeDiff, y8]
      (all_goals try exact zF)) ?_
  refine Tr.imp (st' := ⟨[(6, .ptr 0 0 0)], [(0, .arr 7 [[SE (four lo hi same).entries, SP same, SP [], I 0, I 1, I lo, I hi]])], _, _, [], _⟩) (Imp.go (fun i => i) [(0, _)] rfl rfl (.refl _) (fun _ _ => rfl) (fun _ h => h) zT (.cons ⟨rfl, TnO.arr (.cons (.cons (TnS.dxd _) (.cons (TnS.d _) (.cons (TnS.dxd _) zT))) .nil)⟩ .nil) (fun _ => rfl)) ?_
  refine Tr.ret ?_
  (refine ⟨.inr rfl, ?_⟩; first | rfl | exact ⟨rfl, rfl, trivial⟩ | exact ⟨rfl, rfl, rfl, trivial⟩ | (simp only [Res, ResOK, sxu]; (repeat' (first | rfl | exact trivial | exact fun h => h | exact fun h => (by rw [h]; rfl) | apply And.intro | omega | exact Nat.le_of_ble_eq_true rfl))))
abbrev wD := And.intro ty.sz0 <| And.intro ty.agg0 <| And.intro ty.elem0 <| And.intro ty.sz3 <| And.intro ty.agg3 <| And.intro ty.elem3 <| And.intro ty.zero3 <| And.intro ty.und3 <| And.intro ty.sz39 <| And.intro ty.agg39 <| And.intro ty.elem39 <| And.intro ty.by39 <| And.intro ty.ez39 <| And.intro ty.zero39 <| And.intro ty.und39 <| And.intro ty.sz43 <| And.intro ty.agg43 <| And.intro ty.elem43 <| And.intro ty.by43 <| And.intro ty.ez43 <| And.intro ty.zero43 <| And.intro ty.und43 <| And.intro ty.sz59 <| And.intro ty.agg59 <| And.intro ty.fld59_0 <| And.intro ty.fld59_1 <| And.intro ty.elem59 <| And.intro ty.zero59 <| ty.pl59
theorem three_cc (last : Int) : CallP Tryd.prog G0 60 [I last] (threeC last).s := by
  refine CallP.body 10 [.cell 2 59] Tryd.func60 (by kernel_rfl) rfl rfl rfl zP zP ?_
  refine Tr.reg [0, 2] (by
      simp only [↓sxd, sxu, ↓zE, ↓exq, ↓zM, Nat.reduceBEq, Nat.reduceAdd, Nat.reduceLT, Nat.reduceEqDiff, wD]
      (all_goals try exact zF)) ?_
  refine Tr.reg [2] (by
      simp only [↓sxd, sxu, ↓zE, ↓exq, ↓zO, ↓zG, Nat.reduceBEq, Nat.reduceAdd, Nat.reduceLT, Nat.reduceLeDiff, Nat.reduceEqDiff, wD]
      (all_goals try exact zF)) ?_
  refine Tr.imp (st' := ⟨[(2, .ptr 0 0 0)], [(0, .arr 2 [[SL (threeC last).codes, SI (threeC last).wrong]])], _, _, [], _⟩) (Imp.go (fun i => i) [(0, _)] rfl rfl (.refl _) (fun _ _ => rfl) (fun _ h => h) zT (.cons ⟨rfl, TnO.arr (.cons (.cons (TnS.dxd _) (.cons (TnS.dxd _) .nil)) .nil)⟩ .nil) (fun _ => rfl)) ?_
  refine Tr.ret ?_
  (refine ⟨.inr rfl, ?_⟩; first | rfl | exact ⟨rfl, rfl, trivial⟩ | exact ⟨rfl, rfl, rfl, trivial⟩ | (simp only [Res, ResOK, sxu]; (repeat' (first | rfl | exact trivial | exact fun h => h | exact fun h => (by rw [h]; rfl) | apply And.intro | omega | exact Nat.le_of_ble_eq_true rfl))))
theorem four_small (lo hi : Int) (same : List Pair) (h : same.length ≤ 1000) : (four lo hi same).small := ⟨(by decide : 4 ≤ 1000), h, (by decide : 0 ≤ 1000)⟩
theorem pers_four : CallP Tryd.prog G0 21 [(four 3 5 []).s] (.tup [(Rng.mk 3 4).s, (Rng.mk 0 1).s, I 0]) := by
  have h := Persons_c (four 3 5 []) (four_small _ _ _ (by decide)) Census.readable
  rwa [four_p] at h
theorem dbl_four : CallP Tryd.prog G0 53 [(four 3 3 []).s] (.tup [SI [1], I 0]) := by
  have h := Doubled_c (four 3 3 []) (four_small _ _ _ (by decide))
  rwa [four_d] at h
theorem drop_four : CallP Tryd.prog G0 29 [(four 3 5 [⟨0, 1⟩, ⟨1, 2⟩]).s] (.tup [SI [0], I 0]) := by
  have h := Drop_c (four 3 5 [⟨0, 1⟩, ⟨1, 2⟩]) (four_small _ _ _ (by decide))
  rwa [four_l] at h
theorem codes_three : CallP Tryd.prog G0 37 [(threeC 1).s] (.tup [SL [[1], [5], [3]], I 0]) := by
  have h := Codes_c (threeC 1) (by decide) (by decide)
  rwa [three_c] at h
theorem errors_three : CallP Tryd.prog G0 39 [(threeC 1).s] (.tup [I 2, I 0]) := by
  have h := Errors_c (threeC 1) (by decide) (by decide)
  rwa [three_e] at h
theorem ints_dx (a b : List Int) (ha : a.length < 1000) (hb : b.length < 1000) : CallP Tryd.prog G0 34 [SI a, .dx (dI b)] (B (decide (a = b))) :=
  CallP.arg (ints_c a b (by omega) (by omega)) (.cons (fun _ _ _ _ h => h) (.cons (fun pl ok w v h => dxd _ pl ok w v h) .nil))
abbrev zY := And.intro ty.sz0 <| And.intro ty.agg0 <| And.intro ty.elem0 <| And.intro ty.sz3 <| And.intro ty.agg3 <| And.intro ty.elem3 <| And.intro ty.zero3 <| And.intro ty.und3 <| And.intro ty.sz4 <| And.intro ty.agg4 <| And.intro ty.elem4 <| And.intro ty.zero4 <| And.intro ty.und4 <| And.intro ty.sz30 <| And.intro ty.agg30 <| And.intro ty.fld30_0 <| And.intro ty.fld30_1 <| And.intro ty.elem30 <| And.intro ty.zero30 <| And.intro ty.pl30 <| And.intro ty.sz31 <| And.intro ty.agg31 <| And.intro ty.elem31 <| And.intro ty.zero31 <| And.intro ty.und31 <| And.intro ty.sz32 <| And.intro ty.agg32 <| And.intro ty.elem32 <| And.intro ty.sz35 <| And.intro ty.agg35 <| And.intro ty.elem35 <| And.intro ty.by35 <| And.intro ty.ez35 <| And.intro ty.zero35 <| And.intro ty.und35 <| And.intro ty.sz37 <| And.intro ty.agg37 <| And.intro ty.fld37_0 <| And.intro ty.fld37_1 <| And.intro ty.fld37_2 <| And.intro ty.fld37_3 <| And.intro ty.fld37_4 <| And.intro ty.elem37 <| And.intro ty.zero37 <| And.intro ty.pl37 <| And.intro ty.sz39 <| And.intro ty.agg39 <| And.intro ty.elem39 <| And.intro ty.by39 <| And.intro ty.ez39 <| And.intro ty.zero39 <| And.intro ty.und39 <| And.intro ty.sz40 <| And.intro ty.agg40 <| And.intro ty.elem40 <| And.intro ty.sz43 <| And.intro ty.agg43 <| And.intro ty.elem43 <| And.intro ty.by43 <| And.intro ty.ez43 <| And.intro ty.zero43 <| And.intro ty.und43 <| And.intro ty.sz47 <| And.intro ty.agg47 <| And.intro ty.elem47 <| And.intro ty.sz59 <| And.intro ty.agg59 <| And.intro ty.fld59_0 <| And.intro ty.fld59_1 <| And.intro ty.elem59 <| And.intro ty.zero59 <| And.intro ty.pl59 <| And.intro ty.sz61 <| And.intro ty.agg61 <| And.intro ty.elem61 <| And.intro ty.sz104 <| And.intro ty.agg104 <| And.intro ty.fld104_0 <| And.intro ty.fld104_1 <| And.intro ty.elem104 <| And.intro ty.zero104 <| ty.pl104
set_option maxHeartbeats 4000000 in
theorem awake_c : CallP Tryd.prog G0 20 [] (B true) := by
  refine CallP.body 109 [.tmp 0] Tryd.func20 (by kernel_rfl) rfl rfl rfl zP zP ?_
  refine Tr.reg [] (by
      simp only [↓sxd, sxu, ↓zE, ↓exq, Nat.reduceLT]
      (all_goals try exact zF)) ?_
  refine Tr.reg [1, 2, 3] (by
      simp only [↓sxd, sxu, ↓zE, Nat.reduceLT]
      (repeat ((with_reducible refine And.intro ?_ ?_); (focus (exact zS))))
      refine CallO.useZ _ (four_c 3 5 []) (List.Sublist.refl _) (.cons (TnS.d _) (.cons (TnS.d _) (.cons (TnS.dxd _) .nil))) ?_
      try simp only [↓sxd, sxu, ↓zE, Nat.reduceLT]
      (repeat ((with_reducible refine And.intro ?_ ?_); (focus (exact zS))))
      refine CallO.use (pers_four) ?_
      try simp only [↓sxd, sxu, ↓zE, ↓exq, ↓zN, ↓zM, Nat.reduceBEq, Nat.reduceAdd, Nat.reduceLT, Nat.reduceEqDiff, zY]
      (all_goals try exact zF)) ?_
  refine Tr.reg [1, 2, 3, 4, 5] (by
      simp only [↓sxd, sxu, ↓zE, Nat.reduceLT]
      (repeat ((with_reducible refine And.intro ?_ ?_); (focus (exact zS))))
      refine CallO.useZ _ (four_c 3 3 []) (List.Sublist.refl _) (.cons (TnS.d _) (.cons (TnS.d _) (.cons (TnS.dxd _) .nil))) ?_
      try simp only [↓sxd, sxu, ↓zE, Nat.reduceLT]
      (repeat ((with_reducible refine And.intro ?_ ?_); (focus (exact zS))))
      refine CallO.use (dbl_four) ?_
      try simp only [↓sxd, sxu, ↓zE, ↓exq, ↓zN, Nat.reduceBEq, Nat.reduceAdd, Nat.reduceLT]
      (all_goals try exact zF)) ?_
  refine Tr.reg [1, 2, 3, 4, 5, 6, 7] (by
      simp only [↓sxd, sxu, ↓zE, ↓exq, ↓zO, ↓zG, Nat.reduceBEq, Nat.reduceAdd, Nat.reduceLT, Nat.reduceMul, Nat.reduceLeDiff, Nat.reduceEqDiff, zY]
      (repeat ((with_reducible refine And.intro ?_ ?_); (focus (exact zS))))
      refine CallO.useZ _ (four_c 3 5 [⟨0, 1⟩, ⟨1, 2⟩]) (List.Sublist.refl _) (.cons (TnS.d _) (.cons (TnS.d _) (.cons (TnS.dxd _) .nil))) ?_
      try simp only [↓sxd, sxu, ↓zE, Nat.reduceLT]
      (repeat ((with_reducible refine And.intro ?_ ?_); (focus (exact zS))))
      refine CallO.use (drop_four) ?_
      try simp only [↓sxd, sxu, ↓zE, ↓exq, ↓zN, Nat.reduceBEq, Nat.reduceAdd, Nat.reduceLT]
      (all_goals try exact zF)) ?_
  refine Tr.reg [1, 2, 3, 4, 5, 6, 7, 8, 9] (by
      simp only [↓sxd, sxu, ↓zE, Nat.reduceLT]
      (repeat ((with_reducible refine And.intro ?_ ?_); (focus (exact zS))))
      refine CallO.use (three_cc 1) ?_
      try simp only [↓sxd, sxu, ↓zE, Nat.reduceLT]
      (repeat ((with_reducible refine And.intro ?_ ?_); (focus (exact zS))))
      refine CallO.use (codes_three) ?_
      try simp only [↓sxd, sxu, ↓zE, ↓exq, ↓zN, Nat.reduceBEq, Nat.reduceAdd, Nat.reduceLT]
      (all_goals try exact zF)) ?_
  refine Tr.reg [1, 2, 3, 4, 5, 6, 7, 8, 9, 10, 11] (by
      simp only [↓sxd, sxu, ↓zE, Nat.reduceLT]
      (repeat ((with_reducible refine And.intro ?_ ?_); (focus (exact zS))))
      refine CallO.use (three_cc 1) ?_
      try simp only [↓sxd, sxu, ↓zE, Nat.reduceLT]
      (repeat ((with_reducible refine And.intro ?_ ?_); (focus (exact zS))))
      refine CallO.use (errors_three) ?_
      try simp only [↓sxd, sxu, ↓zE, ↓exq, ↓zN, Nat.reduceBEq, Nat.reduceAdd, Nat.reduceLT]
      (all_goals try exact zF)) ?_
  refine Tr.regV [] [] [0] mix (by kernel_rfl) (by
      try simp only [List.append_eq, List.cons_append, List.nil_append]
      simp only [↓yB, ↓yG, addA, ↓sxd, sxu, zK, ↓exq, Nat.reduceBEq, Nat.reduceAdd, Nat.reduceLT]
      (repeat ((with_reducible refine And.intro ?_ ?_); (focus (exact zS))))
      refine GdV.mk _ (fun hg => by simp only [sxu, ↓exP, ↓exq, ↓zD, Nat.reduceBEq, Nat.reduceAdd, Nat.reduceLT, zY]; (all_goals try exact zF)) ?_
      simp only [↓yB, ↓yG, addA, sxu, zK, Nat.reduceBEq, Nat.reduceAdd, Nat.reduceLT]
      (repeat ((with_reducible refine And.intro ?_ ?_); (focus (exact zS))))
      refine GdV.mk _ (fun hg => by simp only [sxu, ↓exP]; first | exact between_c _ 3 4 | exact ⟨between_c _ 3 4, rfl, rfl⟩ | exact ⟨between_c _ 3 4, trivial⟩ | exact ⟨between_c _ 3 4, trivial, trivial⟩) ?_
      simp only [↓yB, ↓yG, addA, sxu, zK, Nat.reduceBEq, Nat.reduceAdd, Nat.reduceLT]
      iterate 2
        (repeat ((with_reducible refine And.intro ?_ ?_); (focus (exact zS))))
        refine GdV.mk _ (fun hg => by simp only [↓sxd, sxu, ↓exP, ↓exq, ↓zD, Nat.reduceBEq, Nat.reduceAdd, Nat.reduceLT, zY, eqAgg30, svInts, exists_and_left]; (all_goals try exact zF)) ?_
        simp only [↓yB, ↓yG, addA, sxu, zK, ↓exq, ↓zH, Nat.reduceBEq, Nat.reduceAdd, Nat.reduceLT]
      (repeat ((with_reducible refine And.intro ?_ ?_); (focus (exact zS))))
      refine GdV.mk _ (fun hg => by simp only [sxu, ↓exP]; first | exact between_c _ 0 1 | exact ⟨between_c _ 0 1, rfl, rfl⟩ | exact ⟨between_c _ 0 1, trivial⟩ | exact ⟨between_c _ 0 1, trivial, trivial⟩) ?_
      simp only [↓yB, ↓yG, addA, sxu, zK, Nat.reduceBEq, Nat.reduceAdd, Nat.reduceLT]
      iterate 5
        (repeat ((with_reducible refine And.intro ?_ ?_); (focus (exact zS))))
        refine GdV.mk _ (fun hg => by simp only [↓sxd, sxu, ↓exP, ↓exq, ↓zG, Nat.reduceBEq, Nat.reduceAdd, Nat.reduceLeDiff, Nat.reduceEqDiff, zY, eqAgg30, svInts, exists_and_left]; (all_goals try exact zF)) ?_
        simp only [↓yB, ↓yG, addA, sxu, zK, ↓exq, ↓zH, Nat.reduceBEq, Nat.reduceAdd, Nat.reduceLT]
      (repeat ((with_reducible refine And.intro ?_ ?_); (focus (exact zS))))
      refine GdV.mk _ (fun hg => by simp only [sxu, ↓exP, Nat.reduceBEq]; first | exact ints_dx [1] [1] (by decide) (by decide) | exact ⟨ints_dx [1] [1] (by decide) (by decide), rfl, rfl⟩ | exact ⟨ints_dx [1] [1] (by decide) (by decide), trivial⟩ | exact ⟨ints_dx [1] [1] (by decide) (by decide), trivial, trivial⟩) ?_
      simp only [↓yB, ↓yG, addA, sxu, zK, ↓exq, ↓zH, Nat.reduceBEq, Nat.reduceAdd, Nat.reduceLT]
      iterate 4
        (repeat ((with_reducible refine And.intro ?_ ?_); (focus (exact zS))))
        refine GdV.mk _ (fun hg => by simp only [↓sxd, sxu, ↓exP, ↓exq, ↓zG, Nat.reduceBEq, Nat.reduceLeDiff, Nat.reduceEqDiff, zY, hg]; (all_goals try exact zF)) ?_
        simp only [↓yB, ↓yG, addA, sxu, zK, ↓exq, ↓zH, Nat.reduceBEq, Nat.reduceAdd, Nat.reduceLT]
      (repeat ((with_reducible refine And.intro ?_ ?_); (focus (exact zS))))
      refine GdV.mk _ (fun hg => by simp only [sxu, ↓exP, Nat.reduceBEq, hg]; first | exact ints_dx [0] [0] (by decide) (by decide) | exact ⟨ints_dx [0] [0] (by decide) (by decide), rfl, rfl⟩ | exact ⟨ints_dx [0] [0] (by decide) (by decide), trivial⟩ | exact ⟨ints_dx [0] [0] (by decide) (by decide), trivial, trivial⟩) ?_
      simp only [↓yB, ↓yG, addA, sxu, zK, ↓exq, ↓zH, Nat.reduceBEq, Nat.reduceAdd, Nat.reduceLT]
      iterate 9
        (repeat ((with_reducible refine And.intro ?_ ?_); (focus (exact zS))))
        refine GdV.mk _ (fun hg => by simp only [↓sxd, sxu, ↓exP, ↓exq, ↓zB, ↓zJ, ↓zD, ↓zG, Nat.reduceBEq, Nat.reduceAdd, Nat.reduceLT, Nat.reduceLeDiff, Nat.reduceEqDiff, Int.reduceLE, sxe, zY, hg]; (all_goals try exact zF)) ?_
        simp only [↓yB, ↓yG, addA, sxu, zK, ↓exq, ↓zH, Nat.reduceBEq, Nat.reduceAdd, Nat.reduceLT]
      (repeat ((with_reducible refine And.intro ?_ ?_); (focus (exact zS))))
      refine GdV.mk _ (fun hg => by simp only [sxu, ↓exP, Nat.reduceBEq, hg]; first | exact ints_dx [1] [1] (by decide) (by decide) | exact ⟨ints_dx [1] [1] (by decide) (by decide), rfl, rfl⟩ | exact ⟨ints_dx [1] [1] (by decide) (by decide), trivial⟩ | exact ⟨ints_dx [1] [1] (by decide) (by decide), trivial, trivial⟩) ?_
      simp only [↓yB, ↓yG, addA, sxu, zK, ↓exq, ↓zH, Nat.reduceBEq, Nat.reduceAdd, Nat.reduceLT]
      iterate 4
        (repeat ((with_reducible refine And.intro ?_ ?_); (focus (exact zS))))
        refine GdV.mk _ (fun hg => by simp only [↓sxd, sxu, ↓exP, ↓exq, ↓zD, ↓zG, Nat.reduceBEq, Nat.reduceAdd, Nat.reduceLT, Nat.reduceLeDiff, Nat.reduceEqDiff, Int.reduceLE, sxe, zY, hg]; (all_goals try exact zF)) ?_
        simp only [↓yB, ↓yG, addA, sxu, zK, Nat.reduceBEq, Nat.reduceAdd, Nat.reduceLT]
      (repeat ((with_reducible refine And.intro ?_ ?_); (focus (exact zS))))
      refine GdV.mk _ (fun hg => by simp only [sxu, ↓exP, Nat.reduceBEq, hg]; first | exact ints_dx [5] [5] (by decide) (by decide) | exact ⟨ints_dx [5] [5] (by decide) (by decide), rfl, rfl⟩ | exact ⟨ints_dx [5] [5] (by decide) (by decide), trivial⟩ | exact ⟨ints_dx [5] [5] (by decide) (by decide), trivial, trivial⟩) ?_
      simp only [↓yB, ↓yG, addA, sxu, zK, ↓exq, ↓zH, Nat.reduceBEq, Nat.reduceAdd, Nat.reduceLT]
      iterate 4
        (repeat ((with_reducible refine And.intro ?_ ?_); (focus (exact zS))))
        refine GdV.mk _ (fun hg => by simp only [↓sxd, sxu, ↓exP, ↓exq, ↓zD, ↓zG, Nat.reduceBEq, Nat.reduceAdd, Nat.reduceLT, Nat.reduceLeDiff, Nat.reduceEqDiff, Int.reduceLE, Int.reduceToNat, sxe, zY, hg]; (all_goals try exact zF)) ?_
        simp only [↓yB, ↓yG, addA, sxu, zK, Nat.reduceBEq, Nat.reduceAdd, Nat.reduceLT]
      (repeat ((with_reducible refine And.intro ?_ ?_); (focus (exact zS))))
      refine GdV.mk _ (fun hg => by simp only [sxu, ↓exP, Nat.reduceBEq, hg]; first | exact ints_dx [3] [3] (by decide) (by decide) | exact ⟨ints_dx [3] [3] (by decide) (by decide), rfl, rfl⟩ | exact ⟨ints_dx [3] [3] (by decide) (by decide), trivial⟩ | exact ⟨ints_dx [3] [3] (by decide) (by decide), trivial, trivial⟩) ?_
      simp only [↓yB, ↓yG, addA, sxu, zK, ↓exq, ↓zH, Nat.reduceBEq, Nat.reduceAdd, Nat.reduceLT]
      iterate 4
        (repeat ((with_reducible refine And.intro ?_ ?_); (focus (exact zS))))
        refine GdV.mk _ (fun hg => by simp only [↓sxd, sxu, ↓exP, ↓exq, Nat.reduceBEq, hg]; (all_goals try exact zF)) ?_
        simp only [↓yB, ↓yE, ↓yG, addA, sxu, zK, ↓exq, ↓zH, Nat.reduceBEq, Nat.reduceAdd, Nat.reduceLT]
      (all_goals try exact zF)) ?_
  refine Tr.ret ?_
  (refine ⟨.inr rfl, ?_⟩; first | rfl | exact ⟨rfl, rfl, trivial⟩ | exact ⟨rfl, rfl, rfl, trivial⟩ | (simp only [Res, ResL, ResOK, ↓sxd, sxu, ↓zE, ↓zC, zK, ↓exP, ↓exq, ↓zB, ↓zH, ↓zL, ↓zJ, ↓zD, ↓zN, ↓zM, ↓zO, ↓zG, Nat.reduceBEq, Nat.reduceAdd, Nat.reduceLT, Nat.reduceMul, Nat.reduceSub, Nat.reduceLeDiff, Nat.reduceEqDiff, Int.reduceLE, Int.reduceLT, Int.reduceToNat, reduceIte, sxe, zY]; (repeat' (first | rfl | exact trivial | exact fun h => h | exact fun h => (by rw [h]; rfl) | apply And.intro | omega | exact Nat.le_of_ble_eq_true rfl))))
end Go.Proofs.YtcnkbdfkjhlbiaaDoor
namespace Go.Proofs.YtcnkbdfkjhlbiaaDoor
open Go.Sy
set_option maxRecDepth 8000
theorem pp_take {l : List Pair} {k : Nat} (h : k < l.length) : pp (l.take (k + 1)) = pp (l.take k) ++ [[I (l.getD k default).fst, I (l.getD k default).snd]] := by
  have e : ∀ a b : List Pair, pp (a ++ b) = pp a ++ pp b := fun a b => by simp [pp, dP]
  rw [List.take_succ_eq_append_getElem h, e]
  congr 1
  simp [pp, dP, List.getD_eq_getElem?_getD, h]
theorem pp_tn {r : Nat → Nat} {hp hp' : HpT} (l : List Pair) : F2 (F2 (TnS r hp hp')) (pp l) (pp l) := by
  unfold pp dP
  rw [List.map_map]
  exact F2.map fun p _ => .cons (TnS.d _) (.cons (TnS.d _) .nil)
abbrev xE := And.intro ty.sz0 <| And.intro ty.agg0 <| And.intro ty.elem0 <| And.intro ty.sz3 <| And.intro ty.agg3 <| And.intro ty.elem3 <| And.intro ty.zero3 <| And.intro ty.und3 <| And.intro ty.sz4 <| And.intro ty.agg4 <| And.intro ty.elem4 <| And.intro ty.zero4 <| And.intro ty.und4 <| And.intro ty.sz23 <| And.intro ty.agg23 <| And.intro ty.elem23 <| And.intro ty.by23 <| And.intro ty.ez23 <| And.intro ty.zero23 <| And.intro ty.und23 <| And.intro ty.sz35 <| And.intro ty.agg35 <| And.intro ty.elem35 <| And.intro ty.by35 <| And.intro ty.ez35 <| And.intro ty.zero35 <| And.intro ty.und35 <| And.intro ty.sz73 <| And.intro ty.agg73 <| And.intro ty.fld73_0 <| And.intro ty.fld73_1 <| And.intro ty.elem73 <| And.intro ty.zero73 <| And.intro ty.pl73 <| And.intro ty.sz104 <| And.intro ty.agg104 <| And.intro ty.fld104_0 <| And.intro ty.fld104_1 <| And.intro ty.elem104 <| And.intro ty.zero104 <| ty.pl104
theorem lpairs_c (l : List Pair) (hl : l.length ≤ 1000) : CallP Tryd.prog G0 65 [SP l] (SP l) := by
  refine CallP.body 26 [.tmp 2] Tryd.func65 (by kernel_rfl) rfl rfl rfl zP zP ?_
  refine Tr.reg [0] (by
      simp only [↓sxd, sxu, ↓zE, ↓exq, Nat.reduceBEq, Nat.reduceLT]
      (all_goals try exact zF)) ?_
  refine Tr.reg [0, 3] (by
      simp only [↓sxd, sxu, ↓zE, ↓exq, Nat.reduceBEq, Nat.reduceLT]
      (all_goals try exact zF)) ?_
  refine Tr.seq ?_
  refine Tr.reg [0, 3, 4] (by
      simp only [↓sxd, sxu, ↓zE, ↓exq, Nat.reduceBEq, Nat.reduceLT]
      (all_goals try exact zF)) ?_
  refine Tr.imp (st' := ⟨[(0, SP l), (3, .slc 0 2 0 (l.take 0).length (l.take 0).length), (4, I 0)], [(0, .arr 2 (pp (l.take 0)))], 1, 26, [], 0⟩) (Imp.goV 2 rfl rfl rfl rfl (by repeat' (first | exact trivial | exact F2.nil | refine F2.cons ?_ ?_ | refine TmV.cons rfl VnS.nil ?_ | refine TmV.cons rfl VnS.same ?_ | refine ⟨rfl, ?_⟩ | exact VnO.same _ | refine VnO.arr ?_ | exact VnS.nil | exact VnS.same | exact F2.refl fun _ _ => VnS.same)) (by repeat' (first | exact trivial | exact F2.nil | refine F2.cons ?_ ?_ | refine TmV.cons rfl VnS.nil ?_ | refine TmV.cons rfl VnS.same ?_ | refine ⟨rfl, ?_⟩ | exact VnO.same _ | refine VnO.arr ?_ | exact VnS.nil | exact VnS.same | exact F2.refl fun _ _ => VnS.same))) (Tr.block (Tr.loopI (fun mm ss => ∃ (k : Nat), (k ≤ l.length) ∧ l.length - k = mm ∧ ss = ⟨[(0, SP l), (3, .slc 0 2 0 (l.take k).length (l.take k).length), (4, I k)], [(0, .arr 2 (pp (l.take k)))], 1, 26, [], 0⟩) _ ⟨0, ?_, rfl, rfl⟩ ?_))
  · (repeat' (first | rfl | exact trivial | exact fun h => h | exact fun h => (by rw [h]; rfl) | apply And.intro | omega | exact Nat.le_of_ble_eq_true rfl))
  rintro mm ss ⟨k, hI, rfl, rfl⟩
  refine Tr.seq ?_
  refine Tr.reg [0, 3, 4, 8] (by
      simp only [↓sxd, sxu, ↓zE, ↓exq, ↓zB, ↓zJ, Nat.reduceBEq, Nat.reduceLT, sxe, xE]
      (all_goals try exact zF)) ?_
  refine Tr.cond rfl (fun h8 => ?_) (fun h8 => ?_)
  · have hlt : k < l.length := by simpa using h8
    have htl : (l.take k).length = k := by rw [List.length_take]; omega
    have htl1 : (l.take (k + 1)).length = k + 1 := by rw [List.length_take]; omega
    rw [htl]
    refine Tr.skip ?_
    refine Tr.seq ?_
    refine Tr.block ?_
    have hk2 : (k + 1 ≤ 1073741824) = True := by simp; omega
    refine Tr.regD1 [0, 1, 2, 3, 4, 5, 6, 7, 8, 9, 10, 11, 12, 13, 14] [13] [] [0, 3, 4] mix (by kernel_rfl) (by
        simp only [↓sxd, sxu, ↓zC, zK, ↓exq, ↓zB, ↓zD, ↓zO, ↓zG, ↓zQ, ↓zA, Nat.reduceBEq, Nat.reduceAdd, Nat.reduceLT, Nat.reduceLeDiff, Nat.reduceEqDiff, sxe, xE, hlt, pp_len, htl, hk2]
        (all_goals try exact zF)) ?_
    have w1 : IntKind.i64.wrap ((k : Int) + 1) = ((k + 1 : Nat) : Int) := by rw [wr (by omega) (by omega)]; rfl
    refine Tr.reg1 [0, 3, 4] (by
        simp only [↓sxd, sxu, ↓zE, ↓exq, Nat.reduceBEq, Nat.reduceLT, w1]
        (all_goals try exact zF)) ?_
    refine ⟨_, _, ?_, ?_, ⟨k + 1, hlt, rfl, rfl⟩⟩
    · omega
    · rw [pp_take hlt, htl1]
      exact Imp.go (fun i => i + 1) _ rfl rfl (List.Sublist.refl _) (fun _ h => absurd h (Nat.not_lt_zero _)) (fun id h => Nat.succ_le_succ h) zT (.cons ⟨rfl, TnO.arr (F2.append (pp_tn _) (.cons (.cons (TnS.d _) (.cons (TnS.d _) .nil)) .nil))⟩ .nil) (fun h => h)
  · have hge : k = l.length := by simp at h8; omega
    subst hge
    rw [List.take_length]
    refine Tr.exit ?_
    refine Tr.reg [2] (by
        simp only [↓sxd, sxu, ↓zE, ↓exq, Nat.reduceBEq, Nat.reduceLT]
        (all_goals try exact zF)) ?_
    refine Tr.imp (Imp.fin (tm' := [(2, SP l)]) ?_) ?_
    · exact .cons rfl (pfz (l := l) rfl rfl (by simp) rfl) trivial
    refine Tr.ret ?_
    (refine ⟨.inr rfl, ?_⟩; first | rfl | exact ⟨rfl, rfl, trivial⟩ | exact ⟨rfl, rfl, rfl, trivial⟩ | (simp only [Res, ResL, ResOK, ↓sxd, sxu, ↓zE, ↓zC, zK, ↓exP, ↓exq, ↓zB, ↓zL, ↓zJ, ↓zD, ↓zO, ↓zG, ↓zQ, ↓zA, Nat.reduceBEq, Nat.reduceAdd, Nat.reduceLT, Nat.reduceMul, Nat.reduceSub, Nat.reduceLeDiff, Nat.reduceEqDiff, Int.reduceLE, Int.reduceLT, Int.reduceToNat, reduceIte, sxe, xE]; (repeat' (first | rfl | exact trivial | exact fun h => h | exact fun h => (by rw [h]; rfl) | apply And.intro | omega | exact Nat.le_of_ble_eq_true rfl))))
def ee (l : List Entry) : List (List SV) := (dE l).map fun e => e.map SV.d
theorem ee_len (l : List Entry) : (ee l).length = l.length := by simp [ee, dE]
theorem ee_take {l : List Entry} {k : Nat} (h : k < l.length) : ee (l.take (k + 1)) = ee (l.take k) ++ [[I (l.getD k default).sched, I (l.getD k default).sex, I (l.getD k default).key, I (l.getD k default).ages.lo, I (l.getD k default).ages.hi]] := by
  have e : ∀ a b : List Entry, ee (a ++ b) = ee a ++ ee b := fun a b => by simp [ee, dE]
  rw [List.take_succ_eq_append_getElem h, e]
  congr 1
  simp [ee, dE, List.getD_eq_getElem?_getD, h]
theorem ee_tn {r : Nat → Nat} {hp hp' : HpT} (l : List Entry) : F2 (F2 (TnS r hp hp')) (ee l) (ee l) := by
  unfold ee dE
  rw [List.map_map]
  exact F2.map fun p _ => .cons (TnS.d _) (.cons (TnS.d _) (.cons (TnS.d _) (.cons (TnS.d _) (.cons (TnS.d _) .nil))))
theorem efz {r : Nat → Nat} {hp hp' : HpT} {id n n' : Nat} {es : List (List SV)} {l : List Entry} (h : hp.lookup id = some (.arr 5 es)) (he : es = ee l) (hn : ∀ p ∈ hp', p.1 ≠ id) (hl : l.length = n) : TnS r hp hp' (.slc id 5 0 n n') (SE l) := by
  subst he
  refine TnS.frz0 h hn (by decide) (by rw [ee_len, hl]) ?_
  unfold ee dE
  rw [List.map_map]
  exact F2.map fun p _ => .cons (TnS.d _) (.cons (TnS.d _) (.cons (TnS.d _) (.cons (TnS.d _) (.cons (TnS.d _) .nil))))
abbrev yP := And.intro ty.sz0 <| And.intro ty.agg0 <| And.intro ty.elem0 <| And.intro ty.sz3 <| And.intro ty.agg3 <| And.intro ty.elem3 <| And.intro ty.zero3 <| And.intro ty.und3 <| And.intro ty.sz4 <| And.intro ty.agg4 <| And.intro ty.elem4 <| And.intro ty.zero4 <| And.intro ty.und4 <| And.intro ty.sz22 <| And.intro ty.agg22 <| And.intro ty.elem22 <| And.intro ty.by22 <| And.intro ty.ez22 <| And.intro ty.zero22 <| And.intro ty.und22 <| And.intro ty.sz23 <| And.intro ty.agg23 <| And.intro ty.elem23 <| And.intro ty.by23 <| And.intro ty.ez23 <| And.intro ty.zero23 <| And.intro ty.und23 <| And.intro ty.sz25 <| And.intro ty.agg25 <| And.intro ty.fld25_0 <| And.intro ty.fld25_1 <| And.intro ty.elem25 <| And.intro ty.zero25 <| And.intro ty.pl25 <| And.intro ty.sz27 <| And.intro ty.agg27 <| And.intro ty.fld27_0 <| And.intro ty.fld27_1 <| And.intro ty.fld27_2 <| And.intro ty.fld27_3 <| And.intro ty.fld27_4 <| And.intro ty.elem27 <| And.intro ty.zero27 <| And.intro ty.pl27 <| And.intro ty.sz30 <| And.intro ty.agg30 <| And.intro ty.fld30_0 <| And.intro ty.fld30_1 <| And.intro ty.elem30 <| And.intro ty.zero30 <| And.intro ty.pl30 <| And.intro ty.sz34 <| And.intro ty.agg34 <| And.intro ty.elem34 <| And.intro ty.by34 <| And.intro ty.ez34 <| And.intro ty.zero34 <| And.intro ty.und34 <| And.intro ty.sz35 <| And.intro ty.agg35 <| And.intro ty.elem35 <| And.intro ty.by35 <| And.intro ty.ez35 <| And.intro ty.zero35 <| And.intro ty.und35 <| And.intro ty.sz37 <| And.intro ty.agg37 <| And.intro ty.fld37_0 <| And.intro ty.fld37_1 <| And.intro ty.fld37_2 <| And.intro ty.fld37_3 <| And.intro ty.fld37_4 <| And.intro ty.elem37 <| And.intro ty.zero37 <| And.intro ty.pl37 <| And.intro ty.sz71 <| And.intro ty.agg71 <| And.intro ty.fld71_0 <| And.intro ty.fld71_1 <| And.intro ty.fld71_2 <| And.intro ty.fld71_3 <| And.intro ty.elem71 <| And.intro ty.zero71 <| And.intro ty.pl71 <| And.intro ty.sz106 <| And.intro ty.agg106 <| And.intro ty.fld106_0 <| And.intro ty.fld106_1 <| And.intro ty.fld106_2 <| And.intro ty.fld106_3 <| And.intro ty.elem106 <| And.intro ty.zero106 <| ty.pl106
theorem lCensus_c (c : Census) (hs : c.small) : CallP Tryd.prog G0 22 [c.s] c.s := by
  have hs1 := hs.1
  have hs2 := hs.2.1
  have hs3 := hs.2.2
  refine CallP.body 47 [.cell 2 37] Tryd.func22 (by kernel_rfl) rfl rfl rfl zP zP ?_
  refine Tr.reg [1, 2] (by
      simp only [↓sxd, sxu, ↓zE, ↓exq, ↓zM, ↓zI, Nat.reduceBEq, Nat.reduceAdd, Nat.reduceLT, Nat.reduceEqDiff, yP]
      (all_goals try exact zF)) ?_
  refine Tr.regD [0, 1, 2, 3, 4, 5, 6, 7, 8, 9, 10, 11, 12, 13, 14] [13, 14] [1, 4, 7, 10] [1, 2, 3] mix (by kernel_rfl) (by
      simp only [↓sxd, sxu, ↓zC, zK, ↓exq, ↓zD, ↓zA, Nat.reduceBEq, Nat.reduceAdd, Nat.reduceLT, Nat.reduceEqDiff, yP]
      (repeat ((with_reducible refine And.intro ?_ ?_); (focus (exact zS))))
      refine CallD.use (lpairs_c c.same hs2) ?_
      try simp only [↓sxd, sxu, ↓zC, zK, ↓exq, ↓zD, ↓zA, Nat.reduceBEq, Nat.reduceAdd, Nat.reduceLT, Nat.reduceEqDiff, yP]
      (repeat ((with_reducible refine And.intro ?_ ?_); (focus (exact zS))))
      refine CallD.use (lpairs_c c.apart hs3) ?_
      try simp only [↓sxd, sxu, ↓zC, zK, ↓exq, ↓zD, ↓zA, Nat.reduceBEq, Nat.reduceAdd, Nat.reduceLT, Nat.reduceLeDiff, Nat.reduceEqDiff, yP]
      (repeat ((with_reducible refine And.intro ?_ ?_); (focus (exact zS))))
      refine CallD.use (to_c _ c.omitted) ?_
      try simp only [↓sxd, sxu, ↓zC, zK, ↓exq, ↓zD, ↓zA, Nat.reduceBEq, Nat.reduceAdd, Nat.reduceLT, Nat.reduceEqDiff, yP]
      (repeat ((with_reducible refine And.intro ?_ ?_); (focus (exact zS))))
      refine CallD.use (to_c _ c.number) ?_
      try simp only [↓sxd, sxu, ↓zC, zK, ↓exq, ↓zM, ↓zO, Nat.reduceBEq, Nat.reduceAdd, Nat.reduceLT, Nat.reduceLeDiff, Nat.reduceEqDiff, yP]
      (all_goals try exact zF)) ?_
  refine Tr.seq ?_
  refine Tr.reg [1, 2, 3, 4] (by
      simp only [↓sxd, sxu, ↓zE, ↓exq, Nat.reduceBEq, Nat.reduceLT]
      (all_goals try exact zF)) ?_
  refine Tr.imp (st' := ⟨[(1, .ptr 0 0 0), (2, .ptr 1 0 0), (3, .ptr 2 0 0), (4, I 0)], [(3, .arr 5 (ee (c.entries.take 0))), (2, .arr 7 [[.slc 3 5 0 (c.entries.take 0).length (c.entries.take 0).length, SP c.same, SP c.apart, I c.omitted.lo, I c.omitted.hi, I c.number.lo, I c.number.hi]]), (1, .arr 7 [[.dx [], .dx [], .dx [], I 0, I 0, I 0, I 0]]), (0, .arr 7 [[SE c.entries, SP c.same, SP c.apart, I c.omitted.lo, I c.omitted.hi, I c.number.lo, I c.number.hi]])], 4, 47, [], 0⟩) (Imp.goV 5 rfl rfl rfl rfl (by repeat' (first | exact trivial | exact F2.nil | refine F2.cons ?_ ?_ | refine TmV.cons rfl VnS.nil ?_ | refine TmV.cons rfl VnS.same ?_ | refine ⟨rfl, ?_⟩ | exact VnO.same _ | refine VnO.arr ?_ | exact VnS.nil | exact VnS.same | exact F2.refl fun _ _ => VnS.same)) (by repeat' (first | exact trivial | exact F2.nil | refine F2.cons ?_ ?_ | refine TmV.cons rfl VnS.nil ?_ | refine TmV.cons rfl VnS.same ?_ | refine ⟨rfl, ?_⟩ | exact VnO.same _ | refine VnO.arr ?_ | exact VnS.nil | exact VnS.same | exact F2.refl fun _ _ => VnS.same))) (Tr.block (Tr.loopI (fun mm ss => ∃ (k : Nat), (k ≤ c.entries.length) ∧ c.entries.length - k = mm ∧ ss = ⟨[(1, .ptr 0 0 0), (2, .ptr 1 0 0), (3, .ptr 2 0 0), (4, I k)], [(3, .arr 5 (ee (c.entries.take k))), (2, .arr 7 [[.slc 3 5 0 (c.entries.take k).length (c.entries.take k).length, SP c.same, SP c.apart, I c.omitted.lo, I c.omitted.hi, I c.number.lo, I c.number.hi]]), (1, .arr 7 [[.dx [], .dx [], .dx [], I 0, I 0, I 0, I 0]]), (0, .arr 7 [[SE c.entries, SP c.same, SP c.apart, I c.omitted.lo, I c.omitted.hi, I c.number.lo, I c.number.hi]])], 4, 47, [], 0⟩) _ ⟨0, ?_, rfl, rfl⟩ ?_))
  · (repeat' (first | rfl | exact trivial | exact fun h => h | exact fun h => (by rw [h]; rfl) | apply And.intro | omega | exact Nat.le_of_ble_eq_true rfl))
  rintro mm ss ⟨k, hI, rfl, rfl⟩
  refine Tr.seq ?_
  refine Tr.reg [1, 2, 3, 4, 23] (by
      simp only [↓sxd, sxu, ↓zE, ↓exq, ↓zB, ↓zJ, ↓zD, ↓zA, Nat.reduceBEq, Nat.reduceAdd, Nat.reduceLT, Nat.reduceEqDiff, sxe, yP]
      (all_goals try exact zF)) ?_
  refine Tr.cond rfl (fun h23 => ?_) (fun h23 => ?_)
  · have hlt : k < c.entries.length := by simpa using h23
    have htl : (c.entries.take k).length = k := by rw [List.length_take]; omega
    have htl1 : (c.entries.take (k + 1)).length = k + 1 := by rw [List.length_take]; omega
    rw [htl]
    refine Tr.skip ?_
    refine Tr.seq ?_
    refine Tr.block ?_
    refine Tr.reg [1, 2, 3, 4, 5] (by
        simp only [↓sxd, sxu, ↓zE, ↓exq, ↓zD, ↓zM, ↓zA, Nat.reduceBEq, Nat.reduceAdd, Nat.reduceLT, Nat.reduceEqDiff, sxe, yP, hlt]
        (all_goals try exact zF)) ?_
    have hk2 : (k + 1 ≤ 1073741824) = True := by simp; omega
    refine Tr.regD1 [0, 1, 2, 3, 4, 5, 6, 7, 8, 9, 10, 11, 12, 13, 14, 15] [13, 15] [] [1, 2, 3, 4] mix (by kernel_rfl) (by
        simp only [↓sxd, sxu, ↓zC, zK, ↓exq, ↓zD, ↓zA, Nat.reduceBEq, Nat.reduceAdd, Nat.reduceLT, Nat.reduceEqDiff, yP]
        (repeat ((with_reducible refine And.intro ?_ ?_); (focus (exact zS))))
        refine CallD.use (to_c _ (c.entries.getD k default).ages) ?_
        try simp only [↓sxd, sxu, ↓zC, zK, ↓exq, ↓zB, ↓zO, ↓zG, ↓zQ, ↓zA, Nat.reduceBEq, Nat.reduceAdd, Nat.reduceLT, Nat.reduceLeDiff, Nat.reduceEqDiff, yP, ee_len, htl, hk2]
        (all_goals try exact zF)) ?_
    have w1 : IntKind.i64.wrap ((k : Int) + 1) = ((k + 1 : Nat) : Int) := by rw [wr (by omega) (by omega)]; rfl
    refine Tr.reg1 [1, 2, 3, 4] (by
        simp only [↓sxd, sxu, ↓zE, ↓exq, Nat.reduceBEq, Nat.reduceLT, w1]
        (all_goals try exact zF)) ?_
    refine ⟨_, _, ?_, ?_, ⟨k + 1, hlt, rfl, rfl⟩⟩
    · omega
    · rw [ee_take hlt, htl1]
      exact Imp.go (fun i => if i = 3 then 5 else if i < 3 then i else i + 2) [(5, _), (2, _), (1, _), (0, _)] rfl rfl (.cons_cons _ (.cons _ (.refl _))) (fun _ h => absurd h (Nat.not_lt_zero _)) (fun id h => by simp only [show ¬ id = 3 by omega, show ¬ id < 3 by omega, if_false]; omega) zT
        (.cons ⟨rfl, TnO.arr (F2.append (ee_tn _) (.cons (.cons (TnS.d _) (.cons (TnS.d _) (.cons (TnS.d _) (.cons (TnS.d _) (.cons (TnS.d _) .nil))))) .nil))⟩ (.cons ⟨rfl, TnO.arr (.cons (.cons (TnS.slc (r := fun i => if i = 3 then 5 else if i < 3 then i else i + 2) (id := 5) (id' := 3) rfl) zT) .nil)⟩ (.cons ⟨rfl, TnO.arr zT⟩ (.cons ⟨rfl, TnO.arr zT⟩ .nil)))) (fun h => h)
  · have hge : k = c.entries.length := by simp at h23; omega
    subst hge
    rw [List.take_length]
    refine Tr.exit ?_
    refine Tr.reg [2] (by
        simp only [↓sxd, sxu, ↓zE, ↓exq, ↓zD, Nat.reduceBEq, Nat.reduceAdd, Nat.reduceLT, Nat.reduceEqDiff, yP]
        (all_goals try exact zF)) ?_
    refine Tr.imp (st' := ⟨[(2, .ptr 1 0 0)], [(1, .arr 7 [[SE c.entries, SP c.same, SP c.apart, I c.omitted.lo, I c.omitted.hi, I c.number.lo, I c.number.hi]])], _, _, [], _⟩) (Imp.go (fun i => i) [(1, _)] rfl rfl (.cons _ (.cons _ (.cons_cons _ (.cons _ .slnil)))) (fun _ _ => rfl) (fun _ h => h) zT (.cons ⟨rfl, TnO.arr (.cons (.cons (efz (l := c.entries) rfl rfl (by simp) rfl) zT) .nil)⟩ .nil) (fun _ => rfl)) ?_
    refine Tr.ret ?_
    (refine ⟨.inr rfl, ?_⟩; first | rfl | exact ⟨rfl, rfl, trivial⟩ | exact ⟨rfl, rfl, rfl, trivial⟩ | (simp only [Res, ResOK, sxu, ↓zD, Nat.reduceAdd, Nat.reduceLT, yP]; (repeat' (first | rfl | exact trivial | exact fun h => h | exact fun h => (by rw [h]; rfl) | apply And.intro | omega | exact Nat.le_of_ble_eq_true rfl))))
end Go.Proofs.YtcnkbdfkjhlbiaaDoor
