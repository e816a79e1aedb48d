/- Lemmas, part XPU. Conditions: none. -/
import Derived.Test.YtcnkbdfkjhlbiaaDoorXPT
set_option linter.unusedVariables false
namespace Go.Proofs.YtcnkbdfkjhlbiaaDoor
open Go.Sy
set_option maxRecDepth 8000
theorem from_h {c : Coding} (hc : CodingOk c) (h0 : 0 < c.codes.length) : ∀ f, FromP c f
  | 0 => from_step c hc h0 0 (fun f' h => by omega)
  | f + 1 => from_step c hc h0 (f + 1) (fun f' h => by
    obtain rfl : f' = f := by omega
    exact from_h hc h0 f')
abbrev e000 : List Int := [0, 0, 0]
def Coding.root (c : Coding) : Int × Mem := c.solveGo c.cols 0 e000 []
def Coding.goes (c : Coding) (m : Mem) (p : Nat) (es : List Int) : Bool := decide (p = c.cols) || (match m.lookup (keyOf p es) with | some n => n != -1 | none => false)
def dm (m : Mem) : List (Value × D) := m.map fun e => (kv e.1, cI e.2)
theorem dm_mm (m : Mem) : ((dm m).map fun e => (e.1, SV.d e.2)) = mm m := by simp [dm, mm]
abbrev Coding.sv (c : Coding) (m : Mem) : SV := .agg [SL c.codes, SI c.wrong, .d (.mp (dm m))]
abbrev y7 := And.intro ty.sz0 <| And.intro ty.agg0 <| And.intro ty.elem0 <| And.intro ty.sz3 <| And.intro ty.agg3 <| And.intro ty.elem3 <| And.intro ty.zero3 <| And.intro ty.und3 <| And.intro ty.sz59 <| And.intro ty.agg59 <| And.intro ty.fld59_0 <| And.intro ty.fld59_1 <| And.intro ty.elem59 <| And.intro ty.zero59 <| And.intro ty.pl59 <| And.intro ty.sz120 <| And.intro ty.agg120 <| And.intro ty.elem120 <| And.intro ty.zero120 <| And.intro ty.sz122 <| And.intro ty.agg122 <| And.intro ty.fld122_0 <| And.intro ty.fld122_1 <| And.intro ty.elem122 <| And.intro ty.zero122 <| And.intro ty.pl122 <| And.intro ty.sz128 <| And.intro ty.agg128 <| And.intro ty.fld128_0 <| And.intro ty.fld128_1 <| And.intro ty.elem128 <| And.intro ty.zero128 <| And.intro ty.pl128 <| And.intro ty.sz174 <| And.intro ty.agg174 <| And.intro ty.elem174 <| ty.zero174
theorem solve_c (c : Coding) (hc : CodingOk c) (h0 : 0 < c.codes.length) : CallP Tryd.prog G0 103 [c.s] (c.sv c.root.2) := by
  refine CallP.body 13 [.cell 2 122] Tryd.func103 (by kernel_rfl) rfl rfl rfl zP zP ?_
  refine Tr.reg [1, 2] (by
      simp only [↓sxd, sxu, ↓zE, ↓exq, ↓zM, ↓zI, Nat.reduceBEq, Nat.reduceAdd, Nat.reduceLT, Nat.reduceEqDiff, y7]
      (all_goals try exact zF)) ?_
  refine Tr.reg [1, 2, 3] (by
      simp only [↓sxd, sxu, ↓zE, ↓exq, ↓zD, ↓zM, ↓zO, Nat.reduceBEq, Nat.reduceAdd, Nat.reduceLT, Nat.reduceLeDiff, Nat.reduceEqDiff, y7]
      (all_goals try exact zF)) ?_
  refine Tr.reg [1, 2, 3, 4] (by
      simp only [↓sxd, sxu, ↓zE, ↓exq, ↓zM, Nat.reduceBEq, Nat.reduceAdd, Nat.reduceLT, Nat.reduceEqDiff, y7]
      (all_goals try exact zF)) ?_
  refine Tr.reg [2, 3, 4] (by
      simp only [↓sxd, sxu, ↓zE, ↓exq, Nat.reduceBEq, Nat.reduceLT, Nat.reduceEqDiff, y7]
      (all_goals try exact zF)) ?_
  refine Tr.reg [2, 3] (by
      simp only [↓sxd, sxu, ↓zE, ↓exq, ↓zD, ↓zO, Nat.reduceBEq, Nat.reduceLT, y7]
      (repeat ((with_reducible refine And.intro ?_ ?_); (focus (exact zS))))
      refine (from_h hc h0 c.cols 0 0 0 0 [] [] 5 (by omega) (by omega) (fun e he => by cases he)).mono ?_
      rintro r hp' nx' ⟨rfl, rfl, rfl⟩
      try simp only [↓sxd, sxu, Nat.reduceBEq]
      (all_goals try exact zF)) ?_
  refine Tr.reg [2] (by
      simp only [↓sxd, sxu, ↓zE, ↓exq, ↓zD, Nat.reduceBEq, Nat.reduceLT, y7]
      (all_goals try exact zF)) ?_
  refine Tr.imp (Imp.go (tm' := [(2, .ptr 1 0 0)]) (hp'' := [(1, .arr 3 [[SL c.codes, SI c.wrong, .d (.mp (dm c.root.2))]])]) (nx' := 5) (fun i => i) [(1, _)] rfl rfl (.cons _ (.cons _ (.cons _ (.cons_cons _ (.cons _ .slnil))))) (fun _ _ => rfl) (fun _ h => h) zT (.cons ⟨rfl, TnO.arr (.cons (.cons (TnS.d _) (.cons (TnS.d _) (.cons (TnS.frzm rfl (by simp) (F2.map fun _ _ => ⟨rfl, TnS.d _⟩)) .nil))) .nil)⟩ .nil) (fun h => h)) ?_
  refine Tr.ret ?_
  (refine ⟨.inr rfl, ?_⟩; first | rfl | exact ⟨rfl, rfl, trivial⟩ | exact ⟨rfl, rfl, rfl, trivial⟩ | (simp only [Res, ResOK, sxu, ↓zD, Nat.reduceAdd, Nat.reduceLT, y7]; (repeat' (first | rfl | exact trivial | exact fun h => h | exact fun h => (by rw [h]; rfl) | apply And.intro | omega | exact Nat.le_of_ble_eq_true rfl))))
theorem opt_I (lk : Option Int) : (lk.map I).getD (I 0) = I (lk.getD 0) := by cases lk <;> rfl
theorem goes_eq (c : Coding) (m : Mem) (p : Nat) (es : List Int) : (((p : Int) == (c.cols : Int)) || ((m.lookup (keyOf p es)).isSome && ((m.lookup (keyOf p es)).getD 0 != -1))) = c.goes m p es := by
  unfold Coding.goes
  congr 1
  · by_cases h : p = c.cols
    · subst h; simp
    · rw [decide_eq_false h]; simp; omega
  · cases m.lookup (keyOf p es) <;> simp
abbrev xC := And.intro ty.sz0 <| And.intro ty.agg0 <| And.intro ty.elem0 <| And.intro ty.sz3 <| And.intro ty.agg3 <| And.intro ty.elem3 <| And.intro ty.zero3 <| And.intro ty.und3 <| And.intro ty.sz4 <| And.intro ty.agg4 <| And.intro ty.elem4 <| And.intro ty.zero4 <| And.intro ty.und4 <| And.intro ty.sz39 <| And.intro ty.agg39 <| And.intro ty.elem39 <| And.intro ty.by39 <| And.intro ty.ez39 <| And.intro ty.zero39 <| And.intro ty.und39 <| And.intro ty.sz43 <| And.intro ty.agg43 <| And.intro ty.elem43 <| And.intro ty.by43 <| And.intro ty.ez43 <| And.intro ty.zero43 <| And.intro ty.und43 <| And.intro ty.sz59 <| And.intro ty.agg59 <| And.intro ty.fld59_0 <| And.intro ty.fld59_1 <| And.intro ty.elem59 <| And.intro ty.zero59 <| And.intro ty.pl59 <| And.intro ty.sz120 <| And.intro ty.agg120 <| And.intro ty.elem120 <| And.intro ty.zero120 <| And.intro ty.sz122 <| And.intro ty.agg122 <| And.intro ty.fld122_0 <| And.intro ty.fld122_1 <| And.intro ty.elem122 <| And.intro ty.zero122 <| And.intro ty.pl122 <| And.intro ty.sz128 <| And.intro ty.agg128 <| And.intro ty.fld128_0 <| And.intro ty.fld128_1 <| And.intro ty.elem128 <| And.intro ty.zero128 <| And.intro ty.pl128 <| And.intro ty.sz165 <| And.intro ty.agg165 <| ty.elem165
theorem goes_c (c : Coding) (h0 : 0 < c.codes.length) (m : Mem) (p : Nat) (a b d : Int) : CallP Tryd.prog G0 75 [c.sv m, .agg (sol p [a, b, d])] (B (c.goes m p [a, b, d])) := by
  have h0' : (c.codes.getD 0 []).length = c.cols := rfl
  have hl : m.lookup ((p : Int), a, b, d) = m.lookup (keyOf p [a, b, d]) := rfl
  rw [← goes_eq]
  obtain ⟨lk, hlk⟩ : ∃ lk, lk = m.lookup (keyOf p [a, b, d]) := ⟨_, rfl⟩
  rw [← hlk] at hl ⊢
  refine CallP.body 30 [.tmp 4] Tryd.func75 (by kernel_rfl) rfl rfl rfl zP zP ?_
  refine Tr.reg [2, 3] (by
      simp only [↓sxd, sxu, ↓zE, ↓exq, ↓zI, Nat.reduceBEq, Nat.reduceAdd, Nat.reduceLT, Nat.reduceEqDiff, sol]
      (all_goals try exact zF)) ?_
  refine Tr.reg [2, 3, 5, 6] (by
      simp only [↓sxd, sxu, ↓zE, ↓exq, ↓zD, ↓zN, ↓zA, ↓z0, Nat.reduceBEq, Nat.reduceAdd, Nat.reduceLT, Nat.reduceEqDiff, xC, dm_mm, mm_find, mm_ok, mz120, hl, opt_I, Option.isSome_map]
      (all_goals try exact zF)) ?_
  refine Tr.regD [0, 1, 2, 3, 4, 5, 6, 7, 8, 9, 10, 11, 12, 13, 14, 15, 16] [] [] [4] mix (by kernel_rfl) (by
      simp only [↓sxd, sxu, ↓zC, zK, ↓exq, ↓zB, ↓zJ, ↓zD, ↓zA, Nat.reduceBEq, Nat.reduceAdd, Nat.reduceLT, Nat.reduceEqDiff, Int.reduceLE, sxe, xC, h0, h0']
      iterate 4
        (repeat ((with_reducible refine And.intro ?_ ?_); (focus (exact zS))))
        refine GdD.mk _ (fun hg => by simp only [↓sxd, sxu, ↓exP, ↓exq, Nat.reduceBEq, hg]; (all_goals try exact zF)) ?_
        simp only [↓sxd, sxu, ↓zC, zK, Nat.reduceBEq, Nat.reduceLT]
      (repeat ((with_reducible refine And.intro ?_ ?_); (focus (exact zS))))
      refine GdD.mk (B (lk.isSome && (lk.getD 0 != -1))) (fun hg => by
        simp only [sxu, ↓exP, ↓exq, ↓zH, Nat.reduceBEq, hg]
        (repeat ((with_reducible refine And.intro ?_ ?_); (focus (exact zS))))
        generalize lk.isSome = q1
        generalize (lk.getD 0 != -1) = q2
        cases q1 <;> cases q2 <;> exact ⟨rfl, rfl, rfl⟩) ?_
      try simp only [↓sxd, sxu, ↓zC, zK, ↓exq, ↓zH, Nat.reduceBEq, Nat.reduceLT]
      (all_goals try exact zF)) ?_
  refine Tr.ret ?_
  (refine ⟨.inr rfl, ?_⟩; first | rfl | exact ⟨rfl, rfl, trivial⟩ | exact ⟨rfl, rfl, rfl, trivial⟩ | (simp only [Res, ResL, ResOK, ↓sxd, sxu, ↓zE, ↓zC, zK, ↓exP, ↓exq, ↓zB, ↓zH, ↓zL, ↓zJ, ↓zD, ↓zN, ↓zI, ↓zA, ↓z0, Nat.reduceBEq, Nat.reduceAdd, Nat.reduceLT, Nat.reduceMul, Nat.reduceSub, Nat.reduceLeDiff, Nat.reduceEqDiff, Int.reduceLE, Int.reduceLT, Int.reduceToNat, reduceIte, sxe, xC]; (repeat' (first | rfl | exact trivial | exact fun h => h | exact fun h => (by rw [h]; rfl) | apply And.intro | omega | exact Nat.le_of_ble_eq_true rfl))))
def Coding.tried (c : Coding) : Int := if c.check ≠ 0 then c.check else if c.goes c.root.2 0 e000 then 0 else 9
def Coding.triedS (c : Coding) : SV := if c.tried = 0 then c.sv c.root.2 else .agg [.dx [], .dx [], .d (.lit (.map none))]
abbrev yN := And.intro ty.sz0 <| And.intro ty.agg0 <| And.intro ty.elem0 <| And.intro ty.sz4 <| And.intro ty.agg4 <| And.intro ty.elem4 <| And.intro ty.zero4 <| And.intro ty.und4 <| And.intro ty.sz31 <| And.intro ty.agg31 <| And.intro ty.elem31 <| And.intro ty.zero31 <| And.intro ty.und31 <| And.intro ty.sz59 <| And.intro ty.agg59 <| And.intro ty.fld59_0 <| And.intro ty.fld59_1 <| And.intro ty.elem59 <| And.intro ty.zero59 <| And.intro ty.pl59 <| And.intro ty.sz122 <| And.intro ty.agg122 <| And.intro ty.fld122_0 <| And.intro ty.fld122_1 <| And.intro ty.elem122 <| And.intro ty.zero122 <| And.intro ty.pl122 <| And.intro ty.sz128 <| And.intro ty.agg128 <| And.intro ty.fld128_0 <| And.intro ty.fld128_1 <| And.intro ty.elem128 <| And.intro ty.zero128 <| ty.pl128
theorem ctried_c (c : Coding) (hs : c.codes.length < 4611686018427387904) (hw : c.wrong.length < 4611686018427387904) : CallP Tryd.prog G0 73 [c.s] (.tup [c.triedS, I c.tried]) := by
  refine CallP.body 20 [.cell 2 122, .tmp 3] Tryd.func73 (by kernel_rfl) rfl rfl rfl zP (Pure.tup (fa_cons (by unfold Coding.triedS; split <;> exact Pure.agg zP) zP)) ?_
  refine Tr.reg [1, 2] (by
      simp only [↓sxd, sxu, ↓zE, ↓exq, ↓zM, ↓zI, Nat.reduceBEq, Nat.reduceAdd, Nat.reduceLT, Nat.reduceEqDiff, yN]
      (all_goals try exact zF)) ?_
  refine Tr.seq ?_
  refine Tr.reg [1, 2, 4] (by
      simp only [↓sxd, sxu, ↓zE, ↓exq, ↓zD, Nat.reduceBEq, Nat.reduceAdd, Nat.reduceLT, yN]
      (repeat ((with_reducible refine And.intro ?_ ?_); (focus (exact zS))))
      refine CallO.use (CheckCoding_c c hs hw) ?_
      try simp only [↓sxd, sxu, ↓zE, ↓exq, Nat.reduceBEq, Nat.reduceLT]
      (all_goals try exact zF)) ?_
  refine Tr.reg [1, 2, 4, 9] (by
      simp only [↓sxd, sxu, ↓zE, ↓exq, Nat.reduceBEq, Nat.reduceLT]
      (all_goals try exact zF)) ?_
  refine Tr.cond rfl (fun h9 => ?_) (fun h9 => ?_)
  · have hk : c.check ≠ 0 := by simpa using h9
    have ht : c.tried = c.check := if_pos hk
    rw [show c.triedS = .agg [.dx [], .dx [], .d (.lit (.map none))] from if_neg (by rw [ht]; exact hk), ht]
    refine Tr.reg [2, 3] (by
        simp only [↓sxd, sxu, ↓zE, ↓exq, ↓zO, Nat.reduceBEq, Nat.reduceAdd, Nat.reduceLT, Nat.reduceEqDiff, yN]
        (all_goals try exact zF)) ?_
    refine Tr.ret ?_
    (refine ⟨.inr rfl, ?_⟩; first | rfl | exact ⟨rfl, rfl, trivial⟩ | exact ⟨rfl, rfl, rfl, trivial⟩ | (simp only [Res, ResL, ResOK, sxu, ↓zD, Nat.reduceBEq, Nat.reduceAdd, Nat.reduceLT, yN]; (repeat' (first | rfl | exact trivial | exact fun h => h | exact fun h => (by rw [h]; rfl) | apply And.intro | omega | exact Nat.le_of_ble_eq_true rfl))))
  · have hk : c.check = 0 := by simpa using h9
    obtain ⟨hok, hn0, hc0⟩ := coding_ok hk
    have ht : c.tried = if c.goes c.root.2 0 e000 then 0 else 9 := if_neg (fun h => h hk)
    refine Tr.skip ?_
    refine Tr.reg [2, 5] (by
        simp only [↓sxd, sxu, ↓zE, ↓exq, ↓zD, Nat.reduceBEq, Nat.reduceAdd, Nat.reduceLT, yN]
        (repeat ((with_reducible refine And.intro ?_ ?_); (focus (exact zS))))
        refine CallO.use (solve_c c hok hn0) ?_
        try simp only [↓sxd, sxu, ↓zE, ↓exq, ↓zM, Nat.reduceBEq, Nat.reduceAdd, Nat.reduceLT, Nat.reduceEqDiff, yN]
        (all_goals try exact zF)) ?_
    refine Tr.seq ?_
    refine Tr.reg [2, 5, 17] (by
        simp only [↓sxd, sxu, ↓zE, ↓exq, ↓zD, ↓zO, Nat.reduceBEq, Nat.reduceAdd, Nat.reduceLT, yN]
        (repeat ((with_reducible refine And.intro ?_ ?_); (focus (exact zS))))
        refine CallO.use (goes_c c hn0 c.root.2 0 0 0 0) ?_
        try simp only [↓sxd, sxu, ↓zE, ↓exq, ↓zL, Nat.reduceBEq, Nat.reduceLT]
        (all_goals try exact zF)) ?_
    refine Tr.cond rfl (fun h17 => ?_) (fun h17 => ?_)
    · have hg : c.goes c.root.2 0 e000 = false := by simpa using h17
      have ht2 : c.tried = 9 := by rw [ht, hg]; rfl
      rw [show c.triedS = .agg [.dx [], .dx [], .d (.lit (.map none))] from if_neg (by rw [ht2]; decide), ht2]
      refine Tr.reg [2, 3] (by
          simp only [↓sxd, sxu, ↓zE, ↓exq, ↓zO, Nat.reduceBEq, Nat.reduceAdd, Nat.reduceLT, Nat.reduceEqDiff, yN]
          (all_goals try exact zF)) ?_
      refine Tr.ret ?_
      (refine ⟨.inr rfl, ?_⟩; first | rfl | exact ⟨rfl, rfl, trivial⟩ | exact ⟨rfl, rfl, rfl, trivial⟩ | (simp only [Res, ResL, ResOK, sxu, ↓zD, Nat.reduceBEq, Nat.reduceAdd, Nat.reduceLT, yN]; (repeat' (first | rfl | exact trivial | exact fun h => h | exact fun h => (by rw [h]; rfl) | apply And.intro | omega | exact Nat.le_of_ble_eq_true rfl))))
    · have hg : c.goes c.root.2 0 e000 = true := by simpa using h17
      have ht2 : c.tried = 0 := by rw [ht, hg]; rfl
      rw [show c.triedS = c.sv c.root.2 from if_pos ht2, ht2]
      refine Tr.skip ?_
      refine Tr.reg [2, 3] (by
          simp only [↓sxd, sxu, ↓zE, ↓exq, ↓zD, Nat.reduceBEq, Nat.reduceAdd, Nat.reduceLT, Nat.reduceEqDiff, yN]
          (all_goals try exact zF)) ?_
      refine Tr.ret ?_
      (refine ⟨.inr rfl, ?_⟩; first | rfl | exact ⟨rfl, rfl, trivial⟩ | exact ⟨rfl, rfl, rfl, trivial⟩ | (simp only [Res, ResL, ResOK, sxu, ↓zD, Nat.reduceBEq, Nat.reduceAdd, Nat.reduceLT, yN]; (repeat' (first | rfl | exact trivial | exact fun h => h | exact fun h => (by rw [h]; rfl) | apply And.intro | omega | exact Nat.le_of_ble_eq_true rfl))))
def Coding.errorsS (c : Coding) : Int × Int := if c.tried = 0 then ((c.root.2.lookup (keyOf 0 e000)).getD 0, 0) else (0, c.tried)
theorem ctried_ok {c : Coding} (hs : c.codes.length < 4611686018427387904) (hw : c.wrong.length < 4611686018427387904) (h0 : c.tried = 0) : CallP Tryd.prog G0 73 [c.s] (.tup [c.sv c.root.2, I 0]) := by
  have hT := ctried_c c hs hw
  rwa [show c.triedS = c.sv c.root.2 from if_pos h0, h0] at hT
theorem ctried_err {c : Coding} (hs : c.codes.length < 4611686018427387904) (hw : c.wrong.length < 4611686018427387904) (h0 : c.tried ≠ 0) : CallP Tryd.prog G0 73 [c.s] (.tup [.agg [.dx [], .dx [], .d (.lit (.map none))], I c.tried]) := by
  have hT := ctried_c c hs hw
  rwa [show c.triedS = .agg [.dx [], .dx [], .d (.lit (.map none))] from if_neg h0] at hT
abbrev yU := And.intro ty.sz0 <| And.intro ty.agg0 <| And.intro ty.elem0 <| And.intro ty.sz3 <| And.intro ty.agg3 <| And.intro ty.elem3 <| And.intro ty.zero3 <| And.intro ty.und3 <| And.intro ty.sz4 <| And.intro ty.agg4 <| And.intro ty.elem4 <| And.intro ty.zero4 <| And.intro ty.und4 <| And.intro ty.sz31 <| And.intro ty.agg31 <| And.intro ty.elem31 <| And.intro ty.zero31 <| And.intro ty.und31 <| And.intro ty.sz59 <| And.intro ty.agg59 <| And.intro ty.fld59_0 <| And.intro ty.fld59_1 <| And.intro ty.elem59 <| And.intro ty.zero59 <| And.intro ty.pl59 <| And.intro ty.sz120 <| And.intro ty.agg120 <| And.intro ty.elem120 <| And.intro ty.zero120 <| And.intro ty.sz122 <| And.intro ty.agg122 <| And.intro ty.fld122_0 <| And.intro ty.fld122_1 <| And.intro ty.elem122 <| And.intro ty.zero122 <| And.intro ty.pl122 <| And.intro ty.sz123 <| And.intro ty.agg123 <| And.intro ty.elem123 <| And.intro ty.sz128 <| And.intro ty.agg128 <| And.intro ty.fld128_0 <| And.intro ty.fld128_1 <| And.intro ty.elem128 <| And.intro ty.zero128 <| ty.pl128
theorem Errors_ok (c : Coding) (hs : c.codes.length < 4611686018427387904) (hw : c.wrong.length < 4611686018427387904) (h0 : c.tried = 0) : CallP Tryd.prog G0 39 [c.s] (.tup [I ((c.root.2.lookup (keyOf 0 e000)).getD 0), I 0]) := by
  obtain ⟨lk, hlk⟩ : ∃ lk, lk = c.root.2.lookup ((0 : Int), (0 : Int), (0 : Int), (0 : Int)) := ⟨_, rfl⟩
  have hlk2 : c.root.2.lookup (keyOf 0 e000) = lk := hlk.symm
  rw [hlk2]
  refine CallP.body 18 [.tmp 2, .tmp 3] Tryd.func39 (by kernel_rfl) rfl rfl rfl zP zP ?_
  refine Tr.reg [1] (by
      simp only [↓sxd, sxu, ↓zE, ↓exq, ↓zI, Nat.reduceBEq, Nat.reduceAdd, Nat.reduceLT, Nat.reduceEqDiff]
      (all_goals try exact zF)) ?_
  refine Tr.reg [4, 5] (by
      simp only [↓sxd, sxu, ↓zE, ↓exq, ↓zD, Nat.reduceAdd, Nat.reduceLT, yU]
      (repeat ((with_reducible refine And.intro ?_ ?_); (focus (exact zS))))
      refine CallO.use (ctried_ok hs hw h0) ?_
      try simp only [↓sxd, sxu, ↓zE, ↓exq, ↓zN, ↓zM, Nat.reduceBEq, Nat.reduceAdd, Nat.reduceLT, Nat.reduceEqDiff, yU]
      (all_goals try exact zF)) ?_
  refine Tr.seq ?_
  refine Tr.reg [4, 5, 12] (by
      simp only [↓sxd, sxu, ↓zE, ↓exq, Nat.reduceBEq, Nat.reduceLT]
      (all_goals try exact zF)) ?_
  refine Tr.cond rfl (fun h12 => ?_) (fun h12 => ?_)
  · simp at h12
  · refine Tr.skip ?_
    refine Tr.reg [2, 3] (by
        simp only [↓sxd, sxu, ↓zE, ↓exq, ↓zD, ↓zO, ↓zA, ↓z0, Nat.reduceBEq, Nat.reduceAdd, Nat.reduceLT, Nat.reduceEqDiff, yU, dm_mm, mm_find, mm_ok, mz120, ← hlk, opt_I]
        (all_goals try exact zF)) ?_
    refine Tr.ret ?_
    (refine ⟨.inr rfl, ?_⟩; first | rfl | exact ⟨rfl, rfl, trivial⟩ | exact ⟨rfl, rfl, rfl, trivial⟩ | (simp only [Res, ResL, ResOK, ↓sxd, sxu, ↓zE, ↓zC, zK, ↓exP, ↓exq, ↓zB, ↓zL, ↓zD, ↓zN, ↓zM, ↓zI, ↓zO, ↓zA, ↓z0, Nat.reduceBEq, Nat.reduceAdd, Nat.reduceLT, Nat.reduceMul, Nat.reduceSub, Nat.reduceLeDiff, Nat.reduceEqDiff, Int.reduceLE, Int.reduceLT, Int.reduceToNat, reduceIte, sxe, yU]; (repeat' (first | rfl | exact trivial | exact fun h => h | exact fun h => (by rw [h]; rfl) | apply And.intro | omega | exact Nat.le_of_ble_eq_true rfl))))
theorem Errors_err (c : Coding) (hs : c.codes.length < 4611686018427387904) (hw : c.wrong.length < 4611686018427387904) (h0 : c.tried ≠ 0) : CallP Tryd.prog G0 39 [c.s] (.tup [I 0, I c.tried]) := by
  refine CallP.body 18 [.tmp 2, .tmp 3] Tryd.func39 (by kernel_rfl) rfl rfl rfl zP zP ?_
  refine Tr.reg [1] (by
      simp only [↓sxd, sxu, ↓zE, ↓exq, ↓zI, Nat.reduceBEq, Nat.reduceAdd, Nat.reduceLT, Nat.reduceEqDiff]
      (all_goals try exact zF)) ?_
  refine Tr.reg [4, 5] (by
      simp only [↓sxd, sxu, ↓zE, ↓exq, ↓zD, Nat.reduceAdd, Nat.reduceLT, yU]
      (repeat ((with_reducible refine And.intro ?_ ?_); (focus (exact zS))))
      refine CallO.use (ctried_err hs hw h0) ?_
      try simp only [↓sxd, sxu, ↓zE, ↓exq, ↓zN, ↓zM, Nat.reduceBEq, Nat.reduceAdd, Nat.reduceLT, Nat.reduceEqDiff, yU]
      (all_goals try exact zF)) ?_
  refine Tr.seq ?_
  refine Tr.reg [4, 5, 12] (by
      simp only [↓sxd, sxu, ↓zE, ↓exq, Nat.reduceBEq, Nat.reduceLT]
      (all_goals try exact zF)) ?_
  refine Tr.cond rfl (fun h12 => ?_) (fun h12 => ?_)
  · refine Tr.reg [2, 3] (by
        simp only [↓sxd, sxu, ↓zE, ↓exq, Nat.reduceBEq, Nat.reduceLT]
        (all_goals try exact zF)) ?_
    refine Tr.ret ?_
    (refine ⟨.inr rfl, ?_⟩; first | rfl | exact ⟨rfl, rfl, trivial⟩ | exact ⟨rfl, rfl, rfl, trivial⟩ | (simp only [Res, ResL, ResOK, ↓sxd, sxu, ↓zE, ↓zC, zK, ↓exP, ↓exq, ↓zB, ↓zL, ↓zD, ↓zN, ↓zM, ↓zI, ↓zO, ↓zA, ↓z0, Nat.reduceBEq, Nat.reduceAdd, Nat.reduceLT, Nat.reduceMul, Nat.reduceSub, Nat.reduceLeDiff, Nat.reduceEqDiff, Int.reduceLE, Int.reduceLT, Int.reduceToNat, reduceIte, sxe, yU]; (repeat' (first | rfl | exact trivial | exact fun h => h | exact fun h => (by rw [h]; rfl) | apply And.intro | omega | exact Nat.le_of_ble_eq_true rfl))))
  · exact absurd (by simpa using h12) h0
theorem Errors_c (c : Coding) (hs : c.codes.length < 4611686018427387904) (hw : c.wrong.length < 4611686018427387904) : CallP Tryd.prog G0 39 [c.s] (.tup [I c.errorsS.1, I c.errorsS.2]) := by
  unfold Coding.errorsS
  by_cases h : c.tried = 0
  · rw [if_pos h]; exact Errors_ok c hs hw h
  · rw [if_neg h]; exact Errors_err c hs hw h
end Go.Proofs.YtcnkbdfkjhlbiaaDoor
