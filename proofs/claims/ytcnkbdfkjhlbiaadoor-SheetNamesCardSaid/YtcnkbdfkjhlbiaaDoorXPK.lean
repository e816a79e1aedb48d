/- Lemmas, part XPK. Conditions: none. -/
import Derived.Test.YtcnkbdfkjhlbiaaDoorXPI
set_option linter.unusedVariables false
namespace Go.Proofs.YtcnkbdfkjhlbiaaDoor
open Go.Sy
set_option maxRecDepth 4000
def idxOf {α : Type} (p : α → Bool) (l : List α) : Int := match l.findIdx? p with | some i => i | none => -1
theorem idx_hit {α : Type} {p : α → Bool} {l : List α} {d : α} {i : Nat} (h : i < l.length) (hp : p (l.getD i d) = true) (hb : ∀ j, j < i → p (l.getD j d) = false) : (i : Int) = idxOf p l := by
  have e : ∀ j (hj : j < l.length), l.getD j d = l[j] := fun j hj => by simp [List.getD_eq_getElem?_getD, hj]
  have : l.findIdx? p = some i := by
    rw [List.findIdx?_eq_some_iff_getElem]
    refine ⟨h, by rw [← e i h]; exact hp, fun j hj => ?_⟩
    rw [← e j (by omega), hb j hj]; decide
  simp [idxOf, this]
theorem idx_miss {α : Type} {p : α → Bool} {l : List α} {d : α} (hb : ∀ j, j < l.length → p (l.getD j d) = false) : (-1 : Int) = idxOf p l := by
  have e : ∀ j (hj : j < l.length), l.getD j d = l[j] := fun j hj => by simp [List.getD_eq_getElem?_getD, hj]
  have : l.findIdx? p = none := by
    rw [List.findIdx?_eq_none_iff]
    intro x hx
    obtain ⟨j, hj, rfl⟩ := List.getElem_of_mem hx
    rw [← e j hj]; exact hb j hj
  simp [idxOf, this]
theorem idx_any {α : Type} (p : α → Bool) (l : List α) : decide (idxOf p l ≥ 0) = l.any p := by
  unfold idxOf
  cases h : l.findIdx? p with
  | none =>
    rw [List.findIdx?_eq_none_iff] at h
    have : l.any p = false := by simpa using h
    rw [this]; decide
  | some i =>
    rw [List.findIdx?_eq_some_iff_getElem] at h
    obtain ⟨h1, h2, _⟩ := h
    have : l.any p = true := List.any_eq_true.2 ⟨_, List.getElem_mem h1, h2⟩
    rw [this]; simp
theorem any_all {α : Type} (p : α → Bool) (l : List α) : (!l.any fun x => !p x) = l.all p := by
  induction l with
  | nil => rfl
  | cons x l ih => simp only [List.any_cons, List.all_cons, Bool.not_or, Bool.not_not, ih]
theorem getD_mem {α : Type} {l : List α} {i : Nat} {d : α} (h : i < l.length) : l.getD i d ∈ l := by
  rw [List.getD_eq_getElem?_getD, List.getElem?_eq_getElem h]; exact List.getElem_mem h
abbrev xR := And.intro ty.sz0 <| And.intro ty.agg0 <| And.intro ty.elem0 <| And.intro ty.sz3 <| And.intro ty.agg3 <| And.intro ty.elem3 <| And.intro ty.zero3 <| And.intro ty.und3 <| And.intro ty.sz4 <| And.intro ty.agg4 <| And.intro ty.elem4 <| And.intro ty.zero4 <| And.intro ty.und4 <| And.intro ty.sz114 <| And.intro ty.agg114 <| And.intro ty.elem114 <| And.intro ty.zero114 <| And.intro ty.und114 <| And.intro ty.sz142 <| And.intro ty.agg142 <| And.intro ty.elem142 <| And.intro ty.by142 <| And.intro ty.ez142 <| And.intro ty.zero142 <| And.intro ty.und142 <| And.intro ty.sz147 <| And.intro ty.agg147 <| And.intro ty.elem147 <| ty.zero147
theorem indexU_c (p : Nat → Bool) (l : List (Nat)) (hl : l.length < 4611686018427387904) (fid : FuncId) (first cap : List SV) (h1 : ∀ c ∈ first, Pure c) (h2 : ∀ c ∈ cap, Pure c) (hp : ∀ x ∈ l, CallP Tryd.prog G0 fid (first ++ [U (x : Nat)] ++ cap) (B (p x))) : CallP Tryd.prog G0 115 [SU l, .clo (.func fid) first cap] (I (idxOf p l)) := by
  refine CallP.body 19 [.tmp 4] Tryd.func115 (by kernel_rfl) rfl rfl rfl zP zP ?_
  refine Tr.reg [0, 1] (by
      simp only [↓sxd, sxu, ↓zE, ↓exq, Nat.reduceBEq, Nat.reduceAdd, Nat.reduceLT]
      (all_goals try exact zF)) ?_
  refine Tr.seq ?_
  refine Tr.reg [0, 1, 7, 8] (by
      simp only [↓sxd, sxu, ↓zE, ↓exq, ↓zB, ↓zJ, Nat.reduceBEq, Nat.reduceLT, sxe, xR]
      (all_goals try exact zF)) ?_
  refine Tr.imp (st' := ⟨[(0, SU l), (1, .clo (.func fid) first cap), (7, I l.length), (8, I 0)], [], 0, 19, [], 0⟩) (Imp.keepAll) (Tr.block (Tr.loopI (fun mm ss => ∃ (i : Nat), (i ≤ l.length ∧ ∀ j, j < i → p (l.getD j 0) = false) ∧ l.length - i = mm ∧ ss = ⟨[(0, SU l), (1, .clo (.func fid) first cap), (7, I l.length), (8, I i)], [], 0, 19, [], 0⟩) _ ⟨0, ?_, rfl, rfl⟩ ?_))
  · exact ⟨Nat.zero_le _, fun j hj => absurd hj (by omega)⟩
  rintro mm ss ⟨i, hI, rfl, rfl⟩
  obtain ⟨hi, hb⟩ := hI
  refine Tr.reg [0, 1, 7, 8, 9] (by
      simp only [↓sxd, sxu, ↓zE, ↓exq, Nat.reduceBEq, Nat.reduceLT, sxe]
      (all_goals try exact zF)) ?_
  refine Tr.seq ?_
  refine Tr.cond rfl (fun h9 => ?_) (fun h9 => ?_)
  · have hlt : i < l.length := by simpa using h9
    refine Tr.skip ?_
    refine Tr.seq ?_
    refine Tr.block ?_
    refine Tr.reg [0, 1, 5, 7, 8] (by
        simp only [↓sxd, sxu, ↓zE, ↓exq, Nat.reduceBEq, Nat.reduceLT]
        (all_goals try exact zF)) ?_
    refine Tr.reg [0, 1, 5, 7, 8, 16] (by
        simp only [↓sxd, sxu, ↓zE, ↓exq, ↓zD, Nat.reduceBEq, Nat.reduceLT, sxe, xR, hlt]
        (repeat ((with_reducible refine And.intro ?_ ?_); (focus (exact zS))))
        refine CallO.use (hp (l.getD i 0) (getD_mem hlt)) ?_
        try simp only [↓sxd, sxu, Nat.reduceBEq]
        (all_goals try exact zF)) ?_
    refine Tr.cond rfl (fun h16 => ?_) (fun h16 => ?_)
    · have hq := h16
      refine Tr.reg [4] (by
          simp only [↓sxd, sxu, ↓zE, ↓exq, Nat.reduceBEq, Nat.reduceLT]
          (all_goals try exact zF)) ?_
      refine Tr.ret ?_
      exact ⟨.inr rfl, congrArg (fun n => some (I n)) (idx_hit hlt h16 hb)⟩
    · have hq := h16
      refine Tr.skip ?_
      have w1 : IntKind.i64.wrap ((i : Int) + 1) = ((i + 1 : Nat) : Int) := by rw [wr (by omega) (by omega)]; rfl
      refine Tr.reg1 [0, 1, 7, 8] (by
          simp only [↓sxd, sxu, ↓zE, ↓exq, Nat.reduceBEq, Nat.reduceLT, w1]
          (all_goals try exact zF)) ?_
      refine ⟨_, _, ?_, Imp.keepAll, ⟨i + 1, ⟨hlt, fun j hj => ?_⟩, rfl, rfl⟩⟩
      · omega
      · by_cases hj2 : j < i
        · exact hb j hj2
        · have : j = i := by omega
          subst this; exact h16
  · have hge : i = l.length := by simp at h9; omega
    refine Tr.exit ?_
    refine Tr.reg [4] (by
        simp only [↓sxd, sxu, ↓zE, ↓exq, Nat.reduceLT]
        (all_goals try exact zF)) ?_
    refine Tr.ret ?_
    exact ⟨.inr rfl, congrArg (fun n => some (I n)) (idx_miss (by subst hge; exact hb))⟩
abbrev xS := And.intro ty.sz0 <| And.intro ty.agg0 <| And.intro ty.elem0 <| And.intro ty.sz3 <| And.intro ty.agg3 <| And.intro ty.elem3 <| And.intro ty.zero3 <| And.intro ty.und3 <| And.intro ty.sz4 <| And.intro ty.agg4 <| And.intro ty.elem4 <| And.intro ty.zero4 <| And.intro ty.und4 <| And.intro ty.sz39 <| And.intro ty.agg39 <| And.intro ty.elem39 <| And.intro ty.by39 <| And.intro ty.ez39 <| And.intro ty.zero39 <| And.intro ty.und39 <| And.intro ty.sz43 <| And.intro ty.agg43 <| And.intro ty.elem43 <| And.intro ty.by43 <| And.intro ty.ez43 <| And.intro ty.zero43 <| And.intro ty.und43 <| And.intro ty.sz135 <| And.intro ty.agg135 <| And.intro ty.elem135 <| ty.zero135
theorem indexL_c (p : List Int → Bool) (l : List (List Int)) (hl : l.length < 4611686018427387904) (fid : FuncId) (first cap : List SV) (h1 : ∀ c ∈ first, Pure c) (h2 : ∀ c ∈ cap, Pure c) (hp : ∀ x ∈ l, CallP Tryd.prog G0 fid (first ++ [SI x] ++ cap) (B (p x))) : CallP Tryd.prog G0 125 [SL l, .clo (.func fid) first cap] (I (idxOf p l)) := by
  refine CallP.body 19 [.tmp 4] Tryd.func125 (by kernel_rfl) rfl rfl rfl zP zP ?_
  refine Tr.reg [0, 1] (by
      simp only [↓sxd, sxu, ↓zE, ↓exq, Nat.reduceBEq, Nat.reduceAdd, Nat.reduceLT]
      (all_goals try exact zF)) ?_
  refine Tr.seq ?_
  refine Tr.reg [0, 1, 7, 8] (by
      simp only [↓sxd, sxu, ↓zE, ↓exq, ↓zB, ↓zJ, Nat.reduceBEq, Nat.reduceLT, sxe, xS]
      (all_goals try exact zF)) ?_
  refine Tr.imp (st' := ⟨[(0, SL l), (1, .clo (.func fid) first cap), (7, I l.length), (8, I 0)], [], 0, 19, [], 0⟩) (Imp.keepAll) (Tr.block (Tr.loopI (fun mm ss => ∃ (i : Nat), (i ≤ l.length ∧ ∀ j, j < i → p (l.getD j []) = false) ∧ l.length - i = mm ∧ ss = ⟨[(0, SL l), (1, .clo (.func fid) first cap), (7, I l.length), (8, I i)], [], 0, 19, [], 0⟩) _ ⟨0, ?_, rfl, rfl⟩ ?_))
  · exact ⟨Nat.zero_le _, fun j hj => absurd hj (by omega)⟩
  rintro mm ss ⟨i, hI, rfl, rfl⟩
  obtain ⟨hi, hb⟩ := hI
  refine Tr.reg [0, 1, 7, 8, 9] (by
      simp only [↓sxd, sxu, ↓zE, ↓exq, Nat.reduceBEq, Nat.reduceLT, sxe]
      (all_goals try exact zF)) ?_
  refine Tr.seq ?_
  refine Tr.cond rfl (fun h9 => ?_) (fun h9 => ?_)
  · have hlt : i < l.length := by simpa using h9
    refine Tr.skip ?_
    refine Tr.seq ?_
    refine Tr.block ?_
    refine Tr.reg [0, 1, 5, 7, 8] (by
        simp only [↓sxd, sxu, ↓zE, ↓exq, Nat.reduceBEq, Nat.reduceLT]
        (all_goals try exact zF)) ?_
    refine Tr.reg [0, 1, 5, 7, 8, 16] (by
        simp only [↓sxd, sxu, ↓zE, ↓exq, ↓zD, Nat.reduceBEq, Nat.reduceLT, sxe, xS, hlt]
        (repeat ((with_reducible refine And.intro ?_ ?_); (focus (exact zS))))
        refine CallO.use (hp (l.getD i []) (getD_mem hlt)) ?_
        try simp only [↓sxd, sxu, Nat.reduceBEq]
        (all_goals try exact zF)) ?_
    refine Tr.cond rfl (fun h16 => ?_) (fun h16 => ?_)
    · have hq := h16
      refine Tr.reg [4] (by
          simp only [↓sxd, sxu, ↓zE, ↓exq, Nat.reduceBEq, Nat.reduceLT]
          (all_goals try exact zF)) ?_
      refine Tr.ret ?_
      exact ⟨.inr rfl, congrArg (fun n => some (I n)) (idx_hit hlt h16 hb)⟩
    · have hq := h16
      refine Tr.skip ?_
      have w1 : IntKind.i64.wrap ((i : Int) + 1) = ((i + 1 : Nat) : Int) := by rw [wr (by omega) (by omega)]; rfl
      refine Tr.reg1 [0, 1, 7, 8] (by
          simp only [↓sxd, sxu, ↓zE, ↓exq, Nat.reduceBEq, Nat.reduceLT, w1]
          (all_goals try exact zF)) ?_
      refine ⟨_, _, ?_, Imp.keepAll, ⟨i + 1, ⟨hlt, fun j hj => ?_⟩, rfl, rfl⟩⟩
      · omega
      · by_cases hj2 : j < i
        · exact hb j hj2
        · have : j = i := by omega
          subst this; exact h16
  · have hge : i = l.length := by simp at h9; omega
    refine Tr.exit ?_
    refine Tr.reg [4] (by
        simp only [↓sxd, sxu, ↓zE, ↓exq, Nat.reduceLT]
        (all_goals try exact zF)) ?_
    refine Tr.ret ?_
    exact ⟨.inr rfl, congrArg (fun n => some (I n)) (idx_miss (by subst hge; exact hb))⟩
abbrev vQ := And.intro ty.sz3 <| And.intro ty.agg3 <| And.intro ty.elem3 <| And.intro ty.zero3 <| And.intro ty.und3 <| And.intro ty.sz4 <| And.intro ty.agg4 <| And.intro ty.elem4 <| And.intro ty.zero4 <| And.intro ty.und4 <| And.intro ty.sz39 <| And.intro ty.agg39 <| And.intro ty.elem39 <| And.intro ty.by39 <| And.intro ty.ez39 <| And.intro ty.zero39 <| And.intro ty.und39 <| And.intro ty.sz135 <| And.intro ty.agg135 <| And.intro ty.elem135 <| ty.zero135
theorem containsL_c (p : List Int → Bool) (l : List (List Int)) (hl : l.length < 4611686018427387904) (fid : FuncId) (first cap : List SV) (h1 : ∀ c ∈ first, Pure c) (h2 : ∀ c ∈ cap, Pure c) (hp : ∀ x ∈ l, CallP Tryd.prog G0 fid (first ++ [SI x] ++ cap) (B (p x))) : CallP Tryd.prog G0 104 [SL l, .clo (.func fid) first cap] (B (l.any p)) := by
  refine CallP.body 9 [.tmp 4] Tryd.func104 (by kernel_rfl) rfl rfl rfl zP zP ?_
  refine Tr.reg [0, 1] (by
      simp only [↓sxd, sxu, ↓zE, ↓exq, Nat.reduceBEq, Nat.reduceAdd, Nat.reduceLT]
      (all_goals try exact zF)) ?_
  refine Tr.reg [4] (by
      simp only [↓sxd, sxu, ↓zE, ↓exq, Nat.reduceBEq, Nat.reduceLT]
      (repeat ((with_reducible refine And.intro ?_ ?_); (focus (exact zS))))
      refine CallO.use (indexL_c p l hl fid first cap h1 h2 hp) ?_
      try simp only [↓sxd, sxu, ↓zE, ↓exq, Nat.reduceLT]
      (all_goals try exact zF)) ?_
  refine Tr.ret ?_
  exact ⟨.inr rfl, congrArg (fun n => some (B n)) (idx_any p l)⟩
abbrev w3 := And.intro ty.sz4 <| And.intro ty.agg4 <| And.intro ty.elem4 <| And.intro ty.zero4 <| And.intro ty.und4 <| And.intro ty.sz43 <| And.intro ty.agg43 <| And.intro ty.elem43 <| And.intro ty.by43 <| And.intro ty.ez43 <| And.intro ty.zero43 <| And.intro ty.und43 <| And.intro ty.sz135 <| And.intro ty.agg135 <| And.intro ty.elem135 <| ty.zero135
theorem all1L_c (p : List Int → Bool) (x : List Int) (fid : FuncId) (first cap : List SV) (h1 : ∀ c ∈ first, Pure c) (h2 : ∀ c ∈ cap, Pure c) (hp : CallP Tryd.prog G0 fid (first ++ [SI x] ++ cap) (B (p x))) : CallP Tryd.prog G0 105 [SI x, .fp [.clo (.func fid) first cap]] (B (!p x)) := by
  refine CallP.body 8 [.tmp 3] Tryd.func105 (by kernel_rfl) rfl rfl rfl zP zP ?_
  refine Tr.reg [0, 1] (by
      simp only [↓sxd, sxu, ↓zE, ↓exq, Nat.reduceBEq, Nat.reduceAdd, Nat.reduceLT]
      (all_goals try exact zF)) ?_
  refine Tr.reg [3] (by
      simp only [↓sxd, sxu, ↓zE, ↓exq, ↓zD, Nat.reduceBEq, Nat.reduceLT, w3]
      (repeat ((with_reducible refine And.intro ?_ ?_); (focus (exact zS))))
      refine CallO.use (hp) ?_
      try simp only [↓sxd, sxu, ↓zE, ↓exq, ↓zL, Nat.reduceLT]
      (all_goals try exact zF)) ?_
  refine Tr.ret ?_
  (refine ⟨.inr rfl, ?_⟩; first | rfl | exact ⟨rfl, rfl, trivial⟩ | exact ⟨rfl, rfl, rfl, trivial⟩ | (simp only [Res, ResL, ResOK, ↓sxd, sxu, ↓zE, ↓zC, zK, ↓exP, ↓exq, ↓zB, ↓zL, ↓zD, Nat.reduceBEq, Nat.reduceAdd, Nat.reduceLT, Nat.reduceMul, Nat.reduceSub, Nat.reduceLeDiff, Nat.reduceEqDiff, Int.reduceLE, Int.reduceLT, Int.reduceToNat, reduceIte, sxe, w3]; (repeat' (first | rfl | exact trivial | exact fun h => h | exact fun h => (by rw [h]; rfl) | apply And.intro | omega | exact Nat.le_of_ble_eq_true rfl))))
abbrev v9 := And.intro ty.sz0 <| And.intro ty.agg0 <| And.intro ty.elem0 <| And.intro ty.sz4 <| And.intro ty.agg4 <| And.intro ty.elem4 <| And.intro ty.zero4 <| And.intro ty.und4 <| And.intro ty.sz39 <| And.intro ty.agg39 <| And.intro ty.elem39 <| And.intro ty.by39 <| And.intro ty.ez39 <| And.intro ty.zero39 <| And.intro ty.und39 <| And.intro ty.sz135 <| And.intro ty.agg135 <| And.intro ty.elem135 <| ty.zero135
theorem allL_c (p : List Int → Bool) (l : List (List Int)) (hl : l.length < 4611686018427387904) (fid : FuncId) (first cap : List SV) (h1 : ∀ c ∈ first, Pure c) (h2 : ∀ c ∈ cap, Pure c) (hp : ∀ x ∈ l, CallP Tryd.prog G0 fid (first ++ [SI x] ++ cap) (B (p x))) : CallP Tryd.prog G0 77 [SL l, .clo (.func fid) first cap] (B (l.all p)) := by
  refine CallP.body 9 [.tmp 4] Tryd.func77 (by kernel_rfl) rfl rfl rfl zP zP ?_
  refine Tr.reg [0, 3] (by
      simp only [↓sxd, sxu, ↓zE, ↓exq, ↓zI, Nat.reduceBEq, Nat.reduceAdd, Nat.reduceLT, Nat.reduceEqDiff]
      (all_goals try exact zF)) ?_
  refine Tr.reg [4] (by
      simp only [↓sxd, sxu, ↓zE, ↓exq, Nat.reduceBEq, Nat.reduceLT]
      (repeat ((with_reducible refine And.intro ?_ ?_); (focus (exact zS))))
      refine CallO.useZ [] (containsL_c (fun x => !p x) l hl 105 [] [.fp [.clo (.func fid) first cap]] zP zP (fun x hx => all1L_c p x fid first cap h1 h2 (hp x hx))) (List.nil_sublist _) zT ?_
      try simp only [↓sxd, sxu, ↓zE, ↓exq, ↓zL, Nat.reduceLT]
      (all_goals try exact zF)) ?_
  refine Tr.ret ?_
  exact ⟨.inr rfl, congrArg (fun n => some (B n)) (any_all p l)⟩
abbrev xT := And.intro ty.sz0 <| And.intro ty.agg0 <| And.intro ty.elem0 <| And.intro ty.sz3 <| And.intro ty.agg3 <| And.intro ty.elem3 <| And.intro ty.zero3 <| And.intro ty.und3 <| And.intro ty.sz4 <| And.intro ty.agg4 <| And.intro ty.elem4 <| And.intro ty.zero4 <| And.intro ty.und4 <| And.intro ty.sz43 <| And.intro ty.agg43 <| And.intro ty.elem43 <| And.intro ty.by43 <| And.intro ty.ez43 <| And.intro ty.zero43 <| And.intro ty.und43 <| And.intro ty.sz137 <| And.intro ty.agg137 <| And.intro ty.elem137 <| ty.zero137
theorem indexI_c (p : Int → Bool) (l : List (Int)) (hl : l.length < 4611686018427387904) (fid : FuncId) (first cap : List SV) (h1 : ∀ c ∈ first, Pure c) (h2 : ∀ c ∈ cap, Pure c) (hp : ∀ x ∈ l, CallP Tryd.prog G0 fid (first ++ [I x] ++ cap) (B (p x))) : CallP Tryd.prog G0 126 [SI l, .clo (.func fid) first cap] (I (idxOf p l)) := by
  refine CallP.body 19 [.tmp 4] Tryd.func126 (by kernel_rfl) rfl rfl rfl zP zP ?_
  refine Tr.reg [0, 1] (by
      simp only [↓sxd, sxu, ↓zE, ↓exq, Nat.reduceBEq, Nat.reduceAdd, Nat.reduceLT]
      (all_goals try exact zF)) ?_
  refine Tr.seq ?_
  refine Tr.reg [0, 1, 7, 8] (by
      simp only [↓sxd, sxu, ↓zE, ↓exq, ↓zB, ↓zJ, Nat.reduceBEq, Nat.reduceLT, sxe, xT]
      (all_goals try exact zF)) ?_
  refine Tr.imp (st' := ⟨[(0, SI l), (1, .clo (.func fid) first cap), (7, I l.length), (8, I 0)], [], 0, 19, [], 0⟩) (Imp.keepAll) (Tr.block (Tr.loopI (fun mm ss => ∃ (i : Nat), (i ≤ l.length ∧ ∀ j, j < i → p (l.getD j 0) = false) ∧ l.length - i = mm ∧ ss = ⟨[(0, SI l), (1, .clo (.func fid) first cap), (7, I l.length), (8, I i)], [], 0, 19, [], 0⟩) _ ⟨0, ?_, rfl, rfl⟩ ?_))
  · exact ⟨Nat.zero_le _, fun j hj => absurd hj (by omega)⟩
  rintro mm ss ⟨i, hI, rfl, rfl⟩
  obtain ⟨hi, hb⟩ := hI
  refine Tr.reg [0, 1, 7, 8, 9] (by
      simp only [↓sxd, sxu, ↓zE, ↓exq, Nat.reduceBEq, Nat.reduceLT, sxe]
      (all_goals try exact zF)) ?_
  refine Tr.seq ?_
  refine Tr.cond rfl (fun h9 => ?_) (fun h9 => ?_)
  · have hlt : i < l.length := by simpa using h9
    refine Tr.skip ?_
    refine Tr.seq ?_
    refine Tr.block ?_
    refine Tr.reg [0, 1, 5, 7, 8] (by
        simp only [↓sxd, sxu, ↓zE, ↓exq, Nat.reduceBEq, Nat.reduceLT]
        (all_goals try exact zF)) ?_
    refine Tr.reg [0, 1, 5, 7, 8, 16] (by
        simp only [↓sxd, sxu, ↓zE, ↓exq, ↓zD, Nat.reduceBEq, Nat.reduceLT, sxe, xT, hlt]
        (repeat ((with_reducible refine And.intro ?_ ?_); (focus (exact zS))))
        refine CallO.use (hp (l.getD i 0) (getD_mem hlt)) ?_
        try simp only [↓sxd, sxu, Nat.reduceBEq]
        (all_goals try exact zF)) ?_
    refine Tr.cond rfl (fun h16 => ?_) (fun h16 => ?_)
    · have hq := h16
      refine Tr.reg [4] (by
          simp only [↓sxd, sxu, ↓zE, ↓exq, Nat.reduceBEq, Nat.reduceLT]
          (all_goals try exact zF)) ?_
      refine Tr.ret ?_
      exact ⟨.inr rfl, congrArg (fun n => some (I n)) (idx_hit hlt h16 hb)⟩
    · have hq := h16
      refine Tr.skip ?_
      have w1 : IntKind.i64.wrap ((i : Int) + 1) = ((i + 1 : Nat) : Int) := by rw [wr (by omega) (by omega)]; rfl
      refine Tr.reg1 [0, 1, 7, 8] (by
          simp only [↓sxd, sxu, ↓zE, ↓exq, Nat.reduceBEq, Nat.reduceLT, w1]
          (all_goals try exact zF)) ?_
      refine ⟨_, _, ?_, Imp.keepAll, ⟨i + 1, ⟨hlt, fun j hj => ?_⟩, rfl, rfl⟩⟩
      · omega
      · by_cases hj2 : j < i
        · exact hb j hj2
        · have : j = i := by omega
          subst this; exact h16
  · have hge : i = l.length := by simp at h9; omega
    refine Tr.exit ?_
    refine Tr.reg [4] (by
        simp only [↓sxd, sxu, ↓zE, ↓exq, Nat.reduceLT]
        (all_goals try exact zF)) ?_
    refine Tr.ret ?_
    exact ⟨.inr rfl, congrArg (fun n => some (I n)) (idx_miss (by subst hge; exact hb))⟩
abbrev vR := And.intro ty.sz3 <| And.intro ty.agg3 <| And.intro ty.elem3 <| And.intro ty.zero3 <| And.intro ty.und3 <| And.intro ty.sz4 <| And.intro ty.agg4 <| And.intro ty.elem4 <| And.intro ty.zero4 <| And.intro ty.und4 <| And.intro ty.sz43 <| And.intro ty.agg43 <| And.intro ty.elem43 <| And.intro ty.by43 <| And.intro ty.ez43 <| And.intro ty.zero43 <| And.intro ty.und43 <| And.intro ty.sz137 <| And.intro ty.agg137 <| And.intro ty.elem137 <| ty.zero137
theorem containsI_c (p : Int → Bool) (l : List (Int)) (hl : l.length < 4611686018427387904) (fid : FuncId) (first cap : List SV) (h1 : ∀ c ∈ first, Pure c) (h2 : ∀ c ∈ cap, Pure c) (hp : ∀ x ∈ l, CallP Tryd.prog G0 fid (first ++ [I x] ++ cap) (B (p x))) : CallP Tryd.prog G0 106 [SI l, .clo (.func fid) first cap] (B (l.any p)) := by
  refine CallP.body 9 [.tmp 4] Tryd.func106 (by kernel_rfl) rfl rfl rfl zP zP ?_
  refine Tr.reg [0, 1] (by
      simp only [↓sxd, sxu, ↓zE, ↓exq, Nat.reduceBEq, Nat.reduceAdd, Nat.reduceLT]
      (all_goals try exact zF)) ?_
  refine Tr.reg [4] (by
      simp only [↓sxd, sxu, ↓zE, ↓exq, Nat.reduceBEq, Nat.reduceLT]
      (repeat ((with_reducible refine And.intro ?_ ?_); (focus (exact zS))))
      refine CallO.use (indexI_c p l hl fid first cap h1 h2 hp) ?_
      try simp only [↓sxd, sxu, ↓zE, ↓exq, Nat.reduceLT]
      (all_goals try exact zF)) ?_
  refine Tr.ret ?_
  exact ⟨.inr rfl, congrArg (fun n => some (B n)) (idx_any p l)⟩
abbrev w4 := And.intro ty.sz3 <| And.intro ty.agg3 <| And.intro ty.elem3 <| And.intro ty.zero3 <| And.intro ty.und3 <| And.intro ty.sz4 <| And.intro ty.agg4 <| And.intro ty.elem4 <| And.intro ty.zero4 <| And.intro ty.und4 <| And.intro ty.sz137 <| And.intro ty.agg137 <| And.intro ty.elem137 <| ty.zero137
theorem all1I_c (p : Int → Bool) (x : Int) (fid : FuncId) (first cap : List SV) (h1 : ∀ c ∈ first, Pure c) (h2 : ∀ c ∈ cap, Pure c) (hp : CallP Tryd.prog G0 fid (first ++ [I x] ++ cap) (B (p x))) : CallP Tryd.prog G0 107 [I x, .fp [.clo (.func fid) first cap]] (B (!p x)) := by
  refine CallP.body 8 [.tmp 3] Tryd.func107 (by kernel_rfl) rfl rfl rfl zP zP ?_
  refine Tr.reg [0, 1] (by
      simp only [↓sxd, sxu, ↓zE, ↓exq, Nat.reduceBEq, Nat.reduceAdd, Nat.reduceLT]
      (all_goals try exact zF)) ?_
  refine Tr.reg [3] (by
      simp only [↓sxd, sxu, ↓zE, ↓exq, ↓zD, Nat.reduceBEq, Nat.reduceLT, w4]
      (repeat ((with_reducible refine And.intro ?_ ?_); (focus (exact zS))))
      refine CallO.use (hp) ?_
      try simp only [↓sxd, sxu, ↓zE, ↓exq, ↓zL, Nat.reduceLT]
      (all_goals try exact zF)) ?_
  refine Tr.ret ?_
  (refine ⟨.inr rfl, ?_⟩; first | rfl | exact ⟨rfl, rfl, trivial⟩ | exact ⟨rfl, rfl, rfl, trivial⟩ | (simp only [Res, ResL, ResOK, ↓sxd, sxu, ↓zE, ↓zC, zK, ↓exP, ↓exq, ↓zB, ↓zL, ↓zD, Nat.reduceBEq, Nat.reduceAdd, Nat.reduceLT, Nat.reduceMul, Nat.reduceSub, Nat.reduceLeDiff, Nat.reduceEqDiff, Int.reduceLE, Int.reduceLT, Int.reduceToNat, reduceIte, sxe, w4]; (repeat' (first | rfl | exact trivial | exact fun h => h | exact fun h => (by rw [h]; rfl) | apply And.intro | omega | exact Nat.le_of_ble_eq_true rfl))))
abbrev uA := And.intro ty.sz0 <| And.intro ty.agg0 <| And.intro ty.elem0 <| And.intro ty.sz4 <| And.intro ty.agg4 <| And.intro ty.elem4 <| And.intro ty.zero4 <| And.intro ty.und4 <| And.intro ty.sz43 <| And.intro ty.agg43 <| And.intro ty.elem43 <| And.intro ty.by43 <| And.intro ty.ez43 <| And.intro ty.zero43 <| And.intro ty.und43 <| And.intro ty.sz137 <| And.intro ty.agg137 <| And.intro ty.elem137 <| ty.zero137
theorem allI_c (p : Int → Bool) (l : List (Int)) (hl : l.length < 4611686018427387904) (fid : FuncId) (first cap : List SV) (h1 : ∀ c ∈ first, Pure c) (h2 : ∀ c ∈ cap, Pure c) (hp : ∀ x ∈ l, CallP Tryd.prog G0 fid (first ++ [I x] ++ cap) (B (p x))) : CallP Tryd.prog G0 79 [SI l, .clo (.func fid) first cap] (B (l.all p)) := by
  refine CallP.body 9 [.tmp 4] Tryd.func79 (by kernel_rfl) rfl rfl rfl zP zP ?_
  refine Tr.reg [0, 3] (by
      simp only [↓sxd, sxu, ↓zE, ↓exq, ↓zI, Nat.reduceBEq, Nat.reduceAdd, Nat.reduceLT, Nat.reduceEqDiff]
      (all_goals try exact zF)) ?_
  refine Tr.reg [4] (by
      simp only [↓sxd, sxu, ↓zE, ↓exq, Nat.reduceBEq, Nat.reduceLT]
      (repeat ((with_reducible refine And.intro ?_ ?_); (focus (exact zS))))
      refine CallO.useZ [] (containsI_c (fun x => !p x) l hl 107 [] [.fp [.clo (.func fid) first cap]] zP zP (fun x hx => all1I_c p x fid first cap h1 h2 (hp x hx))) (List.nil_sublist _) zT ?_
      try simp only [↓sxd, sxu, ↓zE, ↓exq, ↓zL, Nat.reduceLT]
      (all_goals try exact zF)) ?_
  refine Tr.ret ?_
  exact ⟨.inr rfl, congrArg (fun n => some (B n)) (any_all p l)⟩
abbrev xU := And.intro ty.sz0 <| And.intro ty.agg0 <| And.intro ty.elem0 <| And.intro ty.sz3 <| And.intro ty.agg3 <| And.intro ty.elem3 <| And.intro ty.zero3 <| And.intro ty.und3 <| And.intro ty.sz4 <| And.intro ty.agg4 <| And.intro ty.elem4 <| And.intro ty.zero4 <| And.intro ty.und4 <| And.intro ty.sz34 <| And.intro ty.agg34 <| And.intro ty.elem34 <| And.intro ty.by34 <| And.intro ty.ez34 <| And.intro ty.zero34 <| And.intro ty.und34 <| And.intro ty.sz106 <| And.intro ty.agg106 <| And.intro ty.fld106_0 <| And.intro ty.fld106_1 <| And.intro ty.fld106_2 <| And.intro ty.fld106_3 <| And.intro ty.elem106 <| And.intro ty.zero106 <| And.intro ty.pl106 <| And.intro ty.sz140 <| And.intro ty.agg140 <| And.intro ty.elem140 <| ty.zero140
theorem indexE_c (p : Entry → Bool) (l : List (Entry)) (hl : l.length < 4611686018427387904) (fid : FuncId) (first cap : List SV) (h1 : ∀ c ∈ first, Pure c) (h2 : ∀ c ∈ cap, Pure c) (hp : ∀ x ∈ l, CallP Tryd.prog G0 fid (first ++ [x.s] ++ cap) (B (p x))) : CallP Tryd.prog G0 127 [SE l, .clo (.func fid) first cap] (I (idxOf p l)) := by
  refine CallP.body 19 [.tmp 4] Tryd.func127 (by kernel_rfl) rfl rfl rfl zP zP ?_
  refine Tr.reg [0, 1] (by
      simp only [↓sxd, sxu, ↓zE, ↓exq, Nat.reduceBEq, Nat.reduceAdd, Nat.reduceLT]
      (all_goals try exact zF)) ?_
  refine Tr.seq ?_
  refine Tr.reg [0, 1, 7, 8] (by
      simp only [↓sxd, sxu, ↓zE, ↓exq, ↓zB, ↓zJ, Nat.reduceBEq, Nat.reduceLT, sxe, xU]
      (all_goals try exact zF)) ?_
  refine Tr.imp (st' := ⟨[(0, SE l), (1, .clo (.func fid) first cap), (7, I l.length), (8, I 0)], [], 0, 19, [], 0⟩) (Imp.keepAll) (Tr.block (Tr.loopI (fun mm ss => ∃ (i : Nat), (i ≤ l.length ∧ ∀ j, j < i → p (l.getD j default) = false) ∧ l.length - i = mm ∧ ss = ⟨[(0, SE l), (1, .clo (.func fid) first cap), (7, I l.length), (8, I i)], [], 0, 19, [], 0⟩) _ ⟨0, ?_, rfl, rfl⟩ ?_))
  · exact ⟨Nat.zero_le _, fun j hj => absurd hj (by omega)⟩
  rintro mm ss ⟨i, hI, rfl, rfl⟩
  obtain ⟨hi, hb⟩ := hI
  refine Tr.reg [0, 1, 7, 8, 9] (by
      simp only [↓sxd, sxu, ↓zE, ↓exq, Nat.reduceBEq, Nat.reduceLT, sxe]
      (all_goals try exact zF)) ?_
  refine Tr.seq ?_
  refine Tr.cond rfl (fun h9 => ?_) (fun h9 => ?_)
  · have hlt : i < l.length := by simpa using h9
    refine Tr.skip ?_
    refine Tr.seq ?_
    refine Tr.block ?_
    refine Tr.reg [0, 1, 5, 7, 8] (by
        simp only [↓sxd, sxu, ↓zE, ↓exq, Nat.reduceBEq, Nat.reduceLT]
        (all_goals try exact zF)) ?_
    refine Tr.reg [0, 1, 5, 7, 8, 16] (by
        simp only [↓sxd, sxu, ↓zE, ↓exq, ↓zD, Nat.reduceBEq, Nat.reduceAdd, Nat.reduceLT, sxe, xU, hlt]
        (repeat ((with_reducible refine And.intro ?_ ?_); (focus (exact zS))))
        refine CallO.use (hp (l.getD i default) (getD_mem hlt)) ?_
        try simp only [↓sxd, sxu, Nat.reduceBEq]
        (all_goals try exact zF)) ?_
    refine Tr.cond rfl (fun h16 => ?_) (fun h16 => ?_)
    · have hq := h16
      refine Tr.reg [4] (by
          simp only [↓sxd, sxu, ↓zE, ↓exq, Nat.reduceBEq, Nat.reduceLT]
          (all_goals try exact zF)) ?_
      refine Tr.ret ?_
      exact ⟨.inr rfl, congrArg (fun n => some (I n)) (idx_hit hlt h16 hb)⟩
    · have hq := h16
      refine Tr.skip ?_
      have w1 : IntKind.i64.wrap ((i : Int) + 1) = ((i + 1 : Nat) : Int) := by rw [wr (by omega) (by omega)]; rfl
      refine Tr.reg1 [0, 1, 7, 8] (by
          simp only [↓sxd, sxu, ↓zE, ↓exq, Nat.reduceBEq, Nat.reduceLT, w1]
          (all_goals try exact zF)) ?_
      refine ⟨_, _, ?_, Imp.keepAll, ⟨i + 1, ⟨hlt, fun j hj => ?_⟩, rfl, rfl⟩⟩
      · omega
      · by_cases hj2 : j < i
        · exact hb j hj2
        · have : j = i := by omega
          subst this; exact h16
  · have hge : i = l.length := by simp at h9; omega
    refine Tr.exit ?_
    refine Tr.reg [4] (by
        simp only [↓sxd, sxu, ↓zE, ↓exq, Nat.reduceLT]
        (all_goals try exact zF)) ?_
    refine Tr.ret ?_
    exact ⟨.inr rfl, congrArg (fun n => some (I n)) (idx_miss (by subst hge; exact hb))⟩
abbrev vS := And.intro ty.sz3 <| And.intro ty.agg3 <| And.intro ty.elem3 <| And.intro ty.zero3 <| And.intro ty.und3 <| And.intro ty.sz4 <| And.intro ty.agg4 <| And.intro ty.elem4 <| And.intro ty.zero4 <| And.intro ty.und4 <| And.intro ty.sz34 <| And.intro ty.agg34 <| And.intro ty.elem34 <| And.intro ty.by34 <| And.intro ty.ez34 <| And.intro ty.zero34 <| And.intro ty.und34 <| And.intro ty.sz140 <| And.intro ty.agg140 <| And.intro ty.elem140 <| ty.zero140
theorem containsE_c (p : Entry → Bool) (l : List (Entry)) (hl : l.length < 4611686018427387904) (fid : FuncId) (first cap : List SV) (h1 : ∀ c ∈ first, Pure c) (h2 : ∀ c ∈ cap, Pure c) (hp : ∀ x ∈ l, CallP Tryd.prog G0 fid (first ++ [x.s] ++ cap) (B (p x))) : CallP Tryd.prog G0 108 [SE l, .clo (.func fid) first cap] (B (l.any p)) := by
  refine CallP.body 9 [.tmp 4] Tryd.func108 (by kernel_rfl) rfl rfl rfl zP zP ?_
  refine Tr.reg [0, 1] (by
      simp only [↓sxd, sxu, ↓zE, ↓exq, Nat.reduceBEq, Nat.reduceAdd, Nat.reduceLT]
      (all_goals try exact zF)) ?_
  refine Tr.reg [4] (by
      simp only [↓sxd, sxu, ↓zE, ↓exq, Nat.reduceBEq, Nat.reduceLT]
      (repeat ((with_reducible refine And.intro ?_ ?_); (focus (exact zS))))
      refine CallO.use (indexE_c p l hl fid first cap h1 h2 hp) ?_
      try simp only [↓sxd, sxu, ↓zE, ↓exq, Nat.reduceLT]
      (all_goals try exact zF)) ?_
  refine Tr.ret ?_
  exact ⟨.inr rfl, congrArg (fun n => some (B n)) (idx_any p l)⟩
abbrev w5 := And.intro ty.sz0 <| And.intro ty.agg0 <| And.intro ty.elem0 <| And.intro ty.sz4 <| And.intro ty.agg4 <| And.intro ty.elem4 <| And.intro ty.zero4 <| And.intro ty.und4 <| And.intro ty.sz106 <| And.intro ty.agg106 <| And.intro ty.fld106_0 <| And.intro ty.fld106_1 <| And.intro ty.fld106_2 <| And.intro ty.fld106_3 <| And.intro ty.elem106 <| And.intro ty.zero106 <| And.intro ty.pl106 <| And.intro ty.sz140 <| And.intro ty.agg140 <| And.intro ty.elem140 <| ty.zero140
theorem all1E_c (p : Entry → Bool) (x : Entry) (fid : FuncId) (first cap : List SV) (h1 : ∀ c ∈ first, Pure c) (h2 : ∀ c ∈ cap, Pure c) (hp : CallP Tryd.prog G0 fid (first ++ [x.s] ++ cap) (B (p x))) : CallP Tryd.prog G0 109 [x.s, .fp [.clo (.func fid) first cap]] (B (!p x)) := by
  refine CallP.body 8 [.tmp 3] Tryd.func109 (by kernel_rfl) rfl rfl rfl zP zP ?_
  refine Tr.reg [1, 2] (by
      simp only [↓sxd, sxu, ↓zE, ↓exq, ↓zI, Nat.reduceBEq, Nat.reduceAdd, Nat.reduceLT, Nat.reduceEqDiff]
      (all_goals try exact zF)) ?_
  refine Tr.reg [3] (by
      simp only [↓sxd, sxu, ↓zE, ↓exq, ↓zD, Nat.reduceBEq, Nat.reduceAdd, Nat.reduceLT, w5]
      (repeat ((with_reducible refine And.intro ?_ ?_); (focus (exact zS))))
      refine CallO.use (hp) ?_
      try simp only [↓sxd, sxu, ↓zE, ↓exq, ↓zL, Nat.reduceLT]
      (all_goals try exact zF)) ?_
  refine Tr.ret ?_
  (refine ⟨.inr rfl, ?_⟩; first | rfl | exact ⟨rfl, rfl, trivial⟩ | exact ⟨rfl, rfl, rfl, trivial⟩ | (simp only [Res, ResL, ResOK, ↓sxd, sxu, ↓zE, ↓zC, zK, ↓exP, ↓exq, ↓zB, ↓zL, ↓zD, ↓zI, Nat.reduceBEq, Nat.reduceAdd, Nat.reduceLT, Nat.reduceMul, Nat.reduceSub, Nat.reduceLeDiff, Nat.reduceEqDiff, Int.reduceLE, Int.reduceLT, Int.reduceToNat, reduceIte, sxe, w5]; (repeat' (first | rfl | exact trivial | exact fun h => h | exact fun h => (by rw [h]; rfl) | apply And.intro | omega | exact Nat.le_of_ble_eq_true rfl))))
abbrev uB := And.intro ty.sz0 <| And.intro ty.agg0 <| And.intro ty.elem0 <| And.intro ty.sz4 <| And.intro ty.agg4 <| And.intro ty.elem4 <| And.intro ty.zero4 <| And.intro ty.und4 <| And.intro ty.sz34 <| And.intro ty.agg34 <| And.intro ty.elem34 <| And.intro ty.by34 <| And.intro ty.ez34 <| And.intro ty.zero34 <| And.intro ty.und34 <| And.intro ty.sz140 <| And.intro ty.agg140 <| And.intro ty.elem140 <| ty.zero140
theorem allE_c (p : Entry → Bool) (l : List (Entry)) (hl : l.length < 4611686018427387904) (fid : FuncId) (first cap : List SV) (h1 : ∀ c ∈ first, Pure c) (h2 : ∀ c ∈ cap, Pure c) (hp : ∀ x ∈ l, CallP Tryd.prog G0 fid (first ++ [x.s] ++ cap) (B (p x))) : CallP Tryd.prog G0 83 [SE l, .clo (.func fid) first cap] (B (l.all p)) := by
  refine CallP.body 9 [.tmp 4] Tryd.func83 (by kernel_rfl) rfl rfl rfl zP zP ?_
  refine Tr.reg [0, 3] (by
      simp only [↓sxd, sxu, ↓zE, ↓exq, ↓zI, Nat.reduceBEq, Nat.reduceAdd, Nat.reduceLT, Nat.reduceEqDiff]
      (all_goals try exact zF)) ?_
  refine Tr.reg [4] (by
      simp only [↓sxd, sxu, ↓zE, ↓exq, Nat.reduceBEq, Nat.reduceLT]
      (repeat ((with_reducible refine And.intro ?_ ?_); (focus (exact zS))))
      refine CallO.useZ [] (containsE_c (fun x => !p x) l hl 109 [] [.fp [.clo (.func fid) first cap]] zP zP (fun x hx => all1E_c p x fid first cap h1 h2 (hp x hx))) (List.nil_sublist _) zT ?_
      try simp only [↓sxd, sxu, ↓zE, ↓exq, ↓zL, Nat.reduceLT]
      (all_goals try exact zF)) ?_
  refine Tr.ret ?_
  exact ⟨.inr rfl, congrArg (fun n => some (B n)) (any_all p l)⟩
abbrev xV := And.intro ty.sz0 <| And.intro ty.agg0 <| And.intro ty.elem0 <| And.intro ty.sz3 <| And.intro ty.agg3 <| And.intro ty.elem3 <| And.intro ty.zero3 <| And.intro ty.und3 <| And.intro ty.sz4 <| And.intro ty.agg4 <| And.intro ty.elem4 <| And.intro ty.zero4 <| And.intro ty.und4 <| And.intro ty.sz35 <| And.intro ty.agg35 <| And.intro ty.elem35 <| And.intro ty.by35 <| And.intro ty.ez35 <| And.intro ty.zero35 <| And.intro ty.und35 <| And.intro ty.sz104 <| And.intro ty.agg104 <| And.intro ty.fld104_0 <| And.intro ty.fld104_1 <| And.intro ty.elem104 <| And.intro ty.zero104 <| And.intro ty.pl104 <| And.intro ty.sz138 <| And.intro ty.agg138 <| And.intro ty.elem138 <| ty.zero138
theorem indexP_c (p : Pair → Bool) (l : List (Pair)) (hl : l.length < 4611686018427387904) (fid : FuncId) (first cap : List SV) (h1 : ∀ c ∈ first, Pure c) (h2 : ∀ c ∈ cap, Pure c) (hp : ∀ x ∈ l, CallP Tryd.prog G0 fid (first ++ [x.s] ++ cap) (B (p x))) : CallP Tryd.prog G0 128 [SP l, .clo (.func fid) first cap] (I (idxOf p l)) := by
  refine CallP.body 19 [.tmp 4] Tryd.func128 (by kernel_rfl) rfl rfl rfl zP zP ?_
  refine Tr.reg [0, 1] (by
      simp only [↓sxd, sxu, ↓zE, ↓exq, Nat.reduceBEq, Nat.reduceAdd, Nat.reduceLT]
      (all_goals try exact zF)) ?_
  refine Tr.seq ?_
  refine Tr.reg [0, 1, 7, 8] (by
      simp only [↓sxd, sxu, ↓zE, ↓exq, ↓zB, ↓zJ, Nat.reduceBEq, Nat.reduceLT, sxe, xV]
      (all_goals try exact zF)) ?_
  refine Tr.imp (st' := ⟨[(0, SP l), (1, .clo (.func fid) first cap), (7, I l.length), (8, I 0)], [], 0, 19, [], 0⟩) (Imp.keepAll) (Tr.block (Tr.loopI (fun mm ss => ∃ (i : Nat), (i ≤ l.length ∧ ∀ j, j < i → p (l.getD j default) = false) ∧ l.length - i = mm ∧ ss = ⟨[(0, SP l), (1, .clo (.func fid) first cap), (7, I l.length), (8, I i)], [], 0, 19, [], 0⟩) _ ⟨0, ?_, rfl, rfl⟩ ?_))
  · exact ⟨Nat.zero_le _, fun j hj => absurd hj (by omega)⟩
  rintro mm ss ⟨i, hI, rfl, rfl⟩
  obtain ⟨hi, hb⟩ := hI
  refine Tr.reg [0, 1, 7, 8, 9] (by
      simp only [↓sxd, sxu, ↓zE, ↓exq, Nat.reduceBEq, Nat.reduceLT, sxe]
      (all_goals try exact zF)) ?_
  refine Tr.seq ?_
  refine Tr.cond rfl (fun h9 => ?_) (fun h9 => ?_)
  · have hlt : i < l.length := by simpa using h9
    refine Tr.skip ?_
    refine Tr.seq ?_
    refine Tr.block ?_
    refine Tr.reg [0, 1, 5, 7, 8] (by
        simp only [↓sxd, sxu, ↓zE, ↓exq, Nat.reduceBEq, Nat.reduceLT]
        (all_goals try exact zF)) ?_
    refine Tr.reg [0, 1, 5, 7, 8, 16] (by
        simp only [↓sxd, sxu, ↓zE, ↓exq, ↓zD, Nat.reduceBEq, Nat.reduceAdd, Nat.reduceLT, sxe, xV, hlt]
        (repeat ((with_reducible refine And.intro ?_ ?_); (focus (exact zS))))
        refine CallO.use (hp (l.getD i default) (getD_mem hlt)) ?_
        try simp only [↓sxd, sxu, Nat.reduceBEq]
        (all_goals try exact zF)) ?_
    refine Tr.cond rfl (fun h16 => ?_) (fun h16 => ?_)
    · have hq := h16
      refine Tr.reg [4] (by
          simp only [↓sxd, sxu, ↓zE, ↓exq, Nat.reduceBEq, Nat.reduceLT]
          (all_goals try exact zF)) ?_
      refine Tr.ret ?_
      exact ⟨.inr rfl, congrArg (fun n => some (I n)) (idx_hit hlt h16 hb)⟩
    · have hq := h16
      refine Tr.skip ?_
      have w1 : IntKind.i64.wrap ((i : Int) + 1) = ((i + 1 : Nat) : Int) := by rw [wr (by omega) (by omega)]; rfl
      refine Tr.reg1 [0, 1, 7, 8] (by
          simp only [↓sxd, sxu, ↓zE, ↓exq, Nat.reduceBEq, Nat.reduceLT, w1]
          (all_goals try exact zF)) ?_
      refine ⟨_, _, ?_, Imp.keepAll, ⟨i + 1, ⟨hlt, fun j hj => ?_⟩, rfl, rfl⟩⟩
      · omega
      · by_cases hj2 : j < i
        · exact hb j hj2
        · have : j = i := by omega
          subst this; exact h16
  · have hge : i = l.length := by simp at h9; omega
    refine Tr.exit ?_
    refine Tr.reg [4] (by
        simp only [↓sxd, sxu, ↓zE, ↓exq, Nat.reduceLT]
        (all_goals try exact zF)) ?_
    refine Tr.ret ?_
    exact ⟨.inr rfl, congrArg (fun n => some (I n)) (idx_miss (by subst hge; exact hb))⟩
abbrev vT := And.intro ty.sz3 <| And.intro ty.agg3 <| And.intro ty.elem3 <| And.intro ty.zero3 <| And.intro ty.und3 <| And.intro ty.sz4 <| And.intro ty.agg4 <| And.intro ty.elem4 <| And.intro ty.zero4 <| And.intro ty.und4 <| And.intro ty.sz35 <| And.intro ty.agg35 <| And.intro ty.elem35 <| And.intro ty.by35 <| And.intro ty.ez35 <| And.intro ty.zero35 <| And.intro ty.und35 <| And.intro ty.sz138 <| And.intro ty.agg138 <| And.intro ty.elem138 <| ty.zero138
theorem containsP_c (p : Pair → Bool) (l : List (Pair)) (hl : l.length < 4611686018427387904) (fid : FuncId) (first cap : List SV) (h1 : ∀ c ∈ first, Pure c) (h2 : ∀ c ∈ cap, Pure c) (hp : ∀ x ∈ l, CallP Tryd.prog G0 fid (first ++ [x.s] ++ cap) (B (p x))) : CallP Tryd.prog G0 110 [SP l, .clo (.func fid) first cap] (B (l.any p)) := by
  refine CallP.body 9 [.tmp 4] Tryd.func110 (by kernel_rfl) rfl rfl rfl zP zP ?_
  refine Tr.reg [0, 1] (by
      simp only [↓sxd, sxu, ↓zE, ↓exq, Nat.reduceBEq, Nat.reduceAdd, Nat.reduceLT]
      (all_goals try exact zF)) ?_
  refine Tr.reg [4] (by
      simp only [↓sxd, sxu, ↓zE, ↓exq, Nat.reduceBEq, Nat.reduceLT]
      (repeat ((with_reducible refine And.intro ?_ ?_); (focus (exact zS))))
      refine CallO.use (indexP_c p l hl fid first cap h1 h2 hp) ?_
      try simp only [↓sxd, sxu, ↓zE, ↓exq, Nat.reduceLT]
      (all_goals try exact zF)) ?_
  refine Tr.ret ?_
  exact ⟨.inr rfl, congrArg (fun n => some (B n)) (idx_any p l)⟩
abbrev w6 := And.intro ty.sz0 <| And.intro ty.agg0 <| And.intro ty.elem0 <| And.intro ty.sz4 <| And.intro ty.agg4 <| And.intro ty.elem4 <| And.intro ty.zero4 <| And.intro ty.und4 <| And.intro ty.sz104 <| And.intro ty.agg104 <| And.intro ty.fld104_0 <| And.intro ty.fld104_1 <| And.intro ty.elem104 <| And.intro ty.zero104 <| And.intro ty.pl104 <| And.intro ty.sz138 <| And.intro ty.agg138 <| And.intro ty.elem138 <| ty.zero138
theorem all1P_c (p : Pair → Bool) (x : Pair) (fid : FuncId) (first cap : List SV) (h1 : ∀ c ∈ first, Pure c) (h2 : ∀ c ∈ cap, Pure c) (hp : CallP Tryd.prog G0 fid (first ++ [x.s] ++ cap) (B (p x))) : CallP Tryd.prog G0 111 [x.s, .fp [.clo (.func fid) first cap]] (B (!p x)) := by
  refine CallP.body 8 [.tmp 3] Tryd.func111 (by kernel_rfl) rfl rfl rfl zP zP ?_
  refine Tr.reg [1, 2] (by
      simp only [↓sxd, sxu, ↓zE, ↓exq, ↓zI, Nat.reduceBEq, Nat.reduceAdd, Nat.reduceLT, Nat.reduceEqDiff]
      (all_goals try exact zF)) ?_
  refine Tr.reg [3] (by
      simp only [↓sxd, sxu, ↓zE, ↓exq, ↓zD, Nat.reduceBEq, Nat.reduceAdd, Nat.reduceLT, w6]
      (repeat ((with_reducible refine And.intro ?_ ?_); (focus (exact zS))))
      refine CallO.use (hp) ?_
      try simp only [↓sxd, sxu, ↓zE, ↓exq, ↓zL, Nat.reduceLT]
      (all_goals try exact zF)) ?_
  refine Tr.ret ?_
  (refine ⟨.inr rfl, ?_⟩; first | rfl | exact ⟨rfl, rfl, trivial⟩ | exact ⟨rfl, rfl, rfl, trivial⟩ | (simp only [Res, ResL, ResOK, ↓sxd, sxu, ↓zE, ↓zC, zK, ↓exP, ↓exq, ↓zB, ↓zL, ↓zD, ↓zI, Nat.reduceBEq, Nat.reduceAdd, Nat.reduceLT, Nat.reduceMul, Nat.reduceSub, Nat.reduceLeDiff, Nat.reduceEqDiff, Int.reduceLE, Int.reduceLT, Int.reduceToNat, reduceIte, sxe, w6]; (repeat' (first | rfl | exact trivial | exact fun h => h | exact fun h => (by rw [h]; rfl) | apply And.intro | omega | exact Nat.le_of_ble_eq_true rfl))))
abbrev uC := And.intro ty.sz0 <| And.intro ty.agg0 <| And.intro ty.elem0 <| And.intro ty.sz4 <| And.intro ty.agg4 <| And.intro ty.elem4 <| And.intro ty.zero4 <| And.intro ty.und4 <| And.intro ty.sz35 <| And.intro ty.agg35 <| And.intro ty.elem35 <| And.intro ty.by35 <| And.intro ty.ez35 <| And.intro ty.zero35 <| And.intro ty.und35 <| And.intro ty.sz138 <| And.intro ty.agg138 <| And.intro ty.elem138 <| ty.zero138
theorem allP_c (p : Pair → Bool) (l : List (Pair)) (hl : l.length < 4611686018427387904) (fid : FuncId) (first cap : List SV) (h1 : ∀ c ∈ first, Pure c) (h2 : ∀ c ∈ cap, Pure c) (hp : ∀ x ∈ l, CallP Tryd.prog G0 fid (first ++ [x.s] ++ cap) (B (p x))) : CallP Tryd.prog G0 85 [SP l, .clo (.func fid) first cap] (B (l.all p)) := by
  refine CallP.body 9 [.tmp 4] Tryd.func85 (by kernel_rfl) rfl rfl rfl zP zP ?_
  refine Tr.reg [0, 3] (by
      simp only [↓sxd, sxu, ↓zE, ↓exq, ↓zI, Nat.reduceBEq, Nat.reduceAdd, Nat.reduceLT, Nat.reduceEqDiff]
      (all_goals try exact zF)) ?_
  refine Tr.reg [4] (by
      simp only [↓sxd, sxu, ↓zE, ↓exq, Nat.reduceBEq, Nat.reduceLT]
      (repeat ((with_reducible refine And.intro ?_ ?_); (focus (exact zS))))
      refine CallO.useZ [] (containsP_c (fun x => !p x) l hl 111 [] [.fp [.clo (.func fid) first cap]] zP zP (fun x hx => all1P_c p x fid first cap h1 h2 (hp x hx))) (List.nil_sublist _) zT ?_
      try simp only [↓sxd, sxu, ↓zE, ↓exq, ↓zL, Nat.reduceLT]
      (all_goals try exact zF)) ?_
  refine Tr.ret ?_
  exact ⟨.inr rfl, congrArg (fun n => some (B n)) (any_all p l)⟩
end Go.Proofs.YtcnkbdfkjhlbiaaDoor
