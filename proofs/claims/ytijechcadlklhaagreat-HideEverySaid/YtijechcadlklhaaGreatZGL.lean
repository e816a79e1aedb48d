/- Lemmas, part ZGL. Conditions: none. -/
import Derived.Test.YtijechcadlklhaaGreatZGJ
set_option linter.unusedVariables false
namespace Go.Proofs.YtijechcadlklhaaGreat
open Go.Sy
set_option maxRecDepth 4000
def idxOf {α : Type} (p : α → Bool) (l : List α) : Int := match l.findIdx? p with | some i => i | none => -1
theorem idx_hit {α : Type} {p : α → Bool} {l : List α} {d : α} {i : Nat} (h : i < l.length) (hp : p (l.getD i d) = true) (hb : ∀ j, j < i → p (l.getD j d) = false) : (i : Int) = idxOf p l := by
  have e : ∀ j (hj : j < l.length), l.getD j d = l[j] := fun j hj => by simp [List.getD_eq_getElem?_getD, hj]
  have : l.findIdx? p = some i := by
    rw [List.findIdx?_eq_some_iff_getElem]
    refine ⟨h, by rw [← e i h]; exact hp, fun j hj => ?_⟩
    rw [← e j (by omega), hb j hj]; decide
  simp [idxOf, this]
theorem idx_miss {α : Type} {p : α → Bool} {l : List α} {d : α} (hb : ∀ j, j < l.length → p (l.getD j d) = false) : (-1 : Int) = idxOf p l := by
  have e : ∀ j (hj : j < l.length), l.getD j d = l[j] := fun j hj => by simp [List.getD_eq_getElem?_getD, hj]
  have : l.findIdx? p = none := by
    rw [List.findIdx?_eq_none_iff]
    intro x hx
    obtain ⟨j, hj, rfl⟩ := List.getElem_of_mem hx
    rw [← e j hj]; exact hb j hj
  simp [idxOf, this]
theorem idx_any {α : Type} (p : α → Bool) (l : List α) : decide (idxOf p l ≥ 0) = l.any p := by
  unfold idxOf
  cases h : l.findIdx? p with
  | none =>
    rw [List.findIdx?_eq_none_iff] at h
    have : l.any p = false := by simpa using h
    rw [this]; decide
  | some i =>
    rw [List.findIdx?_eq_some_iff_getElem] at h
    obtain ⟨h1, h2, _⟩ := h
    have : l.any p = true := List.any_eq_true.2 ⟨_, List.getElem_mem h1, h2⟩
    rw [this]; simp
theorem any_all {α : Type} (p : α → Bool) (l : List α) : (!l.any fun x => !p x) = l.all p := by
  induction l with
  | nil => rfl
  | cons x l ih => simp only [List.any_cons, List.all_cons, Bool.not_or, Bool.not_not, ih]
theorem getD_mem {α : Type} {l : List α} {i : Nat} {d : α} (h : i < l.length) : l.getD i d ∈ l := by
  rw [List.getD_eq_getElem?_getD, List.getElem?_eq_getElem h]; exact List.getElem_mem h
abbrev tysH3_99 := And.intro ty.sz0 <| And.intro ty.agg0 <| And.intro ty.elem0 <| And.intro ty.sz3 <| And.intro ty.agg3 <| And.intro ty.elem3 <| And.intro ty.zero3 <| And.intro ty.und3 <| And.intro ty.sz4 <| And.intro ty.agg4 <| And.intro ty.elem4 <| And.intro ty.zero4 <| And.intro ty.und4 <| And.intro ty.sz22 <| And.intro ty.agg22 <| And.intro ty.elem22 <| And.intro ty.by22 <| And.intro ty.ez22 <| And.intro ty.zero22 <| And.intro ty.und22 <| And.intro ty.sz44 <| And.intro ty.agg44 <| And.intro ty.elem44 <| And.intro ty.by44 <| And.intro ty.ez44 <| And.intro ty.zero44 <| And.intro ty.und44 <| And.intro ty.sz104 <| And.intro ty.agg104 <| And.intro ty.elem104 <| ty.zero104
theorem indexL_c (p : List Int → Bool) (l : List (List Int)) (hl : l.length < 4611686018427387904) (fid : FuncId) (first cap : List SV) (h1 : ∀ c ∈ first, Pure c) (h2 : ∀ c ∈ cap, Pure c) (hp : ∀ x ∈ l, CallP Tryz.prog G0 fid (first ++ [SI x] ++ cap) (B (p x))) : CallP Tryz.prog G0 99 [SL l, .clo (.func fid) first cap] (I (idxOf p l)) := by
  refine CallP.body 19 [.tmp 4] Tryz.func99 (by kernel_rfl) rfl rfl rfl zP zP ?_
  refine Tr.reg [0, 1] (by
      simp only [↓sxd, sxu, ↓zE, ↓exq, Nat.reduceBEq, Nat.reduceAdd, Nat.reduceLT]
      (all_goals try exact zF)) ?_
  refine Tr.seq ?_
  refine Tr.reg [0, 1, 7, 8] (by
      simp only [↓sxd, sxu, ↓zE, ↓exq, ↓zB, ↓zL, Nat.reduceBEq, Nat.reduceLT, sxe, tysH3_99]
      (all_goals try exact zF)) ?_
  refine Tr.imp (st' := ⟨[(0, SL l), (1, .clo (.func fid) first cap), (7, I l.length), (8, I 0)], [], 0, 19, [], 0⟩) (Imp.keepAll) (Tr.block (Tr.loopI (fun mm ss => ∃ (i : Nat), (i ≤ l.length ∧ ∀ j, j < i → p (l.getD j []) = false) ∧ l.length - i = mm ∧ ss = ⟨[(0, SL l), (1, .clo (.func fid) first cap), (7, I l.length), (8, I i)], [], 0, 19, [], 0⟩) _ ⟨0, ?_, rfl, rfl⟩ ?_))
  · exact ⟨Nat.zero_le _, fun j hj => absurd hj (by omega)⟩
  rintro mm ss ⟨i, hI, rfl, rfl⟩
  obtain ⟨hi, hb⟩ := hI
  refine Tr.reg [0, 1, 7, 8, 9] (by
      simp only [↓sxd, sxu, ↓zE, ↓exq, Nat.reduceBEq, Nat.reduceLT, sxe]
      (all_goals try exact zF)) ?_
  refine Tr.seq ?_
  refine Tr.cond rfl (fun h9 => ?_) (fun h9 => ?_)
  · have hlt : i < l.length := by simpa using h9
    refine Tr.skip ?_
    refine Tr.seq ?_
    refine Tr.block ?_
    refine Tr.reg [0, 1, 5, 7, 8] (by
        simp only [↓sxd, sxu, ↓zE, ↓exq, Nat.reduceBEq, Nat.reduceLT]
        (all_goals try exact zF)) ?_
    refine Tr.reg [0, 1, 5, 7, 8, 16] (by
        simp only [↓sxd, sxu, ↓zE, ↓exq, ↓zD, Nat.reduceBEq, Nat.reduceLT, sxe, tysH3_99, hlt]
        (repeat ((with_reducible refine And.intro ?_ ?_); (focus (exact zS))))
        refine CallO.use (hp (l.getD i []) (getD_mem hlt)) ?_
        try simp only [↓sxd, sxu, Nat.reduceBEq]
        (all_goals try exact zF)) ?_
    refine Tr.cond rfl (fun h16 => ?_) (fun h16 => ?_)
    · have hq := h16
      refine Tr.reg [4] (by
          simp only [↓sxd, sxu, ↓zE, ↓exq, Nat.reduceBEq, Nat.reduceLT]
          (all_goals try exact zF)) ?_
      refine Tr.ret ?_
      exact ⟨.inr rfl, congrArg (fun n => some (I n)) (idx_hit hlt h16 hb)⟩
    · have hq := h16
      refine Tr.skip ?_
      have w1 : IntKind.i64.wrap ((i : Int) + 1) = ((i + 1 : Nat) : Int) := by rw [wr (by omega) (by omega)]; rfl
      refine Tr.reg1 [0, 1, 7, 8] (by
          simp only [↓sxd, sxu, ↓zE, ↓exq, Nat.reduceBEq, Nat.reduceLT, w1]
          (all_goals try exact zF)) ?_
      refine ⟨_, _, ?_, Imp.keepAll, ⟨i + 1, ⟨hlt, fun j hj => ?_⟩, rfl, rfl⟩⟩
      · omega
      · by_cases hj2 : j < i
        · exact hb j hj2
        · have : j = i := by omega
          subst this; exact h16
  · have hge : i = l.length := by simp at h9; omega
    refine Tr.exit ?_
    refine Tr.reg [4] (by
        simp only [↓sxd, sxu, ↓zE, ↓exq, Nat.reduceLT]
        (all_goals try exact zF)) ?_
    refine Tr.ret ?_
    exact ⟨.inr rfl, congrArg (fun n => some (I n)) (idx_miss (by subst hge; exact hb))⟩
abbrev tysH3_118 := And.intro ty.sz0 <| And.intro ty.agg0 <| And.intro ty.elem0 <| And.intro ty.sz3 <| And.intro ty.agg3 <| And.intro ty.elem3 <| And.intro ty.zero3 <| And.intro ty.und3 <| And.intro ty.sz4 <| And.intro ty.agg4 <| And.intro ty.elem4 <| And.intro ty.zero4 <| And.intro ty.und4 <| And.intro ty.sz44 <| And.intro ty.agg44 <| And.intro ty.elem44 <| And.intro ty.by44 <| And.intro ty.ez44 <| And.intro ty.zero44 <| And.intro ty.und44 <| And.intro ty.sz131 <| And.intro ty.agg131 <| And.intro ty.elem131 <| ty.zero131
theorem indexI_c (p : Int → Bool) (l : List (Int)) (hl : l.length < 4611686018427387904) (fid : FuncId) (first cap : List SV) (h1 : ∀ c ∈ first, Pure c) (h2 : ∀ c ∈ cap, Pure c) (hp : ∀ x ∈ l, CallP Tryz.prog G0 fid (first ++ [I x] ++ cap) (B (p x))) : CallP Tryz.prog G0 118 [SI l, .clo (.func fid) first cap] (I (idxOf p l)) := by
  refine CallP.body 19 [.tmp 4] Tryz.func118 (by kernel_rfl) rfl rfl rfl zP zP ?_
  refine Tr.reg [0, 1] (by
      simp only [↓sxd, sxu, ↓zE, ↓exq, Nat.reduceBEq, Nat.reduceAdd, Nat.reduceLT]
      (all_goals try exact zF)) ?_
  refine Tr.seq ?_
  refine Tr.reg [0, 1, 7, 8] (by
      simp only [↓sxd, sxu, ↓zE, ↓exq, ↓zB, ↓zL, Nat.reduceBEq, Nat.reduceLT, sxe, tysH3_118]
      (all_goals try exact zF)) ?_
  refine Tr.imp (st' := ⟨[(0, SI l), (1, .clo (.func fid) first cap), (7, I l.length), (8, I 0)], [], 0, 19, [], 0⟩) (Imp.keepAll) (Tr.block (Tr.loopI (fun mm ss => ∃ (i : Nat), (i ≤ l.length ∧ ∀ j, j < i → p (l.getD j 0) = false) ∧ l.length - i = mm ∧ ss = ⟨[(0, SI l), (1, .clo (.func fid) first cap), (7, I l.length), (8, I i)], [], 0, 19, [], 0⟩) _ ⟨0, ?_, rfl, rfl⟩ ?_))
  · exact ⟨Nat.zero_le _, fun j hj => absurd hj (by omega)⟩
  rintro mm ss ⟨i, hI, rfl, rfl⟩
  obtain ⟨hi, hb⟩ := hI
  refine Tr.reg [0, 1, 7, 8, 9] (by
      simp only [↓sxd, sxu, ↓zE, ↓exq, Nat.reduceBEq, Nat.reduceLT, sxe]
      (all_goals try exact zF)) ?_
  refine Tr.seq ?_
  refine Tr.cond rfl (fun h9 => ?_) (fun h9 => ?_)
  · have hlt : i < l.length := by simpa using h9
    refine Tr.skip ?_
    refine Tr.seq ?_
    refine Tr.block ?_
    refine Tr.reg [0, 1, 5, 7, 8] (by
        simp only [↓sxd, sxu, ↓zE, ↓exq, Nat.reduceBEq, Nat.reduceLT]
        (all_goals try exact zF)) ?_
    refine Tr.reg [0, 1, 5, 7, 8, 16] (by
        simp only [↓sxd, sxu, ↓zE, ↓exq, ↓zD, Nat.reduceBEq, Nat.reduceLT, sxe, tysH3_118, hlt]
        (repeat ((with_reducible refine And.intro ?_ ?_); (focus (exact zS))))
        refine CallO.use (hp (l.getD i 0) (getD_mem hlt)) ?_
        try simp only [↓sxd, sxu, Nat.reduceBEq]
        (all_goals try exact zF)) ?_
    refine Tr.cond rfl (fun h16 => ?_) (fun h16 => ?_)
    · have hq := h16
      refine Tr.reg [4] (by
          simp only [↓sxd, sxu, ↓zE, ↓exq, Nat.reduceBEq, Nat.reduceLT]
          (all_goals try exact zF)) ?_
      refine Tr.ret ?_
      exact ⟨.inr rfl, congrArg (fun n => some (I n)) (idx_hit hlt h16 hb)⟩
    · have hq := h16
      refine Tr.skip ?_
      have w1 : IntKind.i64.wrap ((i : Int) + 1) = ((i + 1 : Nat) : Int) := by rw [wr (by omega) (by omega)]; rfl
      refine Tr.reg1 [0, 1, 7, 8] (by
          simp only [↓sxd, sxu, ↓zE, ↓exq, Nat.reduceBEq, Nat.reduceLT, w1]
          (all_goals try exact zF)) ?_
      refine ⟨_, _, ?_, Imp.keepAll, ⟨i + 1, ⟨hlt, fun j hj => ?_⟩, rfl, rfl⟩⟩
      · omega
      · by_cases hj2 : j < i
        · exact hb j hj2
        · have : j = i := by omega
          subst this; exact h16
  · have hge : i = l.length := by simp at h9; omega
    refine Tr.exit ?_
    refine Tr.reg [4] (by
        simp only [↓sxd, sxu, ↓zE, ↓exq, Nat.reduceLT]
        (all_goals try exact zF)) ?_
    refine Tr.ret ?_
    exact ⟨.inr rfl, congrArg (fun n => some (I n)) (idx_miss (by subst hge; exact hb))⟩
abbrev tysH3_117 := And.intro ty.sz0 <| And.intro ty.agg0 <| And.intro ty.elem0 <| And.intro ty.sz3 <| And.intro ty.agg3 <| And.intro ty.elem3 <| And.intro ty.zero3 <| And.intro ty.und3 <| And.intro ty.sz4 <| And.intro ty.agg4 <| And.intro ty.elem4 <| And.intro ty.zero4 <| And.intro ty.und4 <| And.intro ty.sz34 <| And.intro ty.agg34 <| And.intro ty.elem34 <| And.intro ty.by34 <| And.intro ty.ez34 <| And.intro ty.zero34 <| And.intro ty.und34 <| And.intro ty.sz79 <| And.intro ty.agg79 <| And.intro ty.fld79_0 <| And.intro ty.fld79_1 <| And.intro ty.elem79 <| And.intro ty.zero79 <| And.intro ty.pl79 <| And.intro ty.sz115 <| And.intro ty.agg115 <| And.intro ty.elem115 <| ty.zero115
theorem indexC_c (p : HC → Bool) (l : List (HC)) (hl : l.length < 4611686018427387904) (fid : FuncId) (first cap : List SV) (h1 : ∀ c ∈ first, Pure c) (h2 : ∀ c ∈ cap, Pure c) (hp : ∀ x ∈ l, CallP Tryz.prog G0 fid (first ++ [x.s] ++ cap) (B (p x))) : CallP Tryz.prog G0 117 [SC l, .clo (.func fid) first cap] (I (idxOf p l)) := by
  refine CallP.body 19 [.tmp 4] Tryz.func117 (by kernel_rfl) rfl rfl rfl zP zP ?_
  refine Tr.reg [0, 1] (by
      simp only [↓sxd, sxu, ↓zE, ↓exq, Nat.reduceBEq, Nat.reduceAdd, Nat.reduceLT]
      (all_goals try exact zF)) ?_
  refine Tr.seq ?_
  refine Tr.reg [0, 1, 7, 8] (by
      simp only [↓sxd, sxu, ↓zE, ↓exq, ↓zB, ↓zL, Nat.reduceBEq, Nat.reduceLT, sxe, tysH3_117]
      (all_goals try exact zF)) ?_
  refine Tr.imp (st' := ⟨[(0, SC l), (1, .clo (.func fid) first cap), (7, I l.length), (8, I 0)], [], 0, 19, [], 0⟩) (Imp.keepAll) (Tr.block (Tr.loopI (fun mm ss => ∃ (i : Nat), (i ≤ l.length ∧ ∀ j, j < i → p (l.getD j default) = false) ∧ l.length - i = mm ∧ ss = ⟨[(0, SC l), (1, .clo (.func fid) first cap), (7, I l.length), (8, I i)], [], 0, 19, [], 0⟩) _ ⟨0, ?_, rfl, rfl⟩ ?_))
  · exact ⟨Nat.zero_le _, fun j hj => absurd hj (by omega)⟩
  rintro mm ss ⟨i, hI, rfl, rfl⟩
  obtain ⟨hi, hb⟩ := hI
  refine Tr.reg [0, 1, 7, 8, 9] (by
      simp only [↓sxd, sxu, ↓zE, ↓exq, Nat.reduceBEq, Nat.reduceLT, sxe]
      (all_goals try exact zF)) ?_
  refine Tr.seq ?_
  refine Tr.cond rfl (fun h9 => ?_) (fun h9 => ?_)
  · have hlt : i < l.length := by simpa using h9
    refine Tr.skip ?_
    refine Tr.seq ?_
    refine Tr.block ?_
    refine Tr.reg [0, 1, 5, 7, 8] (by
        simp only [↓sxd, sxu, ↓zE, ↓exq, Nat.reduceBEq, Nat.reduceLT]
        (all_goals try exact zF)) ?_
    refine Tr.reg [0, 1, 5, 7, 8, 16] (by
        simp only [↓sxd, sxu, ↓zE, ↓exq, ↓zD, Nat.reduceBEq, Nat.reduceAdd, Nat.reduceLT, sxe, tysH3_117, hlt]
        (repeat ((with_reducible refine And.intro ?_ ?_); (focus (exact zS))))
        refine CallO.use (hp (l.getD i default) (getD_mem hlt)) ?_
        try simp only [↓sxd, sxu, Nat.reduceBEq]
        (all_goals try exact zF)) ?_
    refine Tr.cond rfl (fun h16 => ?_) (fun h16 => ?_)
    · have hq := h16
      refine Tr.reg [4] (by
          simp only [↓sxd, sxu, ↓zE, ↓exq, Nat.reduceBEq, Nat.reduceLT]
          (all_goals try exact zF)) ?_
      refine Tr.ret ?_
      exact ⟨.inr rfl, congrArg (fun n => some (I n)) (idx_hit hlt h16 hb)⟩
    · have hq := h16
      refine Tr.skip ?_
      have w1 : IntKind.i64.wrap ((i : Int) + 1) = ((i + 1 : Nat) : Int) := by rw [wr (by omega) (by omega)]; rfl
      refine Tr.reg1 [0, 1, 7, 8] (by
          simp only [↓sxd, sxu, ↓zE, ↓exq, Nat.reduceBEq, Nat.reduceLT, w1]
          (all_goals try exact zF)) ?_
      refine ⟨_, _, ?_, Imp.keepAll, ⟨i + 1, ⟨hlt, fun j hj => ?_⟩, rfl, rfl⟩⟩
      · omega
      · by_cases hj2 : j < i
        · exact hb j hj2
        · have : j = i := by omega
          subst this; exact h16
  · have hge : i = l.length := by simp at h9; omega
    refine Tr.exit ?_
    refine Tr.reg [4] (by
        simp only [↓sxd, sxu, ↓zE, ↓exq, Nat.reduceLT]
        (all_goals try exact zF)) ?_
    refine Tr.ret ?_
    exact ⟨.inr rfl, congrArg (fun n => some (I n)) (idx_miss (by subst hge; exact hb))⟩
abbrev tysH3_43 := And.intro ty.sz0 <| And.intro ty.agg0 <| And.intro ty.elem0 <| And.intro ty.sz3 <| And.intro ty.agg3 <| And.intro ty.elem3 <| And.intro ty.zero3 <| And.intro ty.und3 <| And.intro ty.sz4 <| And.intro ty.agg4 <| And.intro ty.elem4 <| And.intro ty.zero4 <| And.intro ty.und4 <| And.intro ty.sz36 <| And.intro ty.agg36 <| And.intro ty.elem36 <| And.intro ty.by36 <| And.intro ty.ez36 <| And.intro ty.zero36 <| And.intro ty.und36 <| And.intro ty.sz88 <| And.intro ty.agg88 <| And.intro ty.fld88_0 <| And.intro ty.fld88_1 <| And.intro ty.fld88_2 <| And.intro ty.elem88 <| And.intro ty.zero88 <| And.intro ty.pl88 <| And.intro ty.sz89 <| And.intro ty.agg89 <| And.intro ty.elem89 <| ty.zero89
theorem indexQ_c (p : HQ → Bool) (l : List (HQ)) (hl : l.length < 4611686018427387904) (fid : FuncId) (first cap : List SV) (h1 : ∀ c ∈ first, Pure c) (h2 : ∀ c ∈ cap, Pure c) (hp : ∀ x ∈ l, CallP Tryz.prog G0 fid (first ++ [x.s] ++ cap) (B (p x))) : CallP Tryz.prog G0 43 [SQ l, .clo (.func fid) first cap] (I (idxOf p l)) := by
  refine CallP.body 19 [.tmp 4] Tryz.func43 (by kernel_rfl) rfl rfl rfl zP zP ?_
  refine Tr.reg [0, 1] (by
      simp only [↓sxd, sxu, ↓zE, ↓exq, Nat.reduceBEq, Nat.reduceAdd, Nat.reduceLT]
      (all_goals try exact zF)) ?_
  refine Tr.seq ?_
  refine Tr.reg [0, 1, 7, 8] (by
      simp only [↓sxd, sxu, ↓zE, ↓exq, ↓zB, ↓zL, Nat.reduceBEq, Nat.reduceLT, sxe, tysH3_43]
      (all_goals try exact zF)) ?_
  refine Tr.imp (st' := ⟨[(0, SQ l), (1, .clo (.func fid) first cap), (7, I l.length), (8, I 0)], [], 0, 19, [], 0⟩) (Imp.keepAll) (Tr.block (Tr.loopI (fun mm ss => ∃ (i : Nat), (i ≤ l.length ∧ ∀ j, j < i → p (l.getD j default) = false) ∧ l.length - i = mm ∧ ss = ⟨[(0, SQ l), (1, .clo (.func fid) first cap), (7, I l.length), (8, I i)], [], 0, 19, [], 0⟩) _ ⟨0, ?_, rfl, rfl⟩ ?_))
  · exact ⟨Nat.zero_le _, fun j hj => absurd hj (by omega)⟩
  rintro mm ss ⟨i, hI, rfl, rfl⟩
  obtain ⟨hi, hb⟩ := hI
  refine Tr.reg [0, 1, 7, 8, 9] (by
      simp only [↓sxd, sxu, ↓zE, ↓exq, Nat.reduceBEq, Nat.reduceLT, sxe]
      (all_goals try exact zF)) ?_
  refine Tr.seq ?_
  refine Tr.cond rfl (fun h9 => ?_) (fun h9 => ?_)
  · have hlt : i < l.length := by simpa using h9
    refine Tr.skip ?_
    refine Tr.seq ?_
    refine Tr.block ?_
    refine Tr.reg [0, 1, 5, 7, 8] (by
        simp only [↓sxd, sxu, ↓zE, ↓exq, Nat.reduceBEq, Nat.reduceLT]
        (all_goals try exact zF)) ?_
    refine Tr.reg [0, 1, 5, 7, 8, 16] (by
        simp only [↓sxd, sxu, ↓zE, ↓exq, ↓zD, Nat.reduceBEq, Nat.reduceAdd, Nat.reduceLT, sxe, tysH3_43, hlt]
        (repeat ((with_reducible refine And.intro ?_ ?_); (focus (exact zS))))
        refine CallO.use (hp (l.getD i default) (getD_mem hlt)) ?_
        try simp only [↓sxd, sxu, Nat.reduceBEq]
        (all_goals try exact zF)) ?_
    refine Tr.cond rfl (fun h16 => ?_) (fun h16 => ?_)
    · have hq := h16
      refine Tr.reg [4] (by
          simp only [↓sxd, sxu, ↓zE, ↓exq, Nat.reduceBEq, Nat.reduceLT]
          (all_goals try exact zF)) ?_
      refine Tr.ret ?_
      exact ⟨.inr rfl, congrArg (fun n => some (I n)) (idx_hit hlt h16 hb)⟩
    · have hq := h16
      refine Tr.skip ?_
      have w1 : IntKind.i64.wrap ((i : Int) + 1) = ((i + 1 : Nat) : Int) := by rw [wr (by omega) (by omega)]; rfl
      refine Tr.reg1 [0, 1, 7, 8] (by
          simp only [↓sxd, sxu, ↓zE, ↓exq, Nat.reduceBEq, Nat.reduceLT, w1]
          (all_goals try exact zF)) ?_
      refine ⟨_, _, ?_, Imp.keepAll, ⟨i + 1, ⟨hlt, fun j hj => ?_⟩, rfl, rfl⟩⟩
      · omega
      · by_cases hj2 : j < i
        · exact hb j hj2
        · have : j = i := by omega
          subst this; exact h16
  · have hge : i = l.length := by simp at h9; omega
    refine Tr.exit ?_
    refine Tr.reg [4] (by
        simp only [↓sxd, sxu, ↓zE, ↓exq, Nat.reduceLT]
        (all_goals try exact zF)) ?_
    refine Tr.ret ?_
    exact ⟨.inr rfl, congrArg (fun n => some (I n)) (idx_miss (by subst hge; exact hb))⟩
abbrev tysH3_86 := And.intro ty.sz3 <| And.intro ty.agg3 <| And.intro ty.elem3 <| And.intro ty.zero3 <| And.intro ty.und3 <| And.intro ty.sz4 <| And.intro ty.agg4 <| And.intro ty.elem4 <| And.intro ty.zero4 <| And.intro ty.und4 <| And.intro ty.sz22 <| And.intro ty.agg22 <| And.intro ty.elem22 <| And.intro ty.by22 <| And.intro ty.ez22 <| And.intro ty.zero22 <| And.intro ty.und22 <| And.intro ty.sz104 <| And.intro ty.agg104 <| And.intro ty.elem104 <| ty.zero104
theorem containsL_c (p : List Int → Bool) (l : List (List Int)) (hl : l.length < 4611686018427387904) (fid : FuncId) (first cap : List SV) (h1 : ∀ c ∈ first, Pure c) (h2 : ∀ c ∈ cap, Pure c) (hp : ∀ x ∈ l, CallP Tryz.prog G0 fid (first ++ [SI x] ++ cap) (B (p x))) : CallP Tryz.prog G0 86 [SL l, .clo (.func fid) first cap] (B (l.any p)) := by
  refine CallP.body 9 [.tmp 4] Tryz.func86 (by kernel_rfl) rfl rfl rfl zP zP ?_
  refine Tr.reg [0, 1] (by
      simp only [↓sxd, sxu, ↓zE, ↓exq, Nat.reduceBEq, Nat.reduceAdd, Nat.reduceLT]
      (all_goals try exact zF)) ?_
  refine Tr.reg [4] (by
      simp only [↓sxd, sxu, ↓zE, ↓exq, Nat.reduceBEq, Nat.reduceLT]
      (repeat ((with_reducible refine And.intro ?_ ?_); (focus (exact zS))))
      refine CallO.use (indexL_c p l hl fid first cap h1 h2 hp) ?_
      try simp only [↓sxd, sxu, ↓zE, ↓exq, Nat.reduceLT]
      (all_goals try exact zF)) ?_
  refine Tr.ret ?_
  exact ⟨.inr rfl, congrArg (fun n => some (B n)) (idx_any p l)⟩
abbrev tysH3_87 := And.intro ty.sz4 <| And.intro ty.agg4 <| And.intro ty.elem4 <| And.intro ty.zero4 <| And.intro ty.und4 <| And.intro ty.sz44 <| And.intro ty.agg44 <| And.intro ty.elem44 <| And.intro ty.by44 <| And.intro ty.ez44 <| And.intro ty.zero44 <| And.intro ty.und44 <| And.intro ty.sz104 <| And.intro ty.agg104 <| And.intro ty.elem104 <| ty.zero104
theorem all1L_c (p : List Int → Bool) (x : List Int) (fid : FuncId) (first cap : List SV) (h1 : ∀ c ∈ first, Pure c) (h2 : ∀ c ∈ cap, Pure c) (hp : CallP Tryz.prog G0 fid (first ++ [SI x] ++ cap) (B (p x))) : CallP Tryz.prog G0 87 [SI x, .fp [.clo (.func fid) first cap]] (B (!p x)) := by
  refine CallP.body 8 [.tmp 3] Tryz.func87 (by kernel_rfl) rfl rfl rfl zP zP ?_
  refine Tr.reg [0, 1] (by
      simp only [↓sxd, sxu, ↓zE, ↓exq, Nat.reduceBEq, Nat.reduceAdd, Nat.reduceLT]
      (all_goals try exact zF)) ?_
  refine Tr.reg [3] (by
      simp only [↓sxd, sxu, ↓zE, ↓exq, ↓zD, Nat.reduceBEq, Nat.reduceLT, tysH3_87]
      (repeat ((with_reducible refine And.intro ?_ ?_); (focus (exact zS))))
      refine CallO.use (hp) ?_
      try simp only [↓sxd, sxu, ↓zE, ↓exq, ↓zK, Nat.reduceLT]
      (all_goals try exact zF)) ?_
  refine Tr.ret ?_
  (refine ⟨.inr rfl, ?_⟩; first | rfl | exact ⟨rfl, rfl, trivial⟩ | exact ⟨rfl, rfl, rfl, trivial⟩ | (simp only [Res, ResL, ResOK, ↓sxd, sxu, ↓zE, ↓zC, zJ, ↓exP, ↓exq, ↓zB, ↓zK, ↓zD, Nat.reduceBEq, Nat.reduceAdd, Nat.reduceLT, Nat.reduceMul, Nat.reduceSub, Nat.reduceLeDiff, Nat.reduceEqDiff, Int.reduceLE, Int.reduceLT, Int.reduceToNat, reduceIte, sxe, tysH3_87]; (repeat' (first | rfl | exact trivial | exact fun h => h | exact fun h => (by rw [h]; rfl) | apply And.intro | omega | exact Nat.le_of_ble_eq_true rfl))))
abbrev tysH3_60 := And.intro ty.sz0 <| And.intro ty.agg0 <| And.intro ty.elem0 <| And.intro ty.sz4 <| And.intro ty.agg4 <| And.intro ty.elem4 <| And.intro ty.zero4 <| And.intro ty.und4 <| And.intro ty.sz22 <| And.intro ty.agg22 <| And.intro ty.elem22 <| And.intro ty.by22 <| And.intro ty.ez22 <| And.intro ty.zero22 <| And.intro ty.und22 <| And.intro ty.sz104 <| And.intro ty.agg104 <| And.intro ty.elem104 <| ty.zero104
theorem allL_c (p : List Int → Bool) (l : List (List Int)) (hl : l.length < 4611686018427387904) (fid : FuncId) (first cap : List SV) (h1 : ∀ c ∈ first, Pure c) (h2 : ∀ c ∈ cap, Pure c) (hp : ∀ x ∈ l, CallP Tryz.prog G0 fid (first ++ [SI x] ++ cap) (B (p x))) : CallP Tryz.prog G0 60 [SL l, .clo (.func fid) first cap] (B (l.all p)) := by
  refine CallP.body 9 [.tmp 4] Tryz.func60 (by kernel_rfl) rfl rfl rfl zP zP ?_
  refine Tr.reg [0, 3] (by
      simp only [↓sxd, sxu, ↓zE, ↓exq, ↓zM, Nat.reduceBEq, Nat.reduceAdd, Nat.reduceLT, Nat.reduceEqDiff]
      (all_goals try exact zF)) ?_
  refine Tr.reg [4] (by
      simp only [↓sxd, sxu, ↓zE, ↓exq, Nat.reduceBEq, Nat.reduceLT]
      (repeat ((with_reducible refine And.intro ?_ ?_); (focus (exact zS))))
      refine CallO.useZ [] (containsL_c (fun x => !p x) l hl 87 [] [.fp [.clo (.func fid) first cap]] zP zP (fun x hx => all1L_c p x fid first cap h1 h2 (hp x hx))) (List.nil_sublist _) zT ?_
      try simp only [↓sxd, sxu, ↓zE, ↓exq, ↓zK, Nat.reduceLT]
      (all_goals try exact zF)) ?_
  refine Tr.ret ?_
  exact ⟨.inr rfl, congrArg (fun n => some (B n)) (any_all p l)⟩
abbrev tysH3_100 := And.intro ty.sz3 <| And.intro ty.agg3 <| And.intro ty.elem3 <| And.intro ty.zero3 <| And.intro ty.und3 <| And.intro ty.sz4 <| And.intro ty.agg4 <| And.intro ty.elem4 <| And.intro ty.zero4 <| And.intro ty.und4 <| And.intro ty.sz44 <| And.intro ty.agg44 <| And.intro ty.elem44 <| And.intro ty.by44 <| And.intro ty.ez44 <| And.intro ty.zero44 <| And.intro ty.und44 <| And.intro ty.sz131 <| And.intro ty.agg131 <| And.intro ty.elem131 <| ty.zero131
theorem containsI_c (p : Int → Bool) (l : List (Int)) (hl : l.length < 4611686018427387904) (fid : FuncId) (first cap : List SV) (h1 : ∀ c ∈ first, Pure c) (h2 : ∀ c ∈ cap, Pure c) (hp : ∀ x ∈ l, CallP Tryz.prog G0 fid (first ++ [I x] ++ cap) (B (p x))) : CallP Tryz.prog G0 100 [SI l, .clo (.func fid) first cap] (B (l.any p)) := by
  refine CallP.body 9 [.tmp 4] Tryz.func100 (by kernel_rfl) rfl rfl rfl zP zP ?_
  refine Tr.reg [0, 1] (by
      simp only [↓sxd, sxu, ↓zE, ↓exq, Nat.reduceBEq, Nat.reduceAdd, Nat.reduceLT]
      (all_goals try exact zF)) ?_
  refine Tr.reg [4] (by
      simp only [↓sxd, sxu, ↓zE, ↓exq, Nat.reduceBEq, Nat.reduceLT]
      (repeat ((with_reducible refine And.intro ?_ ?_); (focus (exact zS))))
      refine CallO.use (indexI_c p l hl fid first cap h1 h2 hp) ?_
      try simp only [↓sxd, sxu, ↓zE, ↓exq, Nat.reduceLT]
      (all_goals try exact zF)) ?_
  refine Tr.ret ?_
  exact ⟨.inr rfl, congrArg (fun n => some (B n)) (idx_any p l)⟩
abbrev tysH3_101 := And.intro ty.sz3 <| And.intro ty.agg3 <| And.intro ty.elem3 <| And.intro ty.zero3 <| And.intro ty.und3 <| And.intro ty.sz4 <| And.intro ty.agg4 <| And.intro ty.elem4 <| And.intro ty.zero4 <| And.intro ty.und4 <| And.intro ty.sz131 <| And.intro ty.agg131 <| And.intro ty.elem131 <| ty.zero131
theorem all1I_c (p : Int → Bool) (x : Int) (fid : FuncId) (first cap : List SV) (h1 : ∀ c ∈ first, Pure c) (h2 : ∀ c ∈ cap, Pure c) (hp : CallP Tryz.prog G0 fid (first ++ [I x] ++ cap) (B (p x))) : CallP Tryz.prog G0 101 [I x, .fp [.clo (.func fid) first cap]] (B (!p x)) := by
  refine CallP.body 8 [.tmp 3] Tryz.func101 (by kernel_rfl) rfl rfl rfl zP zP ?_
  refine Tr.reg [0, 1] (by
      simp only [↓sxd, sxu, ↓zE, ↓exq, Nat.reduceBEq, Nat.reduceAdd, Nat.reduceLT]
      (all_goals try exact zF)) ?_
  refine Tr.reg [3] (by
      simp only [↓sxd, sxu, ↓zE, ↓exq, ↓zD, Nat.reduceBEq, Nat.reduceLT, tysH3_101]
      (repeat ((with_reducible refine And.intro ?_ ?_); (focus (exact zS))))
      refine CallO.use (hp) ?_
      try simp only [↓sxd, sxu, ↓zE, ↓exq, ↓zK, Nat.reduceLT]
      (all_goals try exact zF)) ?_
  refine Tr.ret ?_
  (refine ⟨.inr rfl, ?_⟩; first | rfl | exact ⟨rfl, rfl, trivial⟩ | exact ⟨rfl, rfl, rfl, trivial⟩ | (simp only [Res, ResL, ResOK, ↓sxd, sxu, ↓zE, ↓zC, zJ, ↓exP, ↓exq, ↓zB, ↓zK, ↓zD, Nat.reduceBEq, Nat.reduceAdd, Nat.reduceLT, Nat.reduceMul, Nat.reduceSub, Nat.reduceLeDiff, Nat.reduceEqDiff, Int.reduceLE, Int.reduceLT, Int.reduceToNat, reduceIte, sxe, tysH3_101]; (repeat' (first | rfl | exact trivial | exact fun h => h | exact fun h => (by rw [h]; rfl) | apply And.intro | omega | exact Nat.le_of_ble_eq_true rfl))))
abbrev tysH3_89 := And.intro ty.sz0 <| And.intro ty.agg0 <| And.intro ty.elem0 <| And.intro ty.sz4 <| And.intro ty.agg4 <| And.intro ty.elem4 <| And.intro ty.zero4 <| And.intro ty.und4 <| And.intro ty.sz44 <| And.intro ty.agg44 <| And.intro ty.elem44 <| And.intro ty.by44 <| And.intro ty.ez44 <| And.intro ty.zero44 <| And.intro ty.und44 <| And.intro ty.sz131 <| And.intro ty.agg131 <| And.intro ty.elem131 <| ty.zero131
theorem allI_c (p : Int → Bool) (l : List (Int)) (hl : l.length < 4611686018427387904) (fid : FuncId) (first cap : List SV) (h1 : ∀ c ∈ first, Pure c) (h2 : ∀ c ∈ cap, Pure c) (hp : ∀ x ∈ l, CallP Tryz.prog G0 fid (first ++ [I x] ++ cap) (B (p x))) : CallP Tryz.prog G0 89 [SI l, .clo (.func fid) first cap] (B (l.all p)) := by
  refine CallP.body 9 [.tmp 4] Tryz.func89 (by kernel_rfl) rfl rfl rfl zP zP ?_
  refine Tr.reg [0, 3] (by
      simp only [↓sxd, sxu, ↓zE, ↓exq, ↓zM, Nat.reduceBEq, Nat.reduceAdd, Nat.reduceLT, Nat.reduceEqDiff]
      (all_goals try exact zF)) ?_
  refine Tr.reg [4] (by
      simp only [↓sxd, sxu, ↓zE, ↓exq, Nat.reduceBEq, Nat.reduceLT]
      (repeat ((with_reducible refine And.intro ?_ ?_); (focus (exact zS))))
      refine CallO.useZ [] (containsI_c (fun x => !p x) l hl 101 [] [.fp [.clo (.func fid) first cap]] zP zP (fun x hx => all1I_c p x fid first cap h1 h2 (hp x hx))) (List.nil_sublist _) zT ?_
      try simp only [↓sxd, sxu, ↓zE, ↓exq, ↓zK, Nat.reduceLT]
      (all_goals try exact zF)) ?_
  refine Tr.ret ?_
  exact ⟨.inr rfl, congrArg (fun n => some (B n)) (any_all p l)⟩
abbrev tysH3_97 := And.intro ty.sz3 <| And.intro ty.agg3 <| And.intro ty.elem3 <| And.intro ty.zero3 <| And.intro ty.und3 <| And.intro ty.sz4 <| And.intro ty.agg4 <| And.intro ty.elem4 <| And.intro ty.zero4 <| And.intro ty.und4 <| And.intro ty.sz34 <| And.intro ty.agg34 <| And.intro ty.elem34 <| And.intro ty.by34 <| And.intro ty.ez34 <| And.intro ty.zero34 <| And.intro ty.und34 <| And.intro ty.sz115 <| And.intro ty.agg115 <| And.intro ty.elem115 <| ty.zero115
theorem containsC_c (p : HC → Bool) (l : List (HC)) (hl : l.length < 4611686018427387904) (fid : FuncId) (first cap : List SV) (h1 : ∀ c ∈ first, Pure c) (h2 : ∀ c ∈ cap, Pure c) (hp : ∀ x ∈ l, CallP Tryz.prog G0 fid (first ++ [x.s] ++ cap) (B (p x))) : CallP Tryz.prog G0 97 [SC l, .clo (.func fid) first cap] (B (l.any p)) := by
  refine CallP.body 9 [.tmp 4] Tryz.func97 (by kernel_rfl) rfl rfl rfl zP zP ?_
  refine Tr.reg [0, 1] (by
      simp only [↓sxd, sxu, ↓zE, ↓exq, Nat.reduceBEq, Nat.reduceAdd, Nat.reduceLT]
      (all_goals try exact zF)) ?_
  refine Tr.reg [4] (by
      simp only [↓sxd, sxu, ↓zE, ↓exq, Nat.reduceBEq, Nat.reduceLT]
      (repeat ((with_reducible refine And.intro ?_ ?_); (focus (exact zS))))
      refine CallO.use (indexC_c p l hl fid first cap h1 h2 hp) ?_
      try simp only [↓sxd, sxu, ↓zE, ↓exq, Nat.reduceLT]
      (all_goals try exact zF)) ?_
  refine Tr.ret ?_
  exact ⟨.inr rfl, congrArg (fun n => some (B n)) (idx_any p l)⟩
abbrev tysH3_98 := And.intro ty.sz0 <| And.intro ty.agg0 <| And.intro ty.elem0 <| And.intro ty.sz4 <| And.intro ty.agg4 <| And.intro ty.elem4 <| And.intro ty.zero4 <| And.intro ty.und4 <| And.intro ty.sz79 <| And.intro ty.agg79 <| And.intro ty.fld79_0 <| And.intro ty.fld79_1 <| And.intro ty.elem79 <| And.intro ty.zero79 <| And.intro ty.pl79 <| And.intro ty.sz115 <| And.intro ty.agg115 <| And.intro ty.elem115 <| ty.zero115
theorem all1C_c (p : HC → Bool) (x : HC) (fid : FuncId) (first cap : List SV) (h1 : ∀ c ∈ first, Pure c) (h2 : ∀ c ∈ cap, Pure c) (hp : CallP Tryz.prog G0 fid (first ++ [x.s] ++ cap) (B (p x))) : CallP Tryz.prog G0 98 [x.s, .fp [.clo (.func fid) first cap]] (B (!p x)) := by
  refine CallP.body 8 [.tmp 3] Tryz.func98 (by kernel_rfl) rfl rfl rfl zP zP ?_
  refine Tr.reg [1, 2] (by
      simp only [↓sxd, sxu, ↓zE, ↓exq, ↓zM, Nat.reduceBEq, Nat.reduceAdd, Nat.reduceLT, Nat.reduceEqDiff]
      (all_goals try exact zF)) ?_
  refine Tr.reg [3] (by
      simp only [↓sxd, sxu, ↓zE, ↓exq, ↓zD, Nat.reduceBEq, Nat.reduceAdd, Nat.reduceLT, tysH3_98]
      (repeat ((with_reducible refine And.intro ?_ ?_); (focus (exact zS))))
      refine CallO.use (hp) ?_
      try simp only [↓sxd, sxu, ↓zE, ↓exq, ↓zK, Nat.reduceLT]
      (all_goals try exact zF)) ?_
  refine Tr.ret ?_
  (refine ⟨.inr rfl, ?_⟩; first | rfl | exact ⟨rfl, rfl, trivial⟩ | exact ⟨rfl, rfl, rfl, trivial⟩ | (simp only [Res, ResL, ResOK, ↓sxd, sxu, ↓zE, ↓zC, zJ, ↓exP, ↓exq, ↓zB, ↓zK, ↓zD, ↓zM, Nat.reduceBEq, Nat.reduceAdd, Nat.reduceLT, Nat.reduceMul, Nat.reduceSub, Nat.reduceLeDiff, Nat.reduceEqDiff, Int.reduceLE, Int.reduceLT, Int.reduceToNat, reduceIte, sxe, tysH3_98]; (repeat' (first | rfl | exact trivial | exact fun h => h | exact fun h => (by rw [h]; rfl) | apply And.intro | omega | exact Nat.le_of_ble_eq_true rfl))))
abbrev tysH3_84 := And.intro ty.sz0 <| And.intro ty.agg0 <| And.intro ty.elem0 <| And.intro ty.sz4 <| And.intro ty.agg4 <| And.intro ty.elem4 <| And.intro ty.zero4 <| And.intro ty.und4 <| And.intro ty.sz34 <| And.intro ty.agg34 <| And.intro ty.elem34 <| And.intro ty.by34 <| And.intro ty.ez34 <| And.intro ty.zero34 <| And.intro ty.und34 <| And.intro ty.sz115 <| And.intro ty.agg115 <| And.intro ty.elem115 <| ty.zero115
theorem allC_c (p : HC → Bool) (l : List (HC)) (hl : l.length < 4611686018427387904) (fid : FuncId) (first cap : List SV) (h1 : ∀ c ∈ first, Pure c) (h2 : ∀ c ∈ cap, Pure c) (hp : ∀ x ∈ l, CallP Tryz.prog G0 fid (first ++ [x.s] ++ cap) (B (p x))) : CallP Tryz.prog G0 84 [SC l, .clo (.func fid) first cap] (B (l.all p)) := by
  refine CallP.body 9 [.tmp 4] Tryz.func84 (by kernel_rfl) rfl rfl rfl zP zP ?_
  refine Tr.reg [0, 3] (by
      simp only [↓sxd, sxu, ↓zE, ↓exq, ↓zM, Nat.reduceBEq, Nat.reduceAdd, Nat.reduceLT, Nat.reduceEqDiff]
      (all_goals try exact zF)) ?_
  refine Tr.reg [4] (by
      simp only [↓sxd, sxu, ↓zE, ↓exq, Nat.reduceBEq, Nat.reduceLT]
      (repeat ((with_reducible refine And.intro ?_ ?_); (focus (exact zS))))
      refine CallO.useZ [] (containsC_c (fun x => !p x) l hl 98 [] [.fp [.clo (.func fid) first cap]] zP zP (fun x hx => all1C_c p x fid first cap h1 h2 (hp x hx))) (List.nil_sublist _) zT ?_
      try simp only [↓sxd, sxu, ↓zE, ↓exq, ↓zK, Nat.reduceLT]
      (all_goals try exact zF)) ?_
  refine Tr.ret ?_
  exact ⟨.inr rfl, congrArg (fun n => some (B n)) (any_all p l)⟩
abbrev tysH3_77 := And.intro ty.sz3 <| And.intro ty.agg3 <| And.intro ty.elem3 <| And.intro ty.zero3 <| And.intro ty.und3 <| And.intro ty.sz4 <| And.intro ty.agg4 <| And.intro ty.elem4 <| And.intro ty.zero4 <| And.intro ty.und4 <| And.intro ty.sz36 <| And.intro ty.agg36 <| And.intro ty.elem36 <| And.intro ty.by36 <| And.intro ty.ez36 <| And.intro ty.zero36 <| And.intro ty.und36 <| And.intro ty.sz89 <| And.intro ty.agg89 <| And.intro ty.elem89 <| ty.zero89
theorem containsQ_c (p : HQ → Bool) (l : List (HQ)) (hl : l.length < 4611686018427387904) (fid : FuncId) (first cap : List SV) (h1 : ∀ c ∈ first, Pure c) (h2 : ∀ c ∈ cap, Pure c) (hp : ∀ x ∈ l, CallP Tryz.prog G0 fid (first ++ [x.s] ++ cap) (B (p x))) : CallP Tryz.prog G0 77 [SQ l, .clo (.func fid) first cap] (B (l.any p)) := by
  refine CallP.body 9 [.tmp 4] Tryz.func77 (by kernel_rfl) rfl rfl rfl zP zP ?_
  refine Tr.reg [0, 1] (by
      simp only [↓sxd, sxu, ↓zE, ↓exq, Nat.reduceBEq, Nat.reduceAdd, Nat.reduceLT]
      (all_goals try exact zF)) ?_
  refine Tr.reg [4] (by
      simp only [↓sxd, sxu, ↓zE, ↓exq, Nat.reduceBEq, Nat.reduceLT]
      (repeat ((with_reducible refine And.intro ?_ ?_); (focus (exact zS))))
      refine CallO.use (indexQ_c p l hl fid first cap h1 h2 hp) ?_
      try simp only [↓sxd, sxu, ↓zE, ↓exq, Nat.reduceLT]
      (all_goals try exact zF)) ?_
  refine Tr.ret ?_
  exact ⟨.inr rfl, congrArg (fun n => some (B n)) (idx_any p l)⟩
abbrev tysH3_78 := And.intro ty.sz0 <| And.intro ty.agg0 <| And.intro ty.elem0 <| And.intro ty.sz4 <| And.intro ty.agg4 <| And.intro ty.elem4 <| And.intro ty.zero4 <| And.intro ty.und4 <| And.intro ty.sz88 <| And.intro ty.agg88 <| And.intro ty.fld88_0 <| And.intro ty.fld88_1 <| And.intro ty.fld88_2 <| And.intro ty.elem88 <| And.intro ty.zero88 <| And.intro ty.pl88 <| And.intro ty.sz89 <| And.intro ty.agg89 <| And.intro ty.elem89 <| ty.zero89
theorem all1Q_c (p : HQ → Bool) (x : HQ) (fid : FuncId) (first cap : List SV) (h1 : ∀ c ∈ first, Pure c) (h2 : ∀ c ∈ cap, Pure c) (hp : CallP Tryz.prog G0 fid (first ++ [x.s] ++ cap) (B (p x))) : CallP Tryz.prog G0 78 [x.s, .fp [.clo (.func fid) first cap]] (B (!p x)) := by
  refine CallP.body 8 [.tmp 3] Tryz.func78 (by kernel_rfl) rfl rfl rfl zP zP ?_
  refine Tr.reg [1, 2] (by
      simp only [↓sxd, sxu, ↓zE, ↓exq, ↓zM, Nat.reduceBEq, Nat.reduceAdd, Nat.reduceLT, Nat.reduceEqDiff]
      (all_goals try exact zF)) ?_
  refine Tr.reg [3] (by
      simp only [↓sxd, sxu, ↓zE, ↓exq, ↓zD, Nat.reduceBEq, Nat.reduceAdd, Nat.reduceLT, tysH3_78]
      (repeat ((with_reducible refine And.intro ?_ ?_); (focus (exact zS))))
      refine CallO.use (hp) ?_
      try simp only [↓sxd, sxu, ↓zE, ↓exq, ↓zK, Nat.reduceLT]
      (all_goals try exact zF)) ?_
  refine Tr.ret ?_
  (refine ⟨.inr rfl, ?_⟩; first | rfl | exact ⟨rfl, rfl, trivial⟩ | exact ⟨rfl, rfl, rfl, trivial⟩ | (simp only [Res, ResL, ResOK, ↓sxd, sxu, ↓zE, ↓zC, zJ, ↓exP, ↓exq, ↓zB, ↓zK, ↓zD, ↓zM, Nat.reduceBEq, Nat.reduceAdd, Nat.reduceLT, Nat.reduceMul, Nat.reduceSub, Nat.reduceLeDiff, Nat.reduceEqDiff, Int.reduceLE, Int.reduceLT, Int.reduceToNat, reduceIte, sxe, tysH3_78]; (repeat' (first | rfl | exact trivial | exact fun h => h | exact fun h => (by rw [h]; rfl) | apply And.intro | omega | exact Nat.le_of_ble_eq_true rfl))))
abbrev tysH3_51 := And.intro ty.sz0 <| And.intro ty.agg0 <| And.intro ty.elem0 <| And.intro ty.sz4 <| And.intro ty.agg4 <| And.intro ty.elem4 <| And.intro ty.zero4 <| And.intro ty.und4 <| And.intro ty.sz36 <| And.intro ty.agg36 <| And.intro ty.elem36 <| And.intro ty.by36 <| And.intro ty.ez36 <| And.intro ty.zero36 <| And.intro ty.und36 <| And.intro ty.sz89 <| And.intro ty.agg89 <| And.intro ty.elem89 <| ty.zero89
theorem allQ_c (p : HQ → Bool) (l : List (HQ)) (hl : l.length < 4611686018427387904) (fid : FuncId) (first cap : List SV) (h1 : ∀ c ∈ first, Pure c) (h2 : ∀ c ∈ cap, Pure c) (hp : ∀ x ∈ l, CallP Tryz.prog G0 fid (first ++ [x.s] ++ cap) (B (p x))) : CallP Tryz.prog G0 51 [SQ l, .clo (.func fid) first cap] (B (l.all p)) := by
  refine CallP.body 9 [.tmp 4] Tryz.func51 (by kernel_rfl) rfl rfl rfl zP zP ?_
  refine Tr.reg [0, 3] (by
      simp only [↓sxd, sxu, ↓zE, ↓exq, ↓zM, Nat.reduceBEq, Nat.reduceAdd, Nat.reduceLT, Nat.reduceEqDiff]
      (all_goals try exact zF)) ?_
  refine Tr.reg [4] (by
      simp only [↓sxd, sxu, ↓zE, ↓exq, Nat.reduceBEq, Nat.reduceLT]
      (repeat ((with_reducible refine And.intro ?_ ?_); (focus (exact zS))))
      refine CallO.useZ [] (containsQ_c (fun x => !p x) l hl 78 [] [.fp [.clo (.func fid) first cap]] zP zP (fun x hx => all1Q_c p x fid first cap h1 h2 (hp x hx))) (List.nil_sublist _) zT ?_
      try simp only [↓sxd, sxu, ↓zE, ↓exq, ↓zK, Nat.reduceLT]
      (all_goals try exact zF)) ?_
  refine Tr.ret ?_
  exact ⟨.inr rfl, congrArg (fun n => some (B n)) (any_all p l)⟩
end Go.Proofs.YtijechcadlklhaaGreat
