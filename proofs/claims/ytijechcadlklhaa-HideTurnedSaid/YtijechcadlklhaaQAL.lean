/- Lemmas, part QAL. Conditions: none. -/
import Derived.Test.YtijechcadlklhaaQAJ
set_option linter.unusedVariables false
namespace Go.Proofs.Ytijechcadlklhaa
open Go.Sy
set_option maxRecDepth 4000
def idxOf {α : Type} (p : α → Bool) (l : List α) : Int := match l.findIdx? p with | some i => i | none => -1
theorem idx_hit {α : Type} {p : α → Bool} {l : List α} {d : α} {i : Nat} (h : i < l.length) (hp : p (l.getD i d) = true) (hb : ∀ j, j < i → p (l.getD j d) = false) : (i : Int) = idxOf p l := by
  have e : ∀ j (hj : j < l.length), l.getD j d = l[j] := fun j hj => by simp [List.getD_eq_getElem?_getD, hj]
  have : l.findIdx? p = some i := by
    rw [List.findIdx?_eq_some_iff_getElem]
    refine ⟨h, by rw [← e i h]; exact hp, fun j hj => ?_⟩
    rw [← e j (by omega), hb j hj]; decide
  simp [idxOf, this]
theorem idx_miss {α : Type} {p : α → Bool} {l : List α} {d : α} (hb : ∀ j, j < l.length → p (l.getD j d) = false) : (-1 : Int) = idxOf p l := by
  have e : ∀ j (hj : j < l.length), l.getD j d = l[j] := fun j hj => by simp [List.getD_eq_getElem?_getD, hj]
  have : l.findIdx? p = none := by
    rw [List.findIdx?_eq_none_iff]
    intro x hx
    obtain ⟨j, hj, rfl⟩ := List.getElem_of_mem hx
    rw [← e j hj]; exact hb j hj
  simp [idxOf, this]
theorem idx_any {α : Type} (p : α → Bool) (l : List α) : decide (idxOf p l ≥ 0) = l.any p := by
  unfold idxOf
  cases h : l.findIdx? p with
  | none =>
    rw [List.findIdx?_eq_none_iff] at h
    have : l.any p = false := by simpa using h
    rw [this]; decide
  | some i =>
    rw [List.findIdx?_eq_some_iff_getElem] at h
    obtain ⟨h1, h2, _⟩ := h
    have : l.any p = true := List.any_eq_true.2 ⟨_, List.getElem_mem h1, h2⟩
    rw [this]; simp
theorem any_all {α : Type} (p : α → Bool) (l : List α) : (!l.any fun x => !p x) = l.all p := by
  induction l with
  | nil => rfl
  | cons x l ih => simp only [List.any_cons, List.all_cons, Bool.not_or, Bool.not_not, ih]
theorem getD_mem {α : Type} {l : List α} {i : Nat} {d : α} (h : i < l.length) : l.getD i d ∈ l := by
  rw [List.getD_eq_getElem?_getD, List.getElem?_eq_getElem h]; exact List.getElem_mem h
abbrev tysH3_99 := And.intro ty.sz0 <| And.intro ty.agg0 <| And.intro ty.elem0 <| And.intro ty.sz3 <| And.intro ty.agg3 <| And.intro ty.elem3 <| And.intro ty.zero3 <| And.intro ty.und3 <| And.intro ty.sz4 <| And.intro ty.agg4 <| And.intro ty.elem4 <| And.intro ty.zero4 <| And.intro ty.und4 <| And.intro ty.sz22 <| And.intro ty.agg22 <| And.intro ty.elem22 <| And.intro ty.by22 <| And.intro ty.ez22 <| And.intro ty.zero22 <| And.intro ty.und22 <| And.intro ty.sz38 <| And.intro ty.agg38 <| And.intro ty.elem38 <| And.intro ty.by38 <| And.intro ty.ez38 <| And.intro ty.zero38 <| And.intro ty.und38 <| And.intro ty.sz119 <| And.intro ty.agg119 <| And.intro ty.elem119 <| ty.zero119
theorem indexL_c (p : List Int → Bool) (l : List (List Int)) (hl : l.length < 4611686018427387904) (fid : FuncId) (first cap : List SV) (h1 : ∀ c ∈ first, Pure c) (h2 : ∀ c ∈ cap, Pure c) (hp : ∀ x ∈ l, CallP Try.prog G0 fid (first ++ [SI x] ++ cap) (B (p x))) : CallP Try.prog G0 99 [SL l, .clo (.func fid) first cap] (I (idxOf p l)) := by
  refine CallP.body 19 [.tmp 4] Try.func99 (by kernel_rfl) rfl rfl rfl zP zP ?_
  refine Tr.reg [0, 1] (by
      simp only [↓sxd, sxu, ↓zE, ↓exq, Nat.reduceBEq, Nat.reduceAdd, Nat.reduceLT]
      (all_goals try exact zF)) ?_
  refine Tr.seq ?_
  refine Tr.reg [0, 1, 7, 8] (by
      simp only [↓sxd, sxu, ↓zE, ↓exq, ↓zB, ↓zL, Nat.reduceBEq, Nat.reduceLT, sxe, tysH3_99]
      (all_goals try exact zF)) ?_
  refine Tr.imp (st' := ⟨[(0, SL l), (1, .clo (.func fid) first cap), (7, I l.length), (8, I 0)], [], 0, 19, [], 0⟩) (Imp.keepAll) (Tr.block (Tr.loopI (fun mm ss => ∃ (i : Nat), (i ≤ l.length ∧ ∀ j, j < i → p (l.getD j []) = false) ∧ l.length - i = mm ∧ ss = ⟨[(0, SL l), (1, .clo (.func fid) first cap), (7, I l.length), (8, I i)], [], 0, 19, [], 0⟩) _ ⟨0, ?_, rfl, rfl⟩ ?_))
  · exact ⟨Nat.zero_le _, fun j hj => absurd hj (by omega)⟩
  rintro mm ss ⟨i, hI, rfl, rfl⟩
  obtain ⟨hi, hb⟩ := hI
  refine Tr.reg [0, 1, 7, 8, 9] (by
      simp only [↓sxd, sxu, ↓zE, ↓exq, Nat.reduceBEq, Nat.reduceLT, sxe]
      (all_goals try exact zF)) ?_
  refine Tr.seq ?_
  refine Tr.cond rfl (fun h9 => ?_) (fun h9 => ?_)
  · have hlt : i < l.length := by simpa using h9
    refine Tr.skip ?_
    refine Tr.seq ?_
    refine Tr.block ?_
    refine Tr.reg [0, 1, 5, 7, 8] (by
        simp only [↓sxd, sxu, ↓zE, ↓exq, Nat.reduceBEq, Nat.reduceLT]
        (all_goals try exact zF)) ?_
    refine Tr.reg [0, 1, 5, 7, 8, 16] (by
        simp only [↓sxd, sxu, ↓zE, ↓exq, ↓zD, Nat.reduceBEq, Nat.reduceLT, sxe, tysH3_99, hlt]
        (repeat ((with_reducible refine And.intro ?_ ?_); (focus (exact zS))))
        refine CallO.use (hp (l.getD i []) (getD_mem hlt)) ?_
        try simp only [↓sxd, sxu, Nat.reduceBEq]
        (all_goals try exact zF)) ?_
    refine Tr.cond rfl (fun h16 => ?_) (fun h16 => ?_)
    · have hq := h16
      refine Tr.reg [4] (by
          simp only [↓sxd, sxu, ↓zE, ↓exq, Nat.reduceBEq, Nat.reduceLT]
          (all_goals try exact zF)) ?_
      refine Tr.ret ?_
      exact ⟨.inr rfl, congrArg (fun n => some (I n)) (idx_hit hlt h16 hb)⟩
    · have hq := h16
      refine Tr.skip ?_
      have w1 : IntKind.i64.wrap ((i : Int) + 1) = ((i + 1 : Nat) : Int) := by rw [wr (by omega) (by omega)]; rfl
      refine Tr.reg1 [0, 1, 7, 8] (by
          simp only [↓sxd, sxu, ↓zE, ↓exq, Nat.reduceBEq, Nat.reduceLT, w1]
          (all_goals try exact zF)) ?_
      refine ⟨_, _, ?_, Imp.keepAll, ⟨i + 1, ⟨hlt, fun j hj => ?_⟩, rfl, rfl⟩⟩
      · omega
      · by_cases hj2 : j < i
        · exact hb j hj2
        · have : j = i := by omega
          subst this; exact h16
  · have hge : i = l.length := by simp at h9; omega
    refine Tr.exit ?_
    refine Tr.reg [4] (by
        simp only [↓sxd, sxu, ↓zE, ↓exq, Nat.reduceLT]
        (all_goals try exact zF)) ?_
    refine Tr.ret ?_
    exact ⟨.inr rfl, congrArg (fun n => some (I n)) (idx_miss (by subst hge; exact hb))⟩
abbrev tysH3_107 := And.intro ty.sz0 <| And.intro ty.agg0 <| And.intro ty.elem0 <| And.intro ty.sz3 <| And.intro ty.agg3 <| And.intro ty.elem3 <| And.intro ty.zero3 <| And.intro ty.und3 <| And.intro ty.sz4 <| And.intro ty.agg4 <| And.intro ty.elem4 <| And.intro ty.zero4 <| And.intro ty.und4 <| And.intro ty.sz38 <| And.intro ty.agg38 <| And.intro ty.elem38 <| And.intro ty.by38 <| And.intro ty.ez38 <| And.intro ty.zero38 <| And.intro ty.und38 <| And.intro ty.sz131 <| And.intro ty.agg131 <| And.intro ty.elem131 <| ty.zero131
theorem indexI_c (p : Int → Bool) (l : List (Int)) (hl : l.length < 4611686018427387904) (fid : FuncId) (first cap : List SV) (h1 : ∀ c ∈ first, Pure c) (h2 : ∀ c ∈ cap, Pure c) (hp : ∀ x ∈ l, CallP Try.prog G0 fid (first ++ [I x] ++ cap) (B (p x))) : CallP Try.prog G0 107 [SI l, .clo (.func fid) first cap] (I (idxOf p l)) := by
  refine CallP.body 19 [.tmp 4] Try.func107 (by kernel_rfl) rfl rfl rfl zP zP ?_
  refine Tr.reg [0, 1] (by
      simp only [↓sxd, sxu, ↓zE, ↓exq, Nat.reduceBEq, Nat.reduceAdd, Nat.reduceLT]
      (all_goals try exact zF)) ?_
  refine Tr.seq ?_
  refine Tr.reg [0, 1, 7, 8] (by
      simp only [↓sxd, sxu, ↓zE, ↓exq, ↓zB, ↓zL, Nat.reduceBEq, Nat.reduceLT, sxe, tysH3_107]
      (all_goals try exact zF)) ?_
  refine Tr.imp (st' := ⟨[(0, SI l), (1, .clo (.func fid) first cap), (7, I l.length), (8, I 0)], [], 0, 19, [], 0⟩) (Imp.keepAll) (Tr.block (Tr.loopI (fun mm ss => ∃ (i : Nat), (i ≤ l.length ∧ ∀ j, j < i → p (l.getD j 0) = false) ∧ l.length - i = mm ∧ ss = ⟨[(0, SI l), (1, .clo (.func fid) first cap), (7, I l.length), (8, I i)], [], 0, 19, [], 0⟩) _ ⟨0, ?_, rfl, rfl⟩ ?_))
  · exact ⟨Nat.zero_le _, fun j hj => absurd hj (by omega)⟩
  rintro mm ss ⟨i, hI, rfl, rfl⟩
  obtain ⟨hi, hb⟩ := hI
  refine Tr.reg [0, 1, 7, 8, 9] (by
      simp only [↓sxd, sxu, ↓zE, ↓exq, Nat.reduceBEq, Nat.reduceLT, sxe]
      (all_goals try exact zF)) ?_
  refine Tr.seq ?_
  refine Tr.cond rfl (fun h9 => ?_) (fun h9 => ?_)
  · have hlt : i < l.length := by simpa using h9
    refine Tr.skip ?_
    refine Tr.seq ?_
    refine Tr.block ?_
    refine Tr.reg [0, 1, 5, 7, 8] (by
        simp only [↓sxd, sxu, ↓zE, ↓exq, Nat.reduceBEq, Nat.reduceLT]
        (all_goals try exact zF)) ?_
    refine Tr.reg [0, 1, 5, 7, 8, 16] (by
        simp only [↓sxd, sxu, ↓zE, ↓exq, ↓zD, Nat.reduceBEq, Nat.reduceLT, sxe, tysH3_107, hlt]
        (repeat ((with_reducible refine And.intro ?_ ?_); (focus (exact zS))))
        refine CallO.use (hp (l.getD i 0) (getD_mem hlt)) ?_
        try simp only [↓sxd, sxu, Nat.reduceBEq]
        (all_goals try exact zF)) ?_
    refine Tr.cond rfl (fun h16 => ?_) (fun h16 => ?_)
    · have hq := h16
      refine Tr.reg [4] (by
          simp only [↓sxd, sxu, ↓zE, ↓exq, Nat.reduceBEq, Nat.reduceLT]
          (all_goals try exact zF)) ?_
      refine Tr.ret ?_
      exact ⟨.inr rfl, congrArg (fun n => some (I n)) (idx_hit hlt h16 hb)⟩
    · have hq := h16
      refine Tr.skip ?_
      have w1 : IntKind.i64.wrap ((i : Int) + 1) = ((i + 1 : Nat) : Int) := by rw [wr (by omega) (by omega)]; rfl
      refine Tr.reg1 [0, 1, 7, 8] (by
          simp only [↓sxd, sxu, ↓zE, ↓exq, Nat.reduceBEq, Nat.reduceLT, w1]
          (all_goals try exact zF)) ?_
      refine ⟨_, _, ?_, Imp.keepAll, ⟨i + 1, ⟨hlt, fun j hj => ?_⟩, rfl, rfl⟩⟩
      · omega
      · by_cases hj2 : j < i
        · exact hb j hj2
        · have : j = i := by omega
          subst this; exact h16
  · have hge : i = l.length := by simp at h9; omega
    refine Tr.exit ?_
    refine Tr.reg [4] (by
        simp only [↓sxd, sxu, ↓zE, ↓exq, Nat.reduceLT]
        (all_goals try exact zF)) ?_
    refine Tr.ret ?_
    exact ⟨.inr rfl, congrArg (fun n => some (I n)) (idx_miss (by subst hge; exact hb))⟩
abbrev tysH3_86 := And.intro ty.sz0 <| And.intro ty.agg0 <| And.intro ty.elem0 <| And.intro ty.sz3 <| And.intro ty.agg3 <| And.intro ty.elem3 <| And.intro ty.zero3 <| And.intro ty.und3 <| And.intro ty.sz4 <| And.intro ty.agg4 <| And.intro ty.elem4 <| And.intro ty.zero4 <| And.intro ty.und4 <| And.intro ty.sz34 <| And.intro ty.agg34 <| And.intro ty.elem34 <| And.intro ty.by34 <| And.intro ty.ez34 <| And.intro ty.zero34 <| And.intro ty.und34 <| And.intro ty.sz63 <| And.intro ty.agg63 <| And.intro ty.fld63_0 <| And.intro ty.fld63_1 <| And.intro ty.elem63 <| And.intro ty.zero63 <| And.intro ty.pl63 <| And.intro ty.sz89 <| And.intro ty.agg89 <| And.intro ty.elem89 <| ty.zero89
theorem indexC_c (p : HC → Bool) (l : List (HC)) (hl : l.length < 4611686018427387904) (fid : FuncId) (first cap : List SV) (h1 : ∀ c ∈ first, Pure c) (h2 : ∀ c ∈ cap, Pure c) (hp : ∀ x ∈ l, CallP Try.prog G0 fid (first ++ [x.s] ++ cap) (B (p x))) : CallP Try.prog G0 86 [SC l, .clo (.func fid) first cap] (I (idxOf p l)) := by
  refine CallP.body 19 [.tmp 4] Try.func86 (by kernel_rfl) rfl rfl rfl zP zP ?_
  refine Tr.reg [0, 1] (by
      simp only [↓sxd, sxu, ↓zE, ↓exq, Nat.reduceBEq, Nat.reduceAdd, Nat.reduceLT]
      (all_goals try exact zF)) ?_
  refine Tr.seq ?_
  refine Tr.reg [0, 1, 7, 8] (by
      simp only [↓sxd, sxu, ↓zE, ↓exq, ↓zB, ↓zL, Nat.reduceBEq, Nat.reduceLT, sxe, tysH3_86]
      (all_goals try exact zF)) ?_
  refine Tr.imp (st' := ⟨[(0, SC l), (1, .clo (.func fid) first cap), (7, I l.length), (8, I 0)], [], 0, 19, [], 0⟩) (Imp.keepAll) (Tr.block (Tr.loopI (fun mm ss => ∃ (i : Nat), (i ≤ l.length ∧ ∀ j, j < i → p (l.getD j default) = false) ∧ l.length - i = mm ∧ ss = ⟨[(0, SC l), (1, .clo (.func fid) first cap), (7, I l.length), (8, I i)], [], 0, 19, [], 0⟩) _ ⟨0, ?_, rfl, rfl⟩ ?_))
  · exact ⟨Nat.zero_le _, fun j hj => absurd hj (by omega)⟩
  rintro mm ss ⟨i, hI, rfl, rfl⟩
  obtain ⟨hi, hb⟩ := hI
  refine Tr.reg [0, 1, 7, 8, 9] (by
      simp only [↓sxd, sxu, ↓zE, ↓exq, Nat.reduceBEq, Nat.reduceLT, sxe]
      (all_goals try exact zF)) ?_
  refine Tr.seq ?_
  refine Tr.cond rfl (fun h9 => ?_) (fun h9 => ?_)
  · have hlt : i < l.length := by simpa using h9
    refine Tr.skip ?_
    refine Tr.seq ?_
    refine Tr.block ?_
    refine Tr.reg [0, 1, 5, 7, 8] (by
        simp only [↓sxd, sxu, ↓zE, ↓exq, Nat.reduceBEq, Nat.reduceLT]
        (all_goals try exact zF)) ?_
    refine Tr.reg [0, 1, 5, 7, 8, 16] (by
        simp only [↓sxd, sxu, ↓zE, ↓exq, ↓zD, Nat.reduceBEq, Nat.reduceAdd, Nat.reduceLT, sxe, tysH3_86, hlt]
        (repeat ((with_reducible refine And.intro ?_ ?_); (focus (exact zS))))
        refine CallO.use (hp (l.getD i default) (getD_mem hlt)) ?_
        try simp only [↓sxd, sxu, Nat.reduceBEq]
        (all_goals try exact zF)) ?_
    refine Tr.cond rfl (fun h16 => ?_) (fun h16 => ?_)
    · have hq := h16
      refine Tr.reg [4] (by
          simp only [↓sxd, sxu, ↓zE, ↓exq, Nat.reduceBEq, Nat.reduceLT]
          (all_goals try exact zF)) ?_
      refine Tr.ret ?_
      exact ⟨.inr rfl, congrArg (fun n => some (I n)) (idx_hit hlt h16 hb)⟩
    · have hq := h16
      refine Tr.skip ?_
      have w1 : IntKind.i64.wrap ((i : Int) + 1) = ((i + 1 : Nat) : Int) := by rw [wr (by omega) (by omega)]; rfl
      refine Tr.reg1 [0, 1, 7, 8] (by
          simp only [↓sxd, sxu, ↓zE, ↓exq, Nat.reduceBEq, Nat.reduceLT, w1]
          (all_goals try exact zF)) ?_
      refine ⟨_, _, ?_, Imp.keepAll, ⟨i + 1, ⟨hlt, fun j hj => ?_⟩, rfl, rfl⟩⟩
      · omega
      · by_cases hj2 : j < i
        · exact hb j hj2
        · have : j = i := by omega
          subst this; exact h16
  · have hge : i = l.length := by simp at h9; omega
    refine Tr.exit ?_
    refine Tr.reg [4] (by
        simp only [↓sxd, sxu, ↓zE, ↓exq, Nat.reduceLT]
        (all_goals try exact zF)) ?_
    refine Tr.ret ?_
    exact ⟨.inr rfl, congrArg (fun n => some (I n)) (idx_miss (by subst hge; exact hb))⟩
abbrev tysH3_46 := And.intro ty.sz0 <| And.intro ty.agg0 <| And.intro ty.elem0 <| And.intro ty.sz3 <| And.intro ty.agg3 <| And.intro ty.elem3 <| And.intro ty.zero3 <| And.intro ty.und3 <| And.intro ty.sz4 <| And.intro ty.agg4 <| And.intro ty.elem4 <| And.intro ty.zero4 <| And.intro ty.und4 <| And.intro ty.sz52 <| And.intro ty.agg52 <| And.intro ty.elem52 <| And.intro ty.by52 <| And.intro ty.ez52 <| And.intro ty.zero52 <| And.intro ty.und52 <| And.intro ty.sz85 <| And.intro ty.agg85 <| And.intro ty.fld85_0 <| And.intro ty.fld85_1 <| And.intro ty.fld85_2 <| And.intro ty.elem85 <| And.intro ty.zero85 <| And.intro ty.pl85 <| And.intro ty.sz86 <| And.intro ty.agg86 <| And.intro ty.elem86 <| ty.zero86
theorem indexQ_c (p : HQ → Bool) (l : List (HQ)) (hl : l.length < 4611686018427387904) (fid : FuncId) (first cap : List SV) (h1 : ∀ c ∈ first, Pure c) (h2 : ∀ c ∈ cap, Pure c) (hp : ∀ x ∈ l, CallP Try.prog G0 fid (first ++ [x.s] ++ cap) (B (p x))) : CallP Try.prog G0 46 [SQ l, .clo (.func fid) first cap] (I (idxOf p l)) := by
  refine CallP.body 19 [.tmp 4] Try.func46 (by kernel_rfl) rfl rfl rfl zP zP ?_
  refine Tr.reg [0, 1] (by
      simp only [↓sxd, sxu, ↓zE, ↓exq, Nat.reduceBEq, Nat.reduceAdd, Nat.reduceLT]
      (all_goals try exact zF)) ?_
  refine Tr.seq ?_
  refine Tr.reg [0, 1, 7, 8] (by
      simp only [↓sxd, sxu, ↓zE, ↓exq, ↓zB, ↓zL, Nat.reduceBEq, Nat.reduceLT, sxe, tysH3_46]
      (all_goals try exact zF)) ?_
  refine Tr.imp (st' := ⟨[(0, SQ l), (1, .clo (.func fid) first cap), (7, I l.length), (8, I 0)], [], 0, 19, [], 0⟩) (Imp.keepAll) (Tr.block (Tr.loopI (fun mm ss => ∃ (i : Nat), (i ≤ l.length ∧ ∀ j, j < i → p (l.getD j default) = false) ∧ l.length - i = mm ∧ ss = ⟨[(0, SQ l), (1, .clo (.func fid) first cap), (7, I l.length), (8, I i)], [], 0, 19, [], 0⟩) _ ⟨0, ?_, rfl, rfl⟩ ?_))
  · exact ⟨Nat.zero_le _, fun j hj => absurd hj (by omega)⟩
  rintro mm ss ⟨i, hI, rfl, rfl⟩
  obtain ⟨hi, hb⟩ := hI
  refine Tr.reg [0, 1, 7, 8, 9] (by
      simp only [↓sxd, sxu, ↓zE, ↓exq, Nat.reduceBEq, Nat.reduceLT, sxe]
      (all_goals try exact zF)) ?_
  refine Tr.seq ?_
  refine Tr.cond rfl (fun h9 => ?_) (fun h9 => ?_)
  · have hlt : i < l.length := by simpa using h9
    refine Tr.skip ?_
    refine Tr.seq ?_
    refine Tr.block ?_
    refine Tr.reg [0, 1, 5, 7, 8] (by
        simp only [↓sxd, sxu, ↓zE, ↓exq, Nat.reduceBEq, Nat.reduceLT]
        (all_goals try exact zF)) ?_
    refine Tr.reg [0, 1, 5, 7, 8, 16] (by
        simp only [↓sxd, sxu, ↓zE, ↓exq, ↓zD, Nat.reduceBEq, Nat.reduceAdd, Nat.reduceLT, sxe, tysH3_46, hlt]
        (repeat ((with_reducible refine And.intro ?_ ?_); (focus (exact zS))))
        refine CallO.use (hp (l.getD i default) (getD_mem hlt)) ?_
        try simp only [↓sxd, sxu, Nat.reduceBEq]
        (all_goals try exact zF)) ?_
    refine Tr.cond rfl (fun h16 => ?_) (fun h16 => ?_)
    · have hq := h16
      refine Tr.reg [4] (by
          simp only [↓sxd, sxu, ↓zE, ↓exq, Nat.reduceBEq, Nat.reduceLT]
          (all_goals try exact zF)) ?_
      refine Tr.ret ?_
      exact ⟨.inr rfl, congrArg (fun n => some (I n)) (idx_hit hlt h16 hb)⟩
    · have hq := h16
      refine Tr.skip ?_
      have w1 : IntKind.i64.wrap ((i : Int) + 1) = ((i + 1 : Nat) : Int) := by rw [wr (by omega) (by omega)]; rfl
      refine Tr.reg1 [0, 1, 7, 8] (by
          simp only [↓sxd, sxu, ↓zE, ↓exq, Nat.reduceBEq, Nat.reduceLT, w1]
          (all_goals try exact zF)) ?_
      refine ⟨_, _, ?_, Imp.keepAll, ⟨i + 1, ⟨hlt, fun j hj => ?_⟩, rfl, rfl⟩⟩
      · omega
      · by_cases hj2 : j < i
        · exact hb j hj2
        · have : j = i := by omega
          subst this; exact h16
  · have hge : i = l.length := by simp at h9; omega
    refine Tr.exit ?_
    refine Tr.reg [4] (by
        simp only [↓sxd, sxu, ↓zE, ↓exq, Nat.reduceLT]
        (all_goals try exact zF)) ?_
    refine Tr.ret ?_
    exact ⟨.inr rfl, congrArg (fun n => some (I n)) (idx_miss (by subst hge; exact hb))⟩
abbrev tysH3_81 := And.intro ty.sz3 <| And.intro ty.agg3 <| And.intro ty.elem3 <| And.intro ty.zero3 <| And.intro ty.und3 <| And.intro ty.sz4 <| And.intro ty.agg4 <| And.intro ty.elem4 <| And.intro ty.zero4 <| And.intro ty.und4 <| And.intro ty.sz22 <| And.intro ty.agg22 <| And.intro ty.elem22 <| And.intro ty.by22 <| And.intro ty.ez22 <| And.intro ty.zero22 <| And.intro ty.und22 <| And.intro ty.sz119 <| And.intro ty.agg119 <| And.intro ty.elem119 <| ty.zero119
theorem containsL_c (p : List Int → Bool) (l : List (List Int)) (hl : l.length < 4611686018427387904) (fid : FuncId) (first cap : List SV) (h1 : ∀ c ∈ first, Pure c) (h2 : ∀ c ∈ cap, Pure c) (hp : ∀ x ∈ l, CallP Try.prog G0 fid (first ++ [SI x] ++ cap) (B (p x))) : CallP Try.prog G0 81 [SL l, .clo (.func fid) first cap] (B (l.any p)) := by
  refine CallP.body 9 [.tmp 4] Try.func81 (by kernel_rfl) rfl rfl rfl zP zP ?_
  refine Tr.reg [0, 1] (by
      simp only [↓sxd, sxu, ↓zE, ↓exq, Nat.reduceBEq, Nat.reduceAdd, Nat.reduceLT]
      (all_goals try exact zF)) ?_
  refine Tr.reg [4] (by
      simp only [↓sxd, sxu, ↓zE, ↓exq, Nat.reduceBEq, Nat.reduceLT]
      (repeat ((with_reducible refine And.intro ?_ ?_); (focus (exact zS))))
      refine CallO.use (indexL_c p l hl fid first cap h1 h2 hp) ?_
      try simp only [↓sxd, sxu, ↓zE, ↓exq, Nat.reduceLT]
      (all_goals try exact zF)) ?_
  refine Tr.ret ?_
  exact ⟨.inr rfl, congrArg (fun n => some (B n)) (idx_any p l)⟩
abbrev tysH3_82 := And.intro ty.sz4 <| And.intro ty.agg4 <| And.intro ty.elem4 <| And.intro ty.zero4 <| And.intro ty.und4 <| And.intro ty.sz38 <| And.intro ty.agg38 <| And.intro ty.elem38 <| And.intro ty.by38 <| And.intro ty.ez38 <| And.intro ty.zero38 <| And.intro ty.und38 <| And.intro ty.sz119 <| And.intro ty.agg119 <| And.intro ty.elem119 <| ty.zero119
theorem all1L_c (p : List Int → Bool) (x : List Int) (fid : FuncId) (first cap : List SV) (h1 : ∀ c ∈ first, Pure c) (h2 : ∀ c ∈ cap, Pure c) (hp : CallP Try.prog G0 fid (first ++ [SI x] ++ cap) (B (p x))) : CallP Try.prog G0 82 [SI x, .fp [.clo (.func fid) first cap]] (B (!p x)) := by
  refine CallP.body 8 [.tmp 3] Try.func82 (by kernel_rfl) rfl rfl rfl zP zP ?_
  refine Tr.reg [0, 1] (by
      simp only [↓sxd, sxu, ↓zE, ↓exq, Nat.reduceBEq, Nat.reduceAdd, Nat.reduceLT]
      (all_goals try exact zF)) ?_
  refine Tr.reg [3] (by
      simp only [↓sxd, sxu, ↓zE, ↓exq, ↓zD, Nat.reduceBEq, Nat.reduceLT, tysH3_82]
      (repeat ((with_reducible refine And.intro ?_ ?_); (focus (exact zS))))
      refine CallO.use (hp) ?_
      try simp only [↓sxd, sxu, ↓zE, ↓exq, ↓zJ, Nat.reduceLT]
      (all_goals try exact zF)) ?_
  refine Tr.ret ?_
  (refine ⟨.inr rfl, ?_⟩; first | rfl | exact ⟨rfl, rfl, trivial⟩ | exact ⟨rfl, rfl, rfl, trivial⟩ | (simp only [Res, ResL, ResOK, ↓sxd, sxu, ↓zE, ↓zC, zH, ↓exP, ↓exq, ↓zB, ↓zJ, ↓zD, Nat.reduceBEq, Nat.reduceAdd, Nat.reduceLT, Nat.reduceMul, Nat.reduceSub, Nat.reduceLeDiff, Nat.reduceEqDiff, Int.reduceLE, Int.reduceLT, Int.reduceToNat, reduceIte, sxe, tysH3_82]; (repeat' (first | rfl | exact trivial | exact fun h => h | exact fun h => (by rw [h]; rfl) | apply And.intro | omega | exact Nat.le_of_ble_eq_true rfl))))
abbrev tysH3_67 := And.intro ty.sz0 <| And.intro ty.agg0 <| And.intro ty.elem0 <| And.intro ty.sz4 <| And.intro ty.agg4 <| And.intro ty.elem4 <| And.intro ty.zero4 <| And.intro ty.und4 <| And.intro ty.sz22 <| And.intro ty.agg22 <| And.intro ty.elem22 <| And.intro ty.by22 <| And.intro ty.ez22 <| And.intro ty.zero22 <| And.intro ty.und22 <| And.intro ty.sz119 <| And.intro ty.agg119 <| And.intro ty.elem119 <| ty.zero119
theorem allL_c (p : List Int → Bool) (l : List (List Int)) (hl : l.length < 4611686018427387904) (fid : FuncId) (first cap : List SV) (h1 : ∀ c ∈ first, Pure c) (h2 : ∀ c ∈ cap, Pure c) (hp : ∀ x ∈ l, CallP Try.prog G0 fid (first ++ [SI x] ++ cap) (B (p x))) : CallP Try.prog G0 67 [SL l, .clo (.func fid) first cap] (B (l.all p)) := by
  refine CallP.body 9 [.tmp 4] Try.func67 (by kernel_rfl) rfl rfl rfl zP zP ?_
  refine Tr.reg [0, 3] (by
      simp only [↓sxd, sxu, ↓zE, ↓exq, ↓zN, Nat.reduceBEq, Nat.reduceAdd, Nat.reduceLT, Nat.reduceEqDiff]
      (all_goals try exact zF)) ?_
  refine Tr.reg [4] (by
      simp only [↓sxd, sxu, ↓zE, ↓exq, Nat.reduceBEq, Nat.reduceLT]
      (repeat ((with_reducible refine And.intro ?_ ?_); (focus (exact zS))))
      refine CallO.useZ [] (containsL_c (fun x => !p x) l hl 82 [] [.fp [.clo (.func fid) first cap]] zP zP (fun x hx => all1L_c p x fid first cap h1 h2 (hp x hx))) (List.nil_sublist _) zT ?_
      try simp only [↓sxd, sxu, ↓zE, ↓exq, ↓zJ, Nat.reduceLT]
      (all_goals try exact zF)) ?_
  refine Tr.ret ?_
  exact ⟨.inr rfl, congrArg (fun n => some (B n)) (any_all p l)⟩
abbrev tysH3_100 := And.intro ty.sz3 <| And.intro ty.agg3 <| And.intro ty.elem3 <| And.intro ty.zero3 <| And.intro ty.und3 <| And.intro ty.sz4 <| And.intro ty.agg4 <| And.intro ty.elem4 <| And.intro ty.zero4 <| And.intro ty.und4 <| And.intro ty.sz38 <| And.intro ty.agg38 <| And.intro ty.elem38 <| And.intro ty.by38 <| And.intro ty.ez38 <| And.intro ty.zero38 <| And.intro ty.und38 <| And.intro ty.sz131 <| And.intro ty.agg131 <| And.intro ty.elem131 <| ty.zero131
theorem containsI_c (p : Int → Bool) (l : List (Int)) (hl : l.length < 4611686018427387904) (fid : FuncId) (first cap : List SV) (h1 : ∀ c ∈ first, Pure c) (h2 : ∀ c ∈ cap, Pure c) (hp : ∀ x ∈ l, CallP Try.prog G0 fid (first ++ [I x] ++ cap) (B (p x))) : CallP Try.prog G0 100 [SI l, .clo (.func fid) first cap] (B (l.any p)) := by
  refine CallP.body 9 [.tmp 4] Try.func100 (by kernel_rfl) rfl rfl rfl zP zP ?_
  refine Tr.reg [0, 1] (by
      simp only [↓sxd, sxu, ↓zE, ↓exq, Nat.reduceBEq, Nat.reduceAdd, Nat.reduceLT]
      (all_goals try exact zF)) ?_
  refine Tr.reg [4] (by
      simp only [↓sxd, sxu, ↓zE, ↓exq, Nat.reduceBEq, Nat.reduceLT]
      (repeat ((with_reducible refine And.intro ?_ ?_); (focus (exact zS))))
      refine CallO.use (indexI_c p l hl fid first cap h1 h2 hp) ?_
      try simp only [↓sxd, sxu, ↓zE, ↓exq, Nat.reduceLT]
      (all_goals try exact zF)) ?_
  refine Tr.ret ?_
  exact ⟨.inr rfl, congrArg (fun n => some (B n)) (idx_any p l)⟩
abbrev tysH3_101 := And.intro ty.sz3 <| And.intro ty.agg3 <| And.intro ty.elem3 <| And.intro ty.zero3 <| And.intro ty.und3 <| And.intro ty.sz4 <| And.intro ty.agg4 <| And.intro ty.elem4 <| And.intro ty.zero4 <| And.intro ty.und4 <| And.intro ty.sz131 <| And.intro ty.agg131 <| And.intro ty.elem131 <| ty.zero131
theorem all1I_c (p : Int → Bool) (x : Int) (fid : FuncId) (first cap : List SV) (h1 : ∀ c ∈ first, Pure c) (h2 : ∀ c ∈ cap, Pure c) (hp : CallP Try.prog G0 fid (first ++ [I x] ++ cap) (B (p x))) : CallP Try.prog G0 101 [I x, .fp [.clo (.func fid) first cap]] (B (!p x)) := by
  refine CallP.body 8 [.tmp 3] Try.func101 (by kernel_rfl) rfl rfl rfl zP zP ?_
  refine Tr.reg [0, 1] (by
      simp only [↓sxd, sxu, ↓zE, ↓exq, Nat.reduceBEq, Nat.reduceAdd, Nat.reduceLT]
      (all_goals try exact zF)) ?_
  refine Tr.reg [3] (by
      simp only [↓sxd, sxu, ↓zE, ↓exq, ↓zD, Nat.reduceBEq, Nat.reduceLT, tysH3_101]
      (repeat ((with_reducible refine And.intro ?_ ?_); (focus (exact zS))))
      refine CallO.use (hp) ?_
      try simp only [↓sxd, sxu, ↓zE, ↓exq, ↓zJ, Nat.reduceLT]
      (all_goals try exact zF)) ?_
  refine Tr.ret ?_
  (refine ⟨.inr rfl, ?_⟩; first | rfl | exact ⟨rfl, rfl, trivial⟩ | exact ⟨rfl, rfl, rfl, trivial⟩ | (simp only [Res, ResL, ResOK, ↓sxd, sxu, ↓zE, ↓zC, zH, ↓exP, ↓exq, ↓zB, ↓zJ, ↓zD, Nat.reduceBEq, Nat.reduceAdd, Nat.reduceLT, Nat.reduceMul, Nat.reduceSub, Nat.reduceLeDiff, Nat.reduceEqDiff, Int.reduceLE, Int.reduceLT, Int.reduceToNat, reduceIte, sxe, tysH3_101]; (repeat' (first | rfl | exact trivial | exact fun h => h | exact fun h => (by rw [h]; rfl) | apply And.intro | omega | exact Nat.le_of_ble_eq_true rfl))))
abbrev tysH3_84 := And.intro ty.sz0 <| And.intro ty.agg0 <| And.intro ty.elem0 <| And.intro ty.sz4 <| And.intro ty.agg4 <| And.intro ty.elem4 <| And.intro ty.zero4 <| And.intro ty.und4 <| And.intro ty.sz38 <| And.intro ty.agg38 <| And.intro ty.elem38 <| And.intro ty.by38 <| And.intro ty.ez38 <| And.intro ty.zero38 <| And.intro ty.und38 <| And.intro ty.sz131 <| And.intro ty.agg131 <| And.intro ty.elem131 <| ty.zero131
theorem allI_c (p : Int → Bool) (l : List (Int)) (hl : l.length < 4611686018427387904) (fid : FuncId) (first cap : List SV) (h1 : ∀ c ∈ first, Pure c) (h2 : ∀ c ∈ cap, Pure c) (hp : ∀ x ∈ l, CallP Try.prog G0 fid (first ++ [I x] ++ cap) (B (p x))) : CallP Try.prog G0 84 [SI l, .clo (.func fid) first cap] (B (l.all p)) := by
  refine CallP.body 9 [.tmp 4] Try.func84 (by kernel_rfl) rfl rfl rfl zP zP ?_
  refine Tr.reg [0, 3] (by
      simp only [↓sxd, sxu, ↓zE, ↓exq, ↓zN, Nat.reduceBEq, Nat.reduceAdd, Nat.reduceLT, Nat.reduceEqDiff]
      (all_goals try exact zF)) ?_
  refine Tr.reg [4] (by
      simp only [↓sxd, sxu, ↓zE, ↓exq, Nat.reduceBEq, Nat.reduceLT]
      (repeat ((with_reducible refine And.intro ?_ ?_); (focus (exact zS))))
      refine CallO.useZ [] (containsI_c (fun x => !p x) l hl 101 [] [.fp [.clo (.func fid) first cap]] zP zP (fun x hx => all1I_c p x fid first cap h1 h2 (hp x hx))) (List.nil_sublist _) zT ?_
      try simp only [↓sxd, sxu, ↓zE, ↓exq, ↓zJ, Nat.reduceLT]
      (all_goals try exact zF)) ?_
  refine Tr.ret ?_
  exact ⟨.inr rfl, congrArg (fun n => some (B n)) (any_all p l)⟩
abbrev tysH3_70 := And.intro ty.sz3 <| And.intro ty.agg3 <| And.intro ty.elem3 <| And.intro ty.zero3 <| And.intro ty.und3 <| And.intro ty.sz4 <| And.intro ty.agg4 <| And.intro ty.elem4 <| And.intro ty.zero4 <| And.intro ty.und4 <| And.intro ty.sz34 <| And.intro ty.agg34 <| And.intro ty.elem34 <| And.intro ty.by34 <| And.intro ty.ez34 <| And.intro ty.zero34 <| And.intro ty.und34 <| And.intro ty.sz89 <| And.intro ty.agg89 <| And.intro ty.elem89 <| ty.zero89
theorem containsC_c (p : HC → Bool) (l : List (HC)) (hl : l.length < 4611686018427387904) (fid : FuncId) (first cap : List SV) (h1 : ∀ c ∈ first, Pure c) (h2 : ∀ c ∈ cap, Pure c) (hp : ∀ x ∈ l, CallP Try.prog G0 fid (first ++ [x.s] ++ cap) (B (p x))) : CallP Try.prog G0 70 [SC l, .clo (.func fid) first cap] (B (l.any p)) := by
  refine CallP.body 9 [.tmp 4] Try.func70 (by kernel_rfl) rfl rfl rfl zP zP ?_
  refine Tr.reg [0, 1] (by
      simp only [↓sxd, sxu, ↓zE, ↓exq, Nat.reduceBEq, Nat.reduceAdd, Nat.reduceLT]
      (all_goals try exact zF)) ?_
  refine Tr.reg [4] (by
      simp only [↓sxd, sxu, ↓zE, ↓exq, Nat.reduceBEq, Nat.reduceLT]
      (repeat ((with_reducible refine And.intro ?_ ?_); (focus (exact zS))))
      refine CallO.use (indexC_c p l hl fid first cap h1 h2 hp) ?_
      try simp only [↓sxd, sxu, ↓zE, ↓exq, Nat.reduceLT]
      (all_goals try exact zF)) ?_
  refine Tr.ret ?_
  exact ⟨.inr rfl, congrArg (fun n => some (B n)) (idx_any p l)⟩
abbrev tysH3_71 := And.intro ty.sz0 <| And.intro ty.agg0 <| And.intro ty.elem0 <| And.intro ty.sz4 <| And.intro ty.agg4 <| And.intro ty.elem4 <| And.intro ty.zero4 <| And.intro ty.und4 <| And.intro ty.sz63 <| And.intro ty.agg63 <| And.intro ty.fld63_0 <| And.intro ty.fld63_1 <| And.intro ty.elem63 <| And.intro ty.zero63 <| And.intro ty.pl63 <| And.intro ty.sz89 <| And.intro ty.agg89 <| And.intro ty.elem89 <| ty.zero89
theorem all1C_c (p : HC → Bool) (x : HC) (fid : FuncId) (first cap : List SV) (h1 : ∀ c ∈ first, Pure c) (h2 : ∀ c ∈ cap, Pure c) (hp : CallP Try.prog G0 fid (first ++ [x.s] ++ cap) (B (p x))) : CallP Try.prog G0 71 [x.s, .fp [.clo (.func fid) first cap]] (B (!p x)) := by
  refine CallP.body 8 [.tmp 3] Try.func71 (by kernel_rfl) rfl rfl rfl zP zP ?_
  refine Tr.reg [1, 2] (by
      simp only [↓sxd, sxu, ↓zE, ↓exq, ↓zN, Nat.reduceBEq, Nat.reduceAdd, Nat.reduceLT, Nat.reduceEqDiff]
      (all_goals try exact zF)) ?_
  refine Tr.reg [3] (by
      simp only [↓sxd, sxu, ↓zE, ↓exq, ↓zD, Nat.reduceBEq, Nat.reduceAdd, Nat.reduceLT, tysH3_71]
      (repeat ((with_reducible refine And.intro ?_ ?_); (focus (exact zS))))
      refine CallO.use (hp) ?_
      try simp only [↓sxd, sxu, ↓zE, ↓exq, ↓zJ, Nat.reduceLT]
      (all_goals try exact zF)) ?_
  refine Tr.ret ?_
  (refine ⟨.inr rfl, ?_⟩; first | rfl | exact ⟨rfl, rfl, trivial⟩ | exact ⟨rfl, rfl, rfl, trivial⟩ | (simp only [Res, ResL, ResOK, ↓sxd, sxu, ↓zE, ↓zC, zH, ↓exP, ↓exq, ↓zB, ↓zJ, ↓zD, ↓zN, Nat.reduceBEq, Nat.reduceAdd, Nat.reduceLT, Nat.reduceMul, Nat.reduceSub, Nat.reduceLeDiff, Nat.reduceEqDiff, Int.reduceLE, Int.reduceLT, Int.reduceToNat, reduceIte, sxe, tysH3_71]; (repeat' (first | rfl | exact trivial | exact fun h => h | exact fun h => (by rw [h]; rfl) | apply And.intro | omega | exact Nat.le_of_ble_eq_true rfl))))
abbrev tysH3_49 := And.intro ty.sz0 <| And.intro ty.agg0 <| And.intro ty.elem0 <| And.intro ty.sz4 <| And.intro ty.agg4 <| And.intro ty.elem4 <| And.intro ty.zero4 <| And.intro ty.und4 <| And.intro ty.sz34 <| And.intro ty.agg34 <| And.intro ty.elem34 <| And.intro ty.by34 <| And.intro ty.ez34 <| And.intro ty.zero34 <| And.intro ty.und34 <| And.intro ty.sz89 <| And.intro ty.agg89 <| And.intro ty.elem89 <| ty.zero89
theorem allC_c (p : HC → Bool) (l : List (HC)) (hl : l.length < 4611686018427387904) (fid : FuncId) (first cap : List SV) (h1 : ∀ c ∈ first, Pure c) (h2 : ∀ c ∈ cap, Pure c) (hp : ∀ x ∈ l, CallP Try.prog G0 fid (first ++ [x.s] ++ cap) (B (p x))) : CallP Try.prog G0 49 [SC l, .clo (.func fid) first cap] (B (l.all p)) := by
  refine CallP.body 9 [.tmp 4] Try.func49 (by kernel_rfl) rfl rfl rfl zP zP ?_
  refine Tr.reg [0, 3] (by
      simp only [↓sxd, sxu, ↓zE, ↓exq, ↓zN, Nat.reduceBEq, Nat.reduceAdd, Nat.reduceLT, Nat.reduceEqDiff]
      (all_goals try exact zF)) ?_
  refine Tr.reg [4] (by
      simp only [↓sxd, sxu, ↓zE, ↓exq, Nat.reduceBEq, Nat.reduceLT]
      (repeat ((with_reducible refine And.intro ?_ ?_); (focus (exact zS))))
      refine CallO.useZ [] (containsC_c (fun x => !p x) l hl 71 [] [.fp [.clo (.func fid) first cap]] zP zP (fun x hx => all1C_c p x fid first cap h1 h2 (hp x hx))) (List.nil_sublist _) zT ?_
      try simp only [↓sxd, sxu, ↓zE, ↓exq, ↓zJ, Nat.reduceLT]
      (all_goals try exact zF)) ?_
  refine Tr.ret ?_
  exact ⟨.inr rfl, congrArg (fun n => some (B n)) (any_all p l)⟩
abbrev tysH3_58 := And.intro ty.sz3 <| And.intro ty.agg3 <| And.intro ty.elem3 <| And.intro ty.zero3 <| And.intro ty.und3 <| And.intro ty.sz4 <| And.intro ty.agg4 <| And.intro ty.elem4 <| And.intro ty.zero4 <| And.intro ty.und4 <| And.intro ty.sz52 <| And.intro ty.agg52 <| And.intro ty.elem52 <| And.intro ty.by52 <| And.intro ty.ez52 <| And.intro ty.zero52 <| And.intro ty.und52 <| And.intro ty.sz86 <| And.intro ty.agg86 <| And.intro ty.elem86 <| ty.zero86
theorem containsQ_c (p : HQ → Bool) (l : List (HQ)) (hl : l.length < 4611686018427387904) (fid : FuncId) (first cap : List SV) (h1 : ∀ c ∈ first, Pure c) (h2 : ∀ c ∈ cap, Pure c) (hp : ∀ x ∈ l, CallP Try.prog G0 fid (first ++ [x.s] ++ cap) (B (p x))) : CallP Try.prog G0 58 [SQ l, .clo (.func fid) first cap] (B (l.any p)) := by
  refine CallP.body 9 [.tmp 4] Try.func58 (by kernel_rfl) rfl rfl rfl zP zP ?_
  refine Tr.reg [0, 1] (by
      simp only [↓sxd, sxu, ↓zE, ↓exq, Nat.reduceBEq, Nat.reduceAdd, Nat.reduceLT]
      (all_goals try exact zF)) ?_
  refine Tr.reg [4] (by
      simp only [↓sxd, sxu, ↓zE, ↓exq, Nat.reduceBEq, Nat.reduceLT]
      (repeat ((with_reducible refine And.intro ?_ ?_); (focus (exact zS))))
      refine CallO.use (indexQ_c p l hl fid first cap h1 h2 hp) ?_
      try simp only [↓sxd, sxu, ↓zE, ↓exq, Nat.reduceLT]
      (all_goals try exact zF)) ?_
  refine Tr.ret ?_
  exact ⟨.inr rfl, congrArg (fun n => some (B n)) (idx_any p l)⟩
abbrev tysH3_59 := And.intro ty.sz0 <| And.intro ty.agg0 <| And.intro ty.elem0 <| And.intro ty.sz4 <| And.intro ty.agg4 <| And.intro ty.elem4 <| And.intro ty.zero4 <| And.intro ty.und4 <| And.intro ty.sz85 <| And.intro ty.agg85 <| And.intro ty.fld85_0 <| And.intro ty.fld85_1 <| And.intro ty.fld85_2 <| And.intro ty.elem85 <| And.intro ty.zero85 <| And.intro ty.pl85 <| And.intro ty.sz86 <| And.intro ty.agg86 <| And.intro ty.elem86 <| ty.zero86
theorem all1Q_c (p : HQ → Bool) (x : HQ) (fid : FuncId) (first cap : List SV) (h1 : ∀ c ∈ first, Pure c) (h2 : ∀ c ∈ cap, Pure c) (hp : CallP Try.prog G0 fid (first ++ [x.s] ++ cap) (B (p x))) : CallP Try.prog G0 59 [x.s, .fp [.clo (.func fid) first cap]] (B (!p x)) := by
  refine CallP.body 8 [.tmp 3] Try.func59 (by kernel_rfl) rfl rfl rfl zP zP ?_
  refine Tr.reg [1, 2] (by
      simp only [↓sxd, sxu, ↓zE, ↓exq, ↓zN, Nat.reduceBEq, Nat.reduceAdd, Nat.reduceLT, Nat.reduceEqDiff]
      (all_goals try exact zF)) ?_
  refine Tr.reg [3] (by
      simp only [↓sxd, sxu, ↓zE, ↓exq, ↓zD, Nat.reduceBEq, Nat.reduceAdd, Nat.reduceLT, tysH3_59]
      (repeat ((with_reducible refine And.intro ?_ ?_); (focus (exact zS))))
      refine CallO.use (hp) ?_
      try simp only [↓sxd, sxu, ↓zE, ↓exq, ↓zJ, Nat.reduceLT]
      (all_goals try exact zF)) ?_
  refine Tr.ret ?_
  (refine ⟨.inr rfl, ?_⟩; first | rfl | exact ⟨rfl, rfl, trivial⟩ | exact ⟨rfl, rfl, rfl, trivial⟩ | (simp only [Res, ResL, ResOK, ↓sxd, sxu, ↓zE, ↓zC, zH, ↓exP, ↓exq, ↓zB, ↓zJ, ↓zD, ↓zN, Nat.reduceBEq, Nat.reduceAdd, Nat.reduceLT, Nat.reduceMul, Nat.reduceSub, Nat.reduceLeDiff, Nat.reduceEqDiff, Int.reduceLE, Int.reduceLT, Int.reduceToNat, reduceIte, sxe, tysH3_59]; (repeat' (first | rfl | exact trivial | exact fun h => h | exact fun h => (by rw [h]; rfl) | apply And.intro | omega | exact Nat.le_of_ble_eq_true rfl))))
abbrev tysH3_38 := And.intro ty.sz0 <| And.intro ty.agg0 <| And.intro ty.elem0 <| And.intro ty.sz4 <| And.intro ty.agg4 <| And.intro ty.elem4 <| And.intro ty.zero4 <| And.intro ty.und4 <| And.intro ty.sz52 <| And.intro ty.agg52 <| And.intro ty.elem52 <| And.intro ty.by52 <| And.intro ty.ez52 <| And.intro ty.zero52 <| And.intro ty.und52 <| And.intro ty.sz86 <| And.intro ty.agg86 <| And.intro ty.elem86 <| ty.zero86
theorem allQ_c (p : HQ → Bool) (l : List (HQ)) (hl : l.length < 4611686018427387904) (fid : FuncId) (first cap : List SV) (h1 : ∀ c ∈ first, Pure c) (h2 : ∀ c ∈ cap, Pure c) (hp : ∀ x ∈ l, CallP Try.prog G0 fid (first ++ [x.s] ++ cap) (B (p x))) : CallP Try.prog G0 38 [SQ l, .clo (.func fid) first cap] (B (l.all p)) := by
  refine CallP.body 9 [.tmp 4] Try.func38 (by kernel_rfl) rfl rfl rfl zP zP ?_
  refine Tr.reg [0, 3] (by
      simp only [↓sxd, sxu, ↓zE, ↓exq, ↓zN, Nat.reduceBEq, Nat.reduceAdd, Nat.reduceLT, Nat.reduceEqDiff]
      (all_goals try exact zF)) ?_
  refine Tr.reg [4] (by
      simp only [↓sxd, sxu, ↓zE, ↓exq, Nat.reduceBEq, Nat.reduceLT]
      (repeat ((with_reducible refine And.intro ?_ ?_); (focus (exact zS))))
      refine CallO.useZ [] (containsQ_c (fun x => !p x) l hl 59 [] [.fp [.clo (.func fid) first cap]] zP zP (fun x hx => all1Q_c p x fid first cap h1 h2 (hp x hx))) (List.nil_sublist _) zT ?_
      try simp only [↓sxd, sxu, ↓zE, ↓exq, ↓zJ, Nat.reduceLT]
      (all_goals try exact zF)) ?_
  refine Tr.ret ?_
  exact ⟨.inr rfl, congrArg (fun n => some (B n)) (any_all p l)⟩
end Go.Proofs.Ytijechcadlklhaa
