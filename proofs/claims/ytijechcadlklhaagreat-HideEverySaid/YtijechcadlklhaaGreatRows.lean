/-
  No cell of these rows narrows 'for every input' (looked for: loops, veiled, ifaces, maps, wideKeys, modest, calm, conditions, laid).
  DERIVED. THE GIVEN ROWS OF THIS SEAT. 7 by the template 'for every input the law returns true; each argument reads behind the call as it read before'; 0 by the template 'total and deterministic' (their statements: YtijechcadlklhaaGreatTotals.lean).
  GIVEN WITH THE SEED: the statements are not yours to turn. If you find one false, say at which input.
  Laid BY PROGRAM, IN A SANDBOX (cutbox-rows.mjs): the forced cells as the released guide's own fill.sh prints them over the translation 64068ad2296b4d71… (all of the seat's roots in one cut). By AI agents, Wed Nov 11 2026. No macro, syntax, notation, axiom, sorry.
-/
import Derived.Test.YtijechcadlklhaaGreatChecked
import GoSem.Claim
import GoSem.ClaimJoined
import GoSem.ClaimMapViews
import Derived.JoinedTies
import Derived.KernelRfl
namespace Go.Proofs.YtijechcadlklhaaGreat
/- THE CELL 'sum', in the pinned program and in every row, IS THE sha256 OF THE DUMP (.gsa) THAT YtijechcadlklhaaGreatProg.lean LOADS. Nothing in Lean hashes anything: it is a label: what it is worth is what the hold of that sum in a sandbox is worth. -/
noncomputable def Tryz.pinned : Pinned := { name := "ytijechcadlklhaagreat", sum := "64068ad2296b4d71f5caf86554192fecac5e2844145c3f519b9234de5c4ebbe7", checked := Tryz.checked }
namespace Rows
def none {H : Type} : Left H := { results := [], args := [] }

/-- 'tithinglaw08.HideExposes': WHATEVER THE INPUT: true; the input reads as it did. -/
def hideExposesSpec : ChangeSpec := { name := "hideExposes", fn := fun _ => fun
  | [d1, d2, d3] => { results := [.lit (.bool true)], args := [d1, d2, d3] }
  | _ => none }
def hideExposesRow : OpenClaim := { program := "ytijechcadlklhaagreat", sum := "64068ad2296b4d71f5caf86554192fecac5e2844145c3f519b9234de5c4ebbe7", func := "tithing/tithinglaw08.HideExposes", spec := "hideExposes", unfollowed := true, recurses := true, plainKeys := false, apart := false }
def HideExposesSaid : Prop := hideExposesRow.holds Tryz.pinned (OpenSpec.ofChange hideExposesSpec)

/-- ITS FALSE NEIGHBOUR: 'it returns false'. Refute it at one input. -/
def hideExposesWrong : ChangeSpec := { name := "hideExposes", fn := fun _ => fun
  | [d1, d2, d3] => { results := [.lit (.bool false)], args := [d1, d2, d3] }
  | _ => none }
def HideExposesWrongFalsely : Prop := hideExposesRow.holds Tryz.pinned (OpenSpec.ofChange hideExposesWrong)

/-- 'tithinglaw08.HideHides': WHATEVER THE INPUT: true; the input reads as it did. -/
def hideHidesSpec : ChangeSpec := { name := "hideHides", fn := fun _ => fun
  | [d1, d2, d3] => { results := [.lit (.bool true)], args := [d1, d2, d3] }
  | _ => none }
def hideHidesRow : OpenClaim := { program := "ytijechcadlklhaagreat", sum := "64068ad2296b4d71f5caf86554192fecac5e2844145c3f519b9234de5c4ebbe7", func := "tithing/tithinglaw08.HideHides", spec := "hideHides", unfollowed := true, recurses := true, plainKeys := false, apart := false }
def HideHidesSaid : Prop := hideHidesRow.holds Tryz.pinned (OpenSpec.ofChange hideHidesSpec)

/-- ITS FALSE NEIGHBOUR: 'it returns false'. Refute it at one input. -/
def hideHidesWrong : ChangeSpec := { name := "hideHides", fn := fun _ => fun
  | [d1, d2, d3] => { results := [.lit (.bool false)], args := [d1, d2, d3] }
  | _ => none }
def HideHidesWrongFalsely : Prop := hideHidesRow.holds Tryz.pinned (OpenSpec.ofChange hideHidesWrong)

/-- 'tithinglaw08.HideMore': WHATEVER THE INPUT: true; the input reads as it did. -/
def hideMoreSpec : ChangeSpec := { name := "hideMore", fn := fun _ => fun
  | [d1, d2, d3, d4] => { results := [.lit (.bool true)], args := [d1, d2, d3, d4] }
  | _ => none }
def hideMoreRow : OpenClaim := { program := "ytijechcadlklhaagreat", sum := "64068ad2296b4d71f5caf86554192fecac5e2844145c3f519b9234de5c4ebbe7", func := "tithing/tithinglaw08.HideMore", spec := "hideMore", unfollowed := true, recurses := true, plainKeys := false, apart := false }
def HideMoreSaid : Prop := hideMoreRow.holds Tryz.pinned (OpenSpec.ofChange hideMoreSpec)

/-- ITS FALSE NEIGHBOUR: 'it returns false'. Refute it at one input. -/
def hideMoreWrong : ChangeSpec := { name := "hideMore", fn := fun _ => fun
  | [d1, d2, d3, d4] => { results := [.lit (.bool false)], args := [d1, d2, d3, d4] }
  | _ => none }
def HideMoreWrongFalsely : Prop := hideMoreRow.holds Tryz.pinned (OpenSpec.ofChange hideMoreWrong)

/-- 'tithinglaw08.HideSafe': WHATEVER THE INPUT: true; the input reads as it did. -/
def hideSafeSpec : ChangeSpec := { name := "hideSafe", fn := fun _ => fun
  | [d1, d2, d3] => { results := [.lit (.bool true)], args := [d1, d2, d3] }
  | _ => none }
def hideSafeRow : OpenClaim := { program := "ytijechcadlklhaagreat", sum := "64068ad2296b4d71f5caf86554192fecac5e2844145c3f519b9234de5c4ebbe7", func := "tithing/tithinglaw08.HideSafe", spec := "hideSafe", unfollowed := true, recurses := true, plainKeys := false, apart := false }
def HideSafeSaid : Prop := hideSafeRow.holds Tryz.pinned (OpenSpec.ofChange hideSafeSpec)

/-- ITS FALSE NEIGHBOUR: 'it returns false'. Refute it at one input. -/
def hideSafeWrong : ChangeSpec := { name := "hideSafe", fn := fun _ => fun
  | [d1, d2, d3] => { results := [.lit (.bool false)], args := [d1, d2, d3] }
  | _ => none }
def HideSafeWrongFalsely : Prop := hideSafeRow.holds Tryz.pinned (OpenSpec.ofChange hideSafeWrong)

/-- 'tithinglaw08.HideSmallest': WHATEVER THE INPUT: true; the input reads as it did. -/
def hideSmallestSpec : ChangeSpec := { name := "hideSmallest", fn := fun _ => fun
  | [d1, d2, d3, d4] => { results := [.lit (.bool true)], args := [d1, d2, d3, d4] }
  | _ => none }
def hideSmallestRow : OpenClaim := { program := "ytijechcadlklhaagreat", sum := "64068ad2296b4d71f5caf86554192fecac5e2844145c3f519b9234de5c4ebbe7", func := "tithing/tithinglaw08.HideSmallest", spec := "hideSmallest", unfollowed := true, recurses := true, plainKeys := false, apart := false }
def HideSmallestSaid : Prop := hideSmallestRow.holds Tryz.pinned (OpenSpec.ofChange hideSmallestSpec)

/-- ITS FALSE NEIGHBOUR: 'it returns false'. Refute it at one input. -/
def hideSmallestWrong : ChangeSpec := { name := "hideSmallest", fn := fun _ => fun
  | [d1, d2, d3, d4] => { results := [.lit (.bool false)], args := [d1, d2, d3, d4] }
  | _ => none }
def HideSmallestWrongFalsely : Prop := hideSmallestRow.holds Tryz.pinned (OpenSpec.ofChange hideSmallestWrong)

/-- 'tithinglaw08.HideProves': WHATEVER THE INPUT: true; the input reads as it did. -/
def hideProvesSpec : ChangeSpec := { name := "hideProves", fn := fun _ => fun
  | [d1, d2, d3] => { results := [.lit (.bool true)], args := [d1, d2, d3] }
  | _ => none }
def hideProvesRow : OpenClaim := { program := "ytijechcadlklhaagreat", sum := "64068ad2296b4d71f5caf86554192fecac5e2844145c3f519b9234de5c4ebbe7", func := "tithing/tithinglaw08.HideProves", spec := "hideProves", unfollowed := true, recurses := true, plainKeys := false, apart := false }
def HideProvesSaid : Prop := hideProvesRow.holds Tryz.pinned (OpenSpec.ofChange hideProvesSpec)

/-- ITS FALSE NEIGHBOUR: 'it returns false'. Refute it at one input. -/
def hideProvesWrong : ChangeSpec := { name := "hideProves", fn := fun _ => fun
  | [d1, d2, d3] => { results := [.lit (.bool false)], args := [d1, d2, d3] }
  | _ => none }
def HideProvesWrongFalsely : Prop := hideProvesRow.holds Tryz.pinned (OpenSpec.ofChange hideProvesWrong)

/-- 'tithinglaw08.HideEvery': WHATEVER THE INPUT: true; the input reads as it did. -/
def hideEverySpec : ChangeSpec := { name := "hideEvery", fn := fun _ => fun
  | [d1, d2, d3] => { results := [.lit (.bool true)], args := [d1, d2, d3] }
  | _ => none }
def hideEveryRow : OpenClaim := { program := "ytijechcadlklhaagreat", sum := "64068ad2296b4d71f5caf86554192fecac5e2844145c3f519b9234de5c4ebbe7", func := "tithing/tithinglaw08.HideEvery", spec := "hideEvery", unfollowed := true, recurses := true, plainKeys := false, apart := false }
def HideEverySaid : Prop := hideEveryRow.holds Tryz.pinned (OpenSpec.ofChange hideEverySpec)

/-- ITS FALSE NEIGHBOUR: 'it returns false'. Refute it at one input. -/
def hideEveryWrong : ChangeSpec := { name := "hideEvery", fn := fun _ => fun
  | [d1, d2, d3] => { results := [.lit (.bool false)], args := [d1, d2, d3] }
  | _ => none }
def HideEveryWrongFalsely : Prop := hideEveryRow.holds Tryz.pinned (OpenSpec.ofChange hideEveryWrong)

/- THE SECOND FORM. 'bulk': how many values and letters a reading holds, each counted each time it is reached (what is shared counts as often as it is met; a slice's spare places count too). A statement '..UptoSaid' is the law's where the arguments, and the package variables that the reading takes, are together of bulk at most 1048576: NARROWER than '..Said'. Prove '..Said' where nothing that the law and all that it calls make is longer than what came in: it says more and counts as full. Else prove '..UptoSaid'. A law counts once. -/
mutual
def uptoBulk {H : Type} : DataW H → Nat
  | .lit (.string bytes) => bytes.length + 1
  | .lit _ => 1
  | .nil => 1
  | .ptr d => uptoBulk d + 1
  | .slice elems spare => uptoBulkAll elems + uptoBulkAll spare + 1
  | .agg parts => uptoBulkAll parts + 1
  | .iface _ d => uptoBulk d + 1
  | .map entries => uptoBulkEntries entries + 1
  | .held _ => 1
def uptoBulkAll {H : Type} : List (DataW H) → Nat
  | [] => 0
  | d :: r => uptoBulk d + uptoBulkAll r
def uptoBulkEntries {H : Type} : List (Lit × DataW H) → Nat
  | [] => 0
  | x :: r => uptoBulkEntry x + uptoBulkEntries r
def uptoBulkEntry {H : Type} : Lit × DataW H → Nat
  | (.string bytes, d) => bytes.length + uptoBulk d + 1
  | (_, d) => uptoBulk d + 1
 end
def uptoSmall : (H : Type) → List (DataW H) → Bool := fun _ ds => decide (uptoBulkAll ds ≤ 1048576)
def OpenSpec.upto (s : _root_.Go.ChangeSpec) : _root_.Go.OpenSpec := { _root_.Go.OpenSpec.ofChange s with cond := some uptoSmall }

/-- 'tithinglaw08.HideExposes', WHERE WHAT IT READS IS OF BULK AT MOST 1048576: true; the input reads as it did. -/
def hideExposesUptoRow : OpenClaim := { program := "ytijechcadlklhaagreat", sum := "64068ad2296b4d71f5caf86554192fecac5e2844145c3f519b9234de5c4ebbe7", func := "tithing/tithinglaw08.HideExposes", spec := "hideExposes", unfollowed := true, recurses := true, plainKeys := false, apart := false, narrowed := true }
def HideExposesUptoSaid : Prop := hideExposesUptoRow.holds Tryz.pinned (OpenSpec.upto hideExposesSpec)

/-- 'tithinglaw08.HideHides', WHERE WHAT IT READS IS OF BULK AT MOST 1048576: true; the input reads as it did. -/
def hideHidesUptoRow : OpenClaim := { program := "ytijechcadlklhaagreat", sum := "64068ad2296b4d71f5caf86554192fecac5e2844145c3f519b9234de5c4ebbe7", func := "tithing/tithinglaw08.HideHides", spec := "hideHides", unfollowed := true, recurses := true, plainKeys := false, apart := false, narrowed := true }
def HideHidesUptoSaid : Prop := hideHidesUptoRow.holds Tryz.pinned (OpenSpec.upto hideHidesSpec)

/-- 'tithinglaw08.HideMore', WHERE WHAT IT READS IS OF BULK AT MOST 1048576: true; the input reads as it did. -/
def hideMoreUptoRow : OpenClaim := { program := "ytijechcadlklhaagreat", sum := "64068ad2296b4d71f5caf86554192fecac5e2844145c3f519b9234de5c4ebbe7", func := "tithing/tithinglaw08.HideMore", spec := "hideMore", unfollowed := true, recurses := true, plainKeys := false, apart := false, narrowed := true }
def HideMoreUptoSaid : Prop := hideMoreUptoRow.holds Tryz.pinned (OpenSpec.upto hideMoreSpec)

/-- 'tithinglaw08.HideSafe', WHERE WHAT IT READS IS OF BULK AT MOST 1048576: true; the input reads as it did. -/
def hideSafeUptoRow : OpenClaim := { program := "ytijechcadlklhaagreat", sum := "64068ad2296b4d71f5caf86554192fecac5e2844145c3f519b9234de5c4ebbe7", func := "tithing/tithinglaw08.HideSafe", spec := "hideSafe", unfollowed := true, recurses := true, plainKeys := false, apart := false, narrowed := true }
def HideSafeUptoSaid : Prop := hideSafeUptoRow.holds Tryz.pinned (OpenSpec.upto hideSafeSpec)

/-- 'tithinglaw08.HideSmallest', WHERE WHAT IT READS IS OF BULK AT MOST 1048576: true; the input reads as it did. -/
def hideSmallestUptoRow : OpenClaim := { program := "ytijechcadlklhaagreat", sum := "64068ad2296b4d71f5caf86554192fecac5e2844145c3f519b9234de5c4ebbe7", func := "tithing/tithinglaw08.HideSmallest", spec := "hideSmallest", unfollowed := true, recurses := true, plainKeys := false, apart := false, narrowed := true }
def HideSmallestUptoSaid : Prop := hideSmallestUptoRow.holds Tryz.pinned (OpenSpec.upto hideSmallestSpec)

/-- 'tithinglaw08.HideProves', WHERE WHAT IT READS IS OF BULK AT MOST 1048576: true; the input reads as it did. -/
def hideProvesUptoRow : OpenClaim := { program := "ytijechcadlklhaagreat", sum := "64068ad2296b4d71f5caf86554192fecac5e2844145c3f519b9234de5c4ebbe7", func := "tithing/tithinglaw08.HideProves", spec := "hideProves", unfollowed := true, recurses := true, plainKeys := false, apart := false, narrowed := true }
def HideProvesUptoSaid : Prop := hideProvesUptoRow.holds Tryz.pinned (OpenSpec.upto hideProvesSpec)

/-- 'tithinglaw08.HideEvery', WHERE WHAT IT READS IS OF BULK AT MOST 1048576: true; the input reads as it did. -/
def hideEveryUptoRow : OpenClaim := { program := "ytijechcadlklhaagreat", sum := "64068ad2296b4d71f5caf86554192fecac5e2844145c3f519b9234de5c4ebbe7", func := "tithing/tithinglaw08.HideEvery", spec := "hideEvery", unfollowed := true, recurses := true, plainKeys := false, apart := false, narrowed := true }
def HideEveryUptoSaid : Prop := hideEveryUptoRow.holds Tryz.pinned (OpenSpec.upto hideEverySpec)

end Rows
end Go.Proofs.YtijechcadlklhaaGreat
