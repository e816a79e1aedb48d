/-
  No cell of these rows narrows 'for every input' (looked for: loops, veiled, ifaces, maps, wideKeys, modest, calm, conditions, laid).
  DERIVED. THE GIVEN ROWS OF THIS SEAT. 3 by the template 'for every input the law returns true; each argument reads behind the call as it read before'; 0 by the template 'total and deterministic' (their statements: YtijechcadlklhaaTotals.lean).
  GIVEN WITH THE SEED: the statements are not yours to turn. If you find one false, say at which input.
  Laid BY PROGRAM, IN A SANDBOX (cutbox-rows.mjs): the forced cells as the released guide's own fill.sh prints them over the translation 7e476796cce99007… (all of the seat's roots in one cut). By AI agents, Wed Nov 11 2026. No macro, syntax, notation, axiom, sorry.
-/
import Derived.Test.YtijechcadlklhaaChecked
import GoSem.Claim
import GoSem.ClaimJoined
import GoSem.ClaimMapViews
import Derived.JoinedTies
import Derived.KernelRfl
namespace Go.Proofs.Ytijechcadlklhaa
/- THE CELL 'sum', in the pinned program and in every row, IS THE sha256 OF THE DUMP (.gsa) THAT YtijechcadlklhaaProg.lean LOADS. Nothing in Lean hashes anything: it is a label: what it is worth is what the hold of that sum in a sandbox is worth. -/
noncomputable def Try.pinned : Pinned := { name := "ytijechcadlklhaa", sum := "7e476796cce99007a94969eb94872f7b15ded37805629f69bf5e7654bd7a4ed5", checked := Try.checked }
namespace Rows
def none {H : Type} : Left H := { results := [], args := [] }

/-- 'tithinglaw08.HideRanges': WHATEVER THE INPUT: true; the input reads as it did. -/
def hideRangesSpec : ChangeSpec := { name := "hideRanges", fn := fun _ => fun
  | [d1, d2] => { results := [.lit (.bool true)], args := [d1, d2] }
  | _ => none }
def hideRangesRow : OpenClaim := { program := "ytijechcadlklhaa", sum := "7e476796cce99007a94969eb94872f7b15ded37805629f69bf5e7654bd7a4ed5", func := "tithing/tithinglaw08.HideRanges", spec := "hideRanges", unfollowed := true, recurses := true, plainKeys := false, apart := false }
def HideRangesSaid : Prop := hideRangesRow.holds Try.pinned (OpenSpec.ofChange hideRangesSpec)

/-- ITS FALSE NEIGHBOUR: 'it returns false'. Refute it at one input. -/
def hideRangesWrong : ChangeSpec := { name := "hideRanges", fn := fun _ => fun
  | [d1, d2] => { results := [.lit (.bool false)], args := [d1, d2] }
  | _ => none }
def HideRangesWrongFalsely : Prop := hideRangesRow.holds Try.pinned (OpenSpec.ofChange hideRangesWrong)

/-- 'tithinglaw08.HideEasier': WHATEVER THE INPUT: true; the input reads as it did. -/
def hideEasierSpec : ChangeSpec := { name := "hideEasier", fn := fun _ => fun
  | [d1, d2, d3, d4, d5] => { results := [.lit (.bool true)], args := [d1, d2, d3, d4, d5] }
  | _ => none }
def hideEasierRow : OpenClaim := { program := "ytijechcadlklhaa", sum := "7e476796cce99007a94969eb94872f7b15ded37805629f69bf5e7654bd7a4ed5", func := "tithing/tithinglaw08.HideEasier", spec := "hideEasier", unfollowed := true, recurses := true, plainKeys := false, apart := false }
def HideEasierSaid : Prop := hideEasierRow.holds Try.pinned (OpenSpec.ofChange hideEasierSpec)

/-- ITS FALSE NEIGHBOUR: 'it returns false'. Refute it at one input. -/
def hideEasierWrong : ChangeSpec := { name := "hideEasier", fn := fun _ => fun
  | [d1, d2, d3, d4, d5] => { results := [.lit (.bool false)], args := [d1, d2, d3, d4, d5] }
  | _ => none }
def HideEasierWrongFalsely : Prop := hideEasierRow.holds Try.pinned (OpenSpec.ofChange hideEasierWrong)

/-- 'tithinglaw08.HideTurned': WHATEVER THE INPUT: true; the input reads as it did. -/
def hideTurnedSpec : ChangeSpec := { name := "hideTurned", fn := fun _ => fun
  | [d1, d2, d3] => { results := [.lit (.bool true)], args := [d1, d2, d3] }
  | _ => none }
def hideTurnedRow : OpenClaim := { program := "ytijechcadlklhaa", sum := "7e476796cce99007a94969eb94872f7b15ded37805629f69bf5e7654bd7a4ed5", func := "tithing/tithinglaw08.HideTurned", spec := "hideTurned", unfollowed := true, recurses := true, plainKeys := false, apart := false }
def HideTurnedSaid : Prop := hideTurnedRow.holds Try.pinned (OpenSpec.ofChange hideTurnedSpec)

/-- ITS FALSE NEIGHBOUR: 'it returns false'. Refute it at one input. -/
def hideTurnedWrong : ChangeSpec := { name := "hideTurned", fn := fun _ => fun
  | [d1, d2, d3] => { results := [.lit (.bool false)], args := [d1, d2, d3] }
  | _ => none }
def HideTurnedWrongFalsely : Prop := hideTurnedRow.holds Try.pinned (OpenSpec.ofChange hideTurnedWrong)

/- THE SECOND FORM. 'bulk': how many values and letters a reading holds, each counted each time it is reached (what is shared counts as often as it is met; a slice's spare places count too). A statement '..UptoSaid' is the law's where the arguments, and the package variables that the reading takes, are together of bulk at most 1048576: NARROWER than '..Said'. Prove '..Said' where nothing that the law and all that it calls make is longer than what came in: it says more and counts as full. Else prove '..UptoSaid'. A law counts once. -/
mutual
def uptoBulk {H : Type} : DataW H → Nat
  | .lit (.string bytes) => bytes.length + 1
  | .lit _ => 1
  | .nil => 1
  | .ptr d => uptoBulk d + 1
  | .slice elems spare => uptoBulkAll elems + uptoBulkAll spare + 1
  | .agg parts => uptoBulkAll parts + 1
  | .iface _ d => uptoBulk d + 1
  | .map entries => uptoBulkEntries entries + 1
  | .held _ => 1
def uptoBulkAll {H : Type} : List (DataW H) → Nat
  | [] => 0
  | d :: r => uptoBulk d + uptoBulkAll r
def uptoBulkEntries {H : Type} : List (Lit × DataW H) → Nat
  | [] => 0
  | x :: r => uptoBulkEntry x + uptoBulkEntries r
def uptoBulkEntry {H : Type} : Lit × DataW H → Nat
  | (.string bytes, d) => bytes.length + uptoBulk d + 1
  | (_, d) => uptoBulk d + 1
 end
def uptoSmall : (H : Type) → List (DataW H) → Bool := fun _ ds => decide (uptoBulkAll ds ≤ 1048576)
def OpenSpec.upto (s : _root_.Go.ChangeSpec) : _root_.Go.OpenSpec := { _root_.Go.OpenSpec.ofChange s with cond := some uptoSmall }

/-- 'tithinglaw08.HideRanges', WHERE WHAT IT READS IS OF BULK AT MOST 1048576: true; the input reads as it did. -/
def hideRangesUptoRow : OpenClaim := { program := "ytijechcadlklhaa", sum := "7e476796cce99007a94969eb94872f7b15ded37805629f69bf5e7654bd7a4ed5", func := "tithing/tithinglaw08.HideRanges", spec := "hideRanges", unfollowed := true, recurses := true, plainKeys := false, apart := false, narrowed := true }
def HideRangesUptoSaid : Prop := hideRangesUptoRow.holds Try.pinned (OpenSpec.upto hideRangesSpec)

/-- 'tithinglaw08.HideEasier', WHERE WHAT IT READS IS OF BULK AT MOST 1048576: true; the input reads as it did. -/
def hideEasierUptoRow : OpenClaim := { program := "ytijechcadlklhaa", sum := "7e476796cce99007a94969eb94872f7b15ded37805629f69bf5e7654bd7a4ed5", func := "tithing/tithinglaw08.HideEasier", spec := "hideEasier", unfollowed := true, recurses := true, plainKeys := false, apart := false, narrowed := true }
def HideEasierUptoSaid : Prop := hideEasierUptoRow.holds Try.pinned (OpenSpec.upto hideEasierSpec)

/-- 'tithinglaw08.HideTurned', WHERE WHAT IT READS IS OF BULK AT MOST 1048576: true; the input reads as it did. -/
def hideTurnedUptoRow : OpenClaim := { program := "ytijechcadlklhaa", sum := "7e476796cce99007a94969eb94872f7b15ded37805629f69bf5e7654bd7a4ed5", func := "tithing/tithinglaw08.HideTurned", spec := "hideTurned", unfollowed := true, recurses := true, plainKeys := false, apart := false, narrowed := true }
def HideTurnedUptoSaid : Prop := hideTurnedUptoRow.holds Try.pinned (OpenSpec.upto hideTurnedSpec)

end Rows
end Go.Proofs.Ytijechcadlklhaa
