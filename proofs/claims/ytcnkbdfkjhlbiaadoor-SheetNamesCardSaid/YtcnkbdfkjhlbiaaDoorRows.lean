/-
  NARROWER THAN 'FOR EVERY INPUT', by the rows' own cells (each row's printed sentence says how): SheetPersons: laid · SheetDrops: laid · SheetCodes: laid · SheetMore: laid · SheetOrder: laid · SheetDropped: laid · SheetCoders: laid · SheetSolves: laid · SheetCoded: laid · SheetProves: laid · SheetTogether: laid · SheetEvery: laid · SheetFree: laid · SheetShows: laid · SheetEnds: laid · SheetNames: laid.
  DERIVED. THE GIVEN ROWS OF THIS SEAT. 16 by the template 'for every input the law returns true; each argument reads behind the call as it read before'; 0 by the template 'total and deterministic' (their statements: YtcnkbdfkjhlbiaaDoorTotals.lean).
  GIVEN WITH THE SEED: the statements are not yours to turn. If you find one false, say at which input.
  Laid BY PROGRAM, IN A SANDBOX (cutbox-rows.mjs): the forced cells as the released guide's own fill.sh prints them over the translation bed56f2076d77ccb… (all of the seat's roots in one cut). By AI agents, Wed Nov 11 2026. No macro, syntax, notation, axiom, sorry.
-/
import Derived.Test.YtcnkbdfkjhlbiaaDoorChecked
import GoSem.Claim
import GoSem.ClaimJoined
import GoSem.ClaimMapViews
import Derived.JoinedTies
import Derived.KernelRfl
namespace Go.Proofs.YtcnkbdfkjhlbiaaDoor
/- THE CELL 'sum', in the pinned program and in every row, IS THE sha256 OF THE DUMP (.gsa) THAT YtcnkbdfkjhlbiaaDoorProg.lean LOADS. Nothing in Lean hashes anything: it is a label: what it is worth is what the hold of that sum in a sandbox is worth. -/
noncomputable def Tryd.pinned : Pinned := { name := "ytcnkbdfkjhlbiaadoor", sum := "bed56f2076d77ccbb4dd09fe65aa4093430c4820e0489dec96545eef52f4f505", checked := Tryd.checked }
namespace Rows
def none {H : Type} : Left H := { results := [], args := [] }

/- WHAT THE LISTED PACKAGE-LEVEL VARIABLES READ AS WHEN THE CALL BEGINS. Each datum BY PROGRAM (the guide's laid-datum.mjs) off the statement by which the dump's own 'gosem.cut.vars' lays the variable. In a bare row this is a premise. The card (YtcnkbdfkjhlbiaaDoorCards.lean) ties it to the program's text. -/
def laid_math_bits_deBruijn32tab {H : Type} : DataW H := .agg [.lit (.int .u8 0), .lit (.int .u8 1), .lit (.int .u8 28), .lit (.int .u8 2), .lit (.int .u8 29), .lit (.int .u8 14), .lit (.int .u8 24), .lit (.int .u8 3), .lit (.int .u8 30), .lit (.int .u8 22), .lit (.int .u8 20), .lit (.int .u8 15), .lit (.int .u8 25), .lit (.int .u8 17), .lit (.int .u8 4), .lit (.int .u8 8), .lit (.int .u8 31), .lit (.int .u8 27), .lit (.int .u8 13), .lit (.int .u8 23), .lit (.int .u8 21), .lit (.int .u8 19), .lit (.int .u8 16), .lit (.int .u8 7), .lit (.int .u8 26), .lit (.int .u8 12), .lit (.int .u8 18), .lit (.int .u8 6), .lit (.int .u8 11), .lit (.int .u8 5), .lit (.int .u8 10), .lit (.int .u8 9)]
def laid_math_bits_deBruijn64tab {H : Type} : DataW H := .agg [.lit (.int .u8 0), .lit (.int .u8 1), .lit (.int .u8 56), .lit (.int .u8 2), .lit (.int .u8 57), .lit (.int .u8 49), .lit (.int .u8 28), .lit (.int .u8 3), .lit (.int .u8 61), .lit (.int .u8 58), .lit (.int .u8 42), .lit (.int .u8 50), .lit (.int .u8 38), .lit (.int .u8 29), .lit (.int .u8 17), .lit (.int .u8 4), .lit (.int .u8 62), .lit (.int .u8 47), .lit (.int .u8 59), .lit (.int .u8 36), .lit (.int .u8 45), .lit (.int .u8 43), .lit (.int .u8 51), .lit (.int .u8 22), .lit (.int .u8 53), .lit (.int .u8 39), .lit (.int .u8 33), .lit (.int .u8 30), .lit (.int .u8 24), .lit (.int .u8 18), .lit (.int .u8 12), .lit (.int .u8 5), .lit (.int .u8 63), .lit (.int .u8 55), .lit (.int .u8 48), .lit (.int .u8 27), .lit (.int .u8 60), .lit (.int .u8 41), .lit (.int .u8 37), .lit (.int .u8 16), .lit (.int .u8 46), .lit (.int .u8 35), .lit (.int .u8 44), .lit (.int .u8 21), .lit (.int .u8 52), .lit (.int .u8 32), .lit (.int .u8 23), .lit (.int .u8 11), .lit (.int .u8 54), .lit (.int .u8 26), .lit (.int .u8 40), .lit (.int .u8 15), .lit (.int .u8 34), .lit (.int .u8 20), .lit (.int .u8 31), .lit (.int .u8 10), .lit (.int .u8 25), .lit (.int .u8 14), .lit (.int .u8 19), .lit (.int .u8 9), .lit (.int .u8 13), .lit (.int .u8 8), .lit (.int .u8 7), .lit (.int .u8 6)]

/-- 'tithinglaw02.SheetPersons': WHATEVER THE INPUT: true; the input reads as it did. -/
def sheetPersonsSpec : ChangeSpec := { name := "sheetPersons", fn := fun _ => fun
  | [d] => { results := [.lit (.bool true)], args := [d] }
  | _ => none }
def sheetPersonsRow : OpenClaim := { program := "ytcnkbdfkjhlbiaadoor", sum := "bed56f2076d77ccbb4dd09fe65aa4093430c4820e0489dec96545eef52f4f505", func := "tithing/tithinglaw02.SheetPersons", spec := "sheetPersons", unfollowed := true, recurses := true, named := ["math/bits.deBruijn32tab", "math/bits.deBruijn64tab"], plainKeys := false, apart := false, laid := [("math/bits.deBruijn32tab", laid_math_bits_deBruijn32tab), ("math/bits.deBruijn64tab", laid_math_bits_deBruijn64tab)] }
def SheetPersonsSaid : Prop := sheetPersonsRow.holds Tryd.pinned (OpenSpec.ofChange sheetPersonsSpec)

/-- ITS FALSE NEIGHBOUR: 'it returns false'. Refute it at one input. -/
def sheetPersonsWrong : ChangeSpec := { name := "sheetPersons", fn := fun _ => fun
  | [d] => { results := [.lit (.bool false)], args := [d] }
  | _ => none }
def SheetPersonsWrongFalsely : Prop := sheetPersonsRow.holds Tryd.pinned (OpenSpec.ofChange sheetPersonsWrong)

/-- 'tithinglaw02.SheetDrops': WHATEVER THE INPUT: true; the input reads as it did. -/
def sheetDropsSpec : ChangeSpec := { name := "sheetDrops", fn := fun _ => fun
  | [d] => { results := [.lit (.bool true)], args := [d] }
  | _ => none }
def sheetDropsRow : OpenClaim := { program := "ytcnkbdfkjhlbiaadoor", sum := "bed56f2076d77ccbb4dd09fe65aa4093430c4820e0489dec96545eef52f4f505", func := "tithing/tithinglaw02.SheetDrops", spec := "sheetDrops", unfollowed := true, recurses := true, named := ["math/bits.deBruijn32tab", "math/bits.deBruijn64tab"], plainKeys := false, apart := false, laid := [("math/bits.deBruijn32tab", laid_math_bits_deBruijn32tab), ("math/bits.deBruijn64tab", laid_math_bits_deBruijn64tab)] }
def SheetDropsSaid : Prop := sheetDropsRow.holds Tryd.pinned (OpenSpec.ofChange sheetDropsSpec)

/-- ITS FALSE NEIGHBOUR: 'it returns false'. Refute it at one input. -/
def sheetDropsWrong : ChangeSpec := { name := "sheetDrops", fn := fun _ => fun
  | [d] => { results := [.lit (.bool false)], args := [d] }
  | _ => none }
def SheetDropsWrongFalsely : Prop := sheetDropsRow.holds Tryd.pinned (OpenSpec.ofChange sheetDropsWrong)

/-- 'tithinglaw02.SheetCodes': WHATEVER THE INPUT: true; the input reads as it did. -/
def sheetCodesSpec : ChangeSpec := { name := "sheetCodes", fn := fun _ => fun
  | [d] => { results := [.lit (.bool true)], args := [d] }
  | _ => none }
def sheetCodesRow : OpenClaim := { program := "ytcnkbdfkjhlbiaadoor", sum := "bed56f2076d77ccbb4dd09fe65aa4093430c4820e0489dec96545eef52f4f505", func := "tithing/tithinglaw02.SheetCodes", spec := "sheetCodes", unfollowed := true, recurses := true, named := ["math/bits.deBruijn32tab", "math/bits.deBruijn64tab"], plainKeys := false, apart := false, laid := [("math/bits.deBruijn32tab", laid_math_bits_deBruijn32tab), ("math/bits.deBruijn64tab", laid_math_bits_deBruijn64tab)] }
def SheetCodesSaid : Prop := sheetCodesRow.holds Tryd.pinned (OpenSpec.ofChange sheetCodesSpec)

/-- ITS FALSE NEIGHBOUR: 'it returns false'. Refute it at one input. -/
def sheetCodesWrong : ChangeSpec := { name := "sheetCodes", fn := fun _ => fun
  | [d] => { results := [.lit (.bool false)], args := [d] }
  | _ => none }
def SheetCodesWrongFalsely : Prop := sheetCodesRow.holds Tryd.pinned (OpenSpec.ofChange sheetCodesWrong)

/-- 'tithinglaw02.SheetMore': WHATEVER THE INPUT: true; the input reads as it did. -/
def sheetMoreSpec : ChangeSpec := { name := "sheetMore", fn := fun _ => fun
  | [d1, d2, d3, d4, d5] => { results := [.lit (.bool true)], args := [d1, d2, d3, d4, d5] }
  | _ => none }
def sheetMoreRow : OpenClaim := { program := "ytcnkbdfkjhlbiaadoor", sum := "bed56f2076d77ccbb4dd09fe65aa4093430c4820e0489dec96545eef52f4f505", func := "tithing/tithinglaw02.SheetMore", spec := "sheetMore", unfollowed := true, recurses := true, named := ["math/bits.deBruijn32tab", "math/bits.deBruijn64tab"], plainKeys := false, apart := false, laid := [("math/bits.deBruijn32tab", laid_math_bits_deBruijn32tab), ("math/bits.deBruijn64tab", laid_math_bits_deBruijn64tab)] }
def SheetMoreSaid : Prop := sheetMoreRow.holds Tryd.pinned (OpenSpec.ofChange sheetMoreSpec)

/-- ITS FALSE NEIGHBOUR: 'it returns false'. Refute it at one input. -/
def sheetMoreWrong : ChangeSpec := { name := "sheetMore", fn := fun _ => fun
  | [d1, d2, d3, d4, d5] => { results := [.lit (.bool false)], args := [d1, d2, d3, d4, d5] }
  | _ => none }
def SheetMoreWrongFalsely : Prop := sheetMoreRow.holds Tryd.pinned (OpenSpec.ofChange sheetMoreWrong)

/-- 'tithinglaw02.SheetOrder': WHATEVER THE INPUT: true; the input reads as it did. -/
def sheetOrderSpec : ChangeSpec := { name := "sheetOrder", fn := fun _ => fun
  | [d1, d2] => { results := [.lit (.bool true)], args := [d1, d2] }
  | _ => none }
def sheetOrderRow : OpenClaim := { program := "ytcnkbdfkjhlbiaadoor", sum := "bed56f2076d77ccbb4dd09fe65aa4093430c4820e0489dec96545eef52f4f505", func := "tithing/tithinglaw02.SheetOrder", spec := "sheetOrder", unfollowed := true, recurses := true, named := ["math/bits.deBruijn32tab", "math/bits.deBruijn64tab"], plainKeys := false, apart := false, laid := [("math/bits.deBruijn32tab", laid_math_bits_deBruijn32tab), ("math/bits.deBruijn64tab", laid_math_bits_deBruijn64tab)] }
def SheetOrderSaid : Prop := sheetOrderRow.holds Tryd.pinned (OpenSpec.ofChange sheetOrderSpec)

/-- ITS FALSE NEIGHBOUR: 'it returns false'. Refute it at one input. -/
def sheetOrderWrong : ChangeSpec := { name := "sheetOrder", fn := fun _ => fun
  | [d1, d2] => { results := [.lit (.bool false)], args := [d1, d2] }
  | _ => none }
def SheetOrderWrongFalsely : Prop := sheetOrderRow.holds Tryd.pinned (OpenSpec.ofChange sheetOrderWrong)

/-- 'tithinglaw02.SheetDropped': WHATEVER THE INPUT: true; the input reads as it did. -/
def sheetDroppedSpec : ChangeSpec := { name := "sheetDropped", fn := fun _ => fun
  | [d1, d2] => { results := [.lit (.bool true)], args := [d1, d2] }
  | _ => none }
def sheetDroppedRow : OpenClaim := { program := "ytcnkbdfkjhlbiaadoor", sum := "bed56f2076d77ccbb4dd09fe65aa4093430c4820e0489dec96545eef52f4f505", func := "tithing/tithinglaw02.SheetDropped", spec := "sheetDropped", unfollowed := true, recurses := true, named := ["math/bits.deBruijn32tab", "math/bits.deBruijn64tab"], plainKeys := false, apart := false, laid := [("math/bits.deBruijn32tab", laid_math_bits_deBruijn32tab), ("math/bits.deBruijn64tab", laid_math_bits_deBruijn64tab)] }
def SheetDroppedSaid : Prop := sheetDroppedRow.holds Tryd.pinned (OpenSpec.ofChange sheetDroppedSpec)

/-- ITS FALSE NEIGHBOUR: 'it returns false'. Refute it at one input. -/
def sheetDroppedWrong : ChangeSpec := { name := "sheetDropped", fn := fun _ => fun
  | [d1, d2] => { results := [.lit (.bool false)], args := [d1, d2] }
  | _ => none }
def SheetDroppedWrongFalsely : Prop := sheetDroppedRow.holds Tryd.pinned (OpenSpec.ofChange sheetDroppedWrong)

/-- 'tithinglaw02.SheetCoders': WHATEVER THE INPUT: true; the input reads as it did. -/
def sheetCodersSpec : ChangeSpec := { name := "sheetCoders", fn := fun _ => fun
  | [d1, d2, d3, d4, d5] => { results := [.lit (.bool true)], args := [d1, d2, d3, d4, d5] }
  | _ => none }
def sheetCodersRow : OpenClaim := { program := "ytcnkbdfkjhlbiaadoor", sum := "bed56f2076d77ccbb4dd09fe65aa4093430c4820e0489dec96545eef52f4f505", func := "tithing/tithinglaw02.SheetCoders", spec := "sheetCoders", unfollowed := true, recurses := true, named := ["math/bits.deBruijn32tab", "math/bits.deBruijn64tab"], plainKeys := false, apart := false, laid := [("math/bits.deBruijn32tab", laid_math_bits_deBruijn32tab), ("math/bits.deBruijn64tab", laid_math_bits_deBruijn64tab)] }
def SheetCodersSaid : Prop := sheetCodersRow.holds Tryd.pinned (OpenSpec.ofChange sheetCodersSpec)

/-- ITS FALSE NEIGHBOUR: 'it returns false'. Refute it at one input. -/
def sheetCodersWrong : ChangeSpec := { name := "sheetCoders", fn := fun _ => fun
  | [d1, d2, d3, d4, d5] => { results := [.lit (.bool false)], args := [d1, d2, d3, d4, d5] }
  | _ => none }
def SheetCodersWrongFalsely : Prop := sheetCodersRow.holds Tryd.pinned (OpenSpec.ofChange sheetCodersWrong)

/-- 'tithinglaw02.SheetSolves': WHATEVER THE INPUT: true; the input reads as it did. -/
def sheetSolvesSpec : ChangeSpec := { name := "sheetSolves", fn := fun _ => fun
  | [d1, d2] => { results := [.lit (.bool true)], args := [d1, d2] }
  | _ => none }
def sheetSolvesRow : OpenClaim := { program := "ytcnkbdfkjhlbiaadoor", sum := "bed56f2076d77ccbb4dd09fe65aa4093430c4820e0489dec96545eef52f4f505", func := "tithing/tithinglaw02.SheetSolves", spec := "sheetSolves", unfollowed := true, recurses := true, named := ["math/bits.deBruijn32tab", "math/bits.deBruijn64tab"], plainKeys := false, apart := false, laid := [("math/bits.deBruijn32tab", laid_math_bits_deBruijn32tab), ("math/bits.deBruijn64tab", laid_math_bits_deBruijn64tab)] }
def SheetSolvesSaid : Prop := sheetSolvesRow.holds Tryd.pinned (OpenSpec.ofChange sheetSolvesSpec)

/-- ITS FALSE NEIGHBOUR: 'it returns false'. Refute it at one input. -/
def sheetSolvesWrong : ChangeSpec := { name := "sheetSolves", fn := fun _ => fun
  | [d1, d2] => { results := [.lit (.bool false)], args := [d1, d2] }
  | _ => none }
def SheetSolvesWrongFalsely : Prop := sheetSolvesRow.holds Tryd.pinned (OpenSpec.ofChange sheetSolvesWrong)

/-- 'tithinglaw02.SheetCoded': WHATEVER THE INPUT: true; the input reads as it did. -/
def sheetCodedSpec : ChangeSpec := { name := "sheetCoded", fn := fun _ => fun
  | [d] => { results := [.lit (.bool true)], args := [d] }
  | _ => none }
def sheetCodedRow : OpenClaim := { program := "ytcnkbdfkjhlbiaadoor", sum := "bed56f2076d77ccbb4dd09fe65aa4093430c4820e0489dec96545eef52f4f505", func := "tithing/tithinglaw02.SheetCoded", spec := "sheetCoded", unfollowed := true, recurses := true, named := ["math/bits.deBruijn32tab", "math/bits.deBruijn64tab"], plainKeys := false, apart := false, laid := [("math/bits.deBruijn32tab", laid_math_bits_deBruijn32tab), ("math/bits.deBruijn64tab", laid_math_bits_deBruijn64tab)] }
def SheetCodedSaid : Prop := sheetCodedRow.holds Tryd.pinned (OpenSpec.ofChange sheetCodedSpec)

/-- ITS FALSE NEIGHBOUR: 'it returns false'. Refute it at one input. -/
def sheetCodedWrong : ChangeSpec := { name := "sheetCoded", fn := fun _ => fun
  | [d] => { results := [.lit (.bool false)], args := [d] }
  | _ => none }
def SheetCodedWrongFalsely : Prop := sheetCodedRow.holds Tryd.pinned (OpenSpec.ofChange sheetCodedWrong)

/-- 'tithinglaw02.SheetProves': WHATEVER THE INPUT: true; the input reads as it did. -/
def sheetProvesSpec : ChangeSpec := { name := "sheetProves", fn := fun _ => fun
  | [d1, d2] => { results := [.lit (.bool true)], args := [d1, d2] }
  | _ => none }
def sheetProvesRow : OpenClaim := { program := "ytcnkbdfkjhlbiaadoor", sum := "bed56f2076d77ccbb4dd09fe65aa4093430c4820e0489dec96545eef52f4f505", func := "tithing/tithinglaw02.SheetProves", spec := "sheetProves", unfollowed := true, recurses := true, named := ["math/bits.deBruijn32tab", "math/bits.deBruijn64tab"], plainKeys := false, apart := false, laid := [("math/bits.deBruijn32tab", laid_math_bits_deBruijn32tab), ("math/bits.deBruijn64tab", laid_math_bits_deBruijn64tab)] }
def SheetProvesSaid : Prop := sheetProvesRow.holds Tryd.pinned (OpenSpec.ofChange sheetProvesSpec)

/-- ITS FALSE NEIGHBOUR: 'it returns false'. Refute it at one input. -/
def sheetProvesWrong : ChangeSpec := { name := "sheetProves", fn := fun _ => fun
  | [d1, d2] => { results := [.lit (.bool false)], args := [d1, d2] }
  | _ => none }
def SheetProvesWrongFalsely : Prop := sheetProvesRow.holds Tryd.pinned (OpenSpec.ofChange sheetProvesWrong)

/-- 'tithinglaw02.SheetTogether': WHATEVER THE INPUT: true; the input reads as it did. -/
def sheetTogetherSpec : ChangeSpec := { name := "sheetTogether", fn := fun _ => fun
  | [d1, d2, d3] => { results := [.lit (.bool true)], args := [d1, d2, d3] }
  | _ => none }
def sheetTogetherRow : OpenClaim := { program := "ytcnkbdfkjhlbiaadoor", sum := "bed56f2076d77ccbb4dd09fe65aa4093430c4820e0489dec96545eef52f4f505", func := "tithing/tithinglaw02.SheetTogether", spec := "sheetTogether", unfollowed := true, recurses := true, named := ["math/bits.deBruijn32tab", "math/bits.deBruijn64tab"], plainKeys := false, apart := false, laid := [("math/bits.deBruijn32tab", laid_math_bits_deBruijn32tab), ("math/bits.deBruijn64tab", laid_math_bits_deBruijn64tab)] }
def SheetTogetherSaid : Prop := sheetTogetherRow.holds Tryd.pinned (OpenSpec.ofChange sheetTogetherSpec)

/-- ITS FALSE NEIGHBOUR: 'it returns false'. Refute it at one input. -/
def sheetTogetherWrong : ChangeSpec := { name := "sheetTogether", fn := fun _ => fun
  | [d1, d2, d3] => { results := [.lit (.bool false)], args := [d1, d2, d3] }
  | _ => none }
def SheetTogetherWrongFalsely : Prop := sheetTogetherRow.holds Tryd.pinned (OpenSpec.ofChange sheetTogetherWrong)

/-- 'tithinglaw02.SheetEvery': WHATEVER THE INPUT: true; the input reads as it did. -/
def sheetEverySpec : ChangeSpec := { name := "sheetEvery", fn := fun _ => fun
  | [d] => { results := [.lit (.bool true)], args := [d] }
  | _ => none }
def sheetEveryRow : OpenClaim := { program := "ytcnkbdfkjhlbiaadoor", sum := "bed56f2076d77ccbb4dd09fe65aa4093430c4820e0489dec96545eef52f4f505", func := "tithing/tithinglaw02.SheetEvery", spec := "sheetEvery", unfollowed := true, recurses := true, named := ["math/bits.deBruijn32tab", "math/bits.deBruijn64tab"], plainKeys := false, apart := false, laid := [("math/bits.deBruijn32tab", laid_math_bits_deBruijn32tab), ("math/bits.deBruijn64tab", laid_math_bits_deBruijn64tab)] }
def SheetEverySaid : Prop := sheetEveryRow.holds Tryd.pinned (OpenSpec.ofChange sheetEverySpec)

/-- ITS FALSE NEIGHBOUR: 'it returns false'. Refute it at one input. -/
def sheetEveryWrong : ChangeSpec := { name := "sheetEvery", fn := fun _ => fun
  | [d] => { results := [.lit (.bool false)], args := [d] }
  | _ => none }
def SheetEveryWrongFalsely : Prop := sheetEveryRow.holds Tryd.pinned (OpenSpec.ofChange sheetEveryWrong)

/-- 'tithinglaw02.SheetFree': WHATEVER THE INPUT: true; the input reads as it did. -/
def sheetFreeSpec : ChangeSpec := { name := "sheetFree", fn := fun _ => fun
  | [d1, d2, d3] => { results := [.lit (.bool true)], args := [d1, d2, d3] }
  | _ => none }
def sheetFreeRow : OpenClaim := { program := "ytcnkbdfkjhlbiaadoor", sum := "bed56f2076d77ccbb4dd09fe65aa4093430c4820e0489dec96545eef52f4f505", func := "tithing/tithinglaw02.SheetFree", spec := "sheetFree", unfollowed := true, recurses := true, named := ["math/bits.deBruijn32tab", "math/bits.deBruijn64tab"], plainKeys := false, apart := false, laid := [("math/bits.deBruijn32tab", laid_math_bits_deBruijn32tab), ("math/bits.deBruijn64tab", laid_math_bits_deBruijn64tab)] }
def SheetFreeSaid : Prop := sheetFreeRow.holds Tryd.pinned (OpenSpec.ofChange sheetFreeSpec)

/-- ITS FALSE NEIGHBOUR: 'it returns false'. Refute it at one input. -/
def sheetFreeWrong : ChangeSpec := { name := "sheetFree", fn := fun _ => fun
  | [d1, d2, d3] => { results := [.lit (.bool false)], args := [d1, d2, d3] }
  | _ => none }
def SheetFreeWrongFalsely : Prop := sheetFreeRow.holds Tryd.pinned (OpenSpec.ofChange sheetFreeWrong)

/-- 'tithinglaw02.SheetShows': WHATEVER THE INPUT: true; the input reads as it did. -/
def sheetShowsSpec : ChangeSpec := { name := "sheetShows", fn := fun _ => fun
  | [d1, d2] => { results := [.lit (.bool true)], args := [d1, d2] }
  | _ => none }
def sheetShowsRow : OpenClaim := { program := "ytcnkbdfkjhlbiaadoor", sum := "bed56f2076d77ccbb4dd09fe65aa4093430c4820e0489dec96545eef52f4f505", func := "tithing/tithinglaw02.SheetShows", spec := "sheetShows", unfollowed := true, recurses := true, named := ["math/bits.deBruijn32tab", "math/bits.deBruijn64tab"], plainKeys := false, apart := false, laid := [("math/bits.deBruijn32tab", laid_math_bits_deBruijn32tab), ("math/bits.deBruijn64tab", laid_math_bits_deBruijn64tab)] }
def SheetShowsSaid : Prop := sheetShowsRow.holds Tryd.pinned (OpenSpec.ofChange sheetShowsSpec)

/-- ITS FALSE NEIGHBOUR: 'it returns false'. Refute it at one input. -/
def sheetShowsWrong : ChangeSpec := { name := "sheetShows", fn := fun _ => fun
  | [d1, d2] => { results := [.lit (.bool false)], args := [d1, d2] }
  | _ => none }
def SheetShowsWrongFalsely : Prop := sheetShowsRow.holds Tryd.pinned (OpenSpec.ofChange sheetShowsWrong)

/-- 'tithinglaw02.SheetEnds': WHATEVER THE INPUT: true; the input reads as it did. -/
def sheetEndsSpec : ChangeSpec := { name := "sheetEnds", fn := fun _ => fun
  | [d1, d2] => { results := [.lit (.bool true)], args := [d1, d2] }
  | _ => none }
def sheetEndsRow : OpenClaim := { program := "ytcnkbdfkjhlbiaadoor", sum := "bed56f2076d77ccbb4dd09fe65aa4093430c4820e0489dec96545eef52f4f505", func := "tithing/tithinglaw02.SheetEnds", spec := "sheetEnds", unfollowed := true, recurses := true, named := ["math/bits.deBruijn32tab", "math/bits.deBruijn64tab"], plainKeys := false, apart := false, laid := [("math/bits.deBruijn32tab", laid_math_bits_deBruijn32tab), ("math/bits.deBruijn64tab", laid_math_bits_deBruijn64tab)] }
def SheetEndsSaid : Prop := sheetEndsRow.holds Tryd.pinned (OpenSpec.ofChange sheetEndsSpec)

/-- ITS FALSE NEIGHBOUR: 'it returns false'. Refute it at one input. -/
def sheetEndsWrong : ChangeSpec := { name := "sheetEnds", fn := fun _ => fun
  | [d1, d2] => { results := [.lit (.bool false)], args := [d1, d2] }
  | _ => none }
def SheetEndsWrongFalsely : Prop := sheetEndsRow.holds Tryd.pinned (OpenSpec.ofChange sheetEndsWrong)

/-- 'tithinglaw02.SheetNames': WHATEVER THE INPUT: true; the input reads as it did. -/
def sheetNamesSpec : ChangeSpec := { name := "sheetNames", fn := fun _ => fun
  | [] => { results := [.lit (.bool true)], args := [] }
  | _ => none }
def sheetNamesRow : OpenClaim := { program := "ytcnkbdfkjhlbiaadoor", sum := "bed56f2076d77ccbb4dd09fe65aa4093430c4820e0489dec96545eef52f4f505", func := "tithing/tithinglaw02.SheetNames", spec := "sheetNames", unfollowed := true, recurses := true, named := ["math/bits.deBruijn32tab", "math/bits.deBruijn64tab"], plainKeys := false, apart := false, laid := [("math/bits.deBruijn32tab", laid_math_bits_deBruijn32tab), ("math/bits.deBruijn64tab", laid_math_bits_deBruijn64tab)] }
def SheetNamesSaid : Prop := sheetNamesRow.holds Tryd.pinned (OpenSpec.ofChange sheetNamesSpec)

/-- ITS FALSE NEIGHBOUR: 'it returns false'. Refute it at one input. -/
def sheetNamesWrong : ChangeSpec := { name := "sheetNames", fn := fun _ => fun
  | [] => { results := [.lit (.bool false)], args := [] }
  | _ => none }
def SheetNamesWrongFalsely : Prop := sheetNamesRow.holds Tryd.pinned (OpenSpec.ofChange sheetNamesWrong)

/- THE SECOND FORM. 'bulk': how many values and letters a reading holds, each counted each time it is reached (what is shared counts as often as it is met; a slice's spare places count too). A statement '..UptoSaid' is the law's where the arguments, and the package variables that the reading takes, are together of bulk at most 1048576: NARROWER than '..Said'. Prove '..Said' where nothing that the law and all that it calls make is longer than what came in: it says more and counts as full. Else prove '..UptoSaid'. A law counts once. -/
mutual
def uptoBulk {H : Type} : DataW H → Nat
  | .lit (.string bytes) => bytes.length + 1
  | .lit _ => 1
  | .nil => 1
  | .ptr d => uptoBulk d + 1
  | .slice elems spare => uptoBulkAll elems + uptoBulkAll spare + 1
  | .agg parts => uptoBulkAll parts + 1
  | .iface _ d => uptoBulk d + 1
  | .map entries => uptoBulkEntries entries + 1
  | .held _ => 1
def uptoBulkAll {H : Type} : List (DataW H) → Nat
  | [] => 0
  | d :: r => uptoBulk d + uptoBulkAll r
def uptoBulkEntries {H : Type} : List (Lit × DataW H) → Nat
  | [] => 0
  | x :: r => uptoBulkEntry x + uptoBulkEntries r
def uptoBulkEntry {H : Type} : Lit × DataW H → Nat
  | (.string bytes, d) => bytes.length + uptoBulk d + 1
  | (_, d) => uptoBulk d + 1
 end
def uptoSmall : (H : Type) → List (DataW H) → Bool := fun _ ds => decide (uptoBulkAll ds ≤ 1048576)
def OpenSpec.upto (s : _root_.Go.ChangeSpec) : _root_.Go.OpenSpec := { _root_.Go.OpenSpec.ofChange s with cond := some uptoSmall }

/-- 'tithinglaw02.SheetPersons', WHERE WHAT IT READS IS OF BULK AT MOST 1048576: true; the input reads as it did. -/
def sheetPersonsUptoRow : OpenClaim := { program := "ytcnkbdfkjhlbiaadoor", sum := "bed56f2076d77ccbb4dd09fe65aa4093430c4820e0489dec96545eef52f4f505", func := "tithing/tithinglaw02.SheetPersons", spec := "sheetPersons", unfollowed := true, recurses := true, named := ["math/bits.deBruijn32tab", "math/bits.deBruijn64tab"], plainKeys := false, apart := false, laid := [("math/bits.deBruijn32tab", laid_math_bits_deBruijn32tab), ("math/bits.deBruijn64tab", laid_math_bits_deBruijn64tab)], narrowed := true }
def SheetPersonsUptoSaid : Prop := sheetPersonsUptoRow.holds Tryd.pinned (OpenSpec.upto sheetPersonsSpec)

/-- 'tithinglaw02.SheetDrops', WHERE WHAT IT READS IS OF BULK AT MOST 1048576: true; the input reads as it did. -/
def sheetDropsUptoRow : OpenClaim := { program := "ytcnkbdfkjhlbiaadoor", sum := "bed56f2076d77ccbb4dd09fe65aa4093430c4820e0489dec96545eef52f4f505", func := "tithing/tithinglaw02.SheetDrops", spec := "sheetDrops", unfollowed := true, recurses := true, named := ["math/bits.deBruijn32tab", "math/bits.deBruijn64tab"], plainKeys := false, apart := false, laid := [("math/bits.deBruijn32tab", laid_math_bits_deBruijn32tab), ("math/bits.deBruijn64tab", laid_math_bits_deBruijn64tab)], narrowed := true }
def SheetDropsUptoSaid : Prop := sheetDropsUptoRow.holds Tryd.pinned (OpenSpec.upto sheetDropsSpec)

/-- 'tithinglaw02.SheetCodes', WHERE WHAT IT READS IS OF BULK AT MOST 1048576: true; the input reads as it did. -/
def sheetCodesUptoRow : OpenClaim := { program := "ytcnkbdfkjhlbiaadoor", sum := "bed56f2076d77ccbb4dd09fe65aa4093430c4820e0489dec96545eef52f4f505", func := "tithing/tithinglaw02.SheetCodes", spec := "sheetCodes", unfollowed := true, recurses := true, named := ["math/bits.deBruijn32tab", "math/bits.deBruijn64tab"], plainKeys := false, apart := false, laid := [("math/bits.deBruijn32tab", laid_math_bits_deBruijn32tab), ("math/bits.deBruijn64tab", laid_math_bits_deBruijn64tab)], narrowed := true }
def SheetCodesUptoSaid : Prop := sheetCodesUptoRow.holds Tryd.pinned (OpenSpec.upto sheetCodesSpec)

/-- 'tithinglaw02.SheetMore', WHERE WHAT IT READS IS OF BULK AT MOST 1048576: true; the input reads as it did. -/
def sheetMoreUptoRow : OpenClaim := { program := "ytcnkbdfkjhlbiaadoor", sum := "bed56f2076d77ccbb4dd09fe65aa4093430c4820e0489dec96545eef52f4f505", func := "tithing/tithinglaw02.SheetMore", spec := "sheetMore", unfollowed := true, recurses := true, named := ["math/bits.deBruijn32tab", "math/bits.deBruijn64tab"], plainKeys := false, apart := false, laid := [("math/bits.deBruijn32tab", laid_math_bits_deBruijn32tab), ("math/bits.deBruijn64tab", laid_math_bits_deBruijn64tab)], narrowed := true }
def SheetMoreUptoSaid : Prop := sheetMoreUptoRow.holds Tryd.pinned (OpenSpec.upto sheetMoreSpec)

/-- 'tithinglaw02.SheetOrder', WHERE WHAT IT READS IS OF BULK AT MOST 1048576: true; the input reads as it did. -/
def sheetOrderUptoRow : OpenClaim := { program := "ytcnkbdfkjhlbiaadoor", sum := "bed56f2076d77ccbb4dd09fe65aa4093430c4820e0489dec96545eef52f4f505", func := "tithing/tithinglaw02.SheetOrder", spec := "sheetOrder", unfollowed := true, recurses := true, named := ["math/bits.deBruijn32tab", "math/bits.deBruijn64tab"], plainKeys := false, apart := false, laid := [("math/bits.deBruijn32tab", laid_math_bits_deBruijn32tab), ("math/bits.deBruijn64tab", laid_math_bits_deBruijn64tab)], narrowed := true }
def SheetOrderUptoSaid : Prop := sheetOrderUptoRow.holds Tryd.pinned (OpenSpec.upto sheetOrderSpec)

/-- 'tithinglaw02.SheetDropped', WHERE WHAT IT READS IS OF BULK AT MOST 1048576: true; the input reads as it did. -/
def sheetDroppedUptoRow : OpenClaim := { program := "ytcnkbdfkjhlbiaadoor", sum := "bed56f2076d77ccbb4dd09fe65aa4093430c4820e0489dec96545eef52f4f505", func := "tithing/tithinglaw02.SheetDropped", spec := "sheetDropped", unfollowed := true, recurses := true, named := ["math/bits.deBruijn32tab", "math/bits.deBruijn64tab"], plainKeys := false, apart := false, laid := [("math/bits.deBruijn32tab", laid_math_bits_deBruijn32tab), ("math/bits.deBruijn64tab", laid_math_bits_deBruijn64tab)], narrowed := true }
def SheetDroppedUptoSaid : Prop := sheetDroppedUptoRow.holds Tryd.pinned (OpenSpec.upto sheetDroppedSpec)

/-- 'tithinglaw02.SheetCoders', WHERE WHAT IT READS IS OF BULK AT MOST 1048576: true; the input reads as it did. -/
def sheetCodersUptoRow : OpenClaim := { program := "ytcnkbdfkjhlbiaadoor", sum := "bed56f2076d77ccbb4dd09fe65aa4093430c4820e0489dec96545eef52f4f505", func := "tithing/tithinglaw02.SheetCoders", spec := "sheetCoders", unfollowed := true, recurses := true, named := ["math/bits.deBruijn32tab", "math/bits.deBruijn64tab"], plainKeys := false, apart := false, laid := [("math/bits.deBruijn32tab", laid_math_bits_deBruijn32tab), ("math/bits.deBruijn64tab", laid_math_bits_deBruijn64tab)], narrowed := true }
def SheetCodersUptoSaid : Prop := sheetCodersUptoRow.holds Tryd.pinned (OpenSpec.upto sheetCodersSpec)

/-- 'tithinglaw02.SheetSolves', WHERE WHAT IT READS IS OF BULK AT MOST 1048576: true; the input reads as it did. -/
def sheetSolvesUptoRow : OpenClaim := { program := "ytcnkbdfkjhlbiaadoor", sum := "bed56f2076d77ccbb4dd09fe65aa4093430c4820e0489dec96545eef52f4f505", func := "tithing/tithinglaw02.SheetSolves", spec := "sheetSolves", unfollowed := true, recurses := true, named := ["math/bits.deBruijn32tab", "math/bits.deBruijn64tab"], plainKeys := false, apart := false, laid := [("math/bits.deBruijn32tab", laid_math_bits_deBruijn32tab), ("math/bits.deBruijn64tab", laid_math_bits_deBruijn64tab)], narrowed := true }
def SheetSolvesUptoSaid : Prop := sheetSolvesUptoRow.holds Tryd.pinned (OpenSpec.upto sheetSolvesSpec)

/-- 'tithinglaw02.SheetCoded', WHERE WHAT IT READS IS OF BULK AT MOST 1048576: true; the input reads as it did. -/
def sheetCodedUptoRow : OpenClaim := { program := "ytcnkbdfkjhlbiaadoor", sum := "bed56f2076d77ccbb4dd09fe65aa4093430c4820e0489dec96545eef52f4f505", func := "tithing/tithinglaw02.SheetCoded", spec := "sheetCoded", unfollowed := true, recurses := true, named := ["math/bits.deBruijn32tab", "math/bits.deBruijn64tab"], plainKeys := false, apart := false, laid := [("math/bits.deBruijn32tab", laid_math_bits_deBruijn32tab), ("math/bits.deBruijn64tab", laid_math_bits_deBruijn64tab)], narrowed := true }
def SheetCodedUptoSaid : Prop := sheetCodedUptoRow.holds Tryd.pinned (OpenSpec.upto sheetCodedSpec)

/-- 'tithinglaw02.SheetProves', WHERE WHAT IT READS IS OF BULK AT MOST 1048576: true; the input reads as it did. -/
def sheetProvesUptoRow : OpenClaim := { program := "ytcnkbdfkjhlbiaadoor", sum := "bed56f2076d77ccbb4dd09fe65aa4093430c4820e0489dec96545eef52f4f505", func := "tithing/tithinglaw02.SheetProves", spec := "sheetProves", unfollowed := true, recurses := true, named := ["math/bits.deBruijn32tab", "math/bits.deBruijn64tab"], plainKeys := false, apart := false, laid := [("math/bits.deBruijn32tab", laid_math_bits_deBruijn32tab), ("math/bits.deBruijn64tab", laid_math_bits_deBruijn64tab)], narrowed := true }
def SheetProvesUptoSaid : Prop := sheetProvesUptoRow.holds Tryd.pinned (OpenSpec.upto sheetProvesSpec)

/-- 'tithinglaw02.SheetTogether', WHERE WHAT IT READS IS OF BULK AT MOST 1048576: true; the input reads as it did. -/
def sheetTogetherUptoRow : OpenClaim := { program := "ytcnkbdfkjhlbiaadoor", sum := "bed56f2076d77ccbb4dd09fe65aa4093430c4820e0489dec96545eef52f4f505", func := "tithing/tithinglaw02.SheetTogether", spec := "sheetTogether", unfollowed := true, recurses := true, named := ["math/bits.deBruijn32tab", "math/bits.deBruijn64tab"], plainKeys := false, apart := false, laid := [("math/bits.deBruijn32tab", laid_math_bits_deBruijn32tab), ("math/bits.deBruijn64tab", laid_math_bits_deBruijn64tab)], narrowed := true }
def SheetTogetherUptoSaid : Prop := sheetTogetherUptoRow.holds Tryd.pinned (OpenSpec.upto sheetTogetherSpec)

/-- 'tithinglaw02.SheetEvery', WHERE WHAT IT READS IS OF BULK AT MOST 1048576: true; the input reads as it did. -/
def sheetEveryUptoRow : OpenClaim := { program := "ytcnkbdfkjhlbiaadoor", sum := "bed56f2076d77ccbb4dd09fe65aa4093430c4820e0489dec96545eef52f4f505", func := "tithing/tithinglaw02.SheetEvery", spec := "sheetEvery", unfollowed := true, recurses := true, named := ["math/bits.deBruijn32tab", "math/bits.deBruijn64tab"], plainKeys := false, apart := false, laid := [("math/bits.deBruijn32tab", laid_math_bits_deBruijn32tab), ("math/bits.deBruijn64tab", laid_math_bits_deBruijn64tab)], narrowed := true }
def SheetEveryUptoSaid : Prop := sheetEveryUptoRow.holds Tryd.pinned (OpenSpec.upto sheetEverySpec)

/-- 'tithinglaw02.SheetFree', WHERE WHAT IT READS IS OF BULK AT MOST 1048576: true; the input reads as it did. -/
def sheetFreeUptoRow : OpenClaim := { program := "ytcnkbdfkjhlbiaadoor", sum := "bed56f2076d77ccbb4dd09fe65aa4093430c4820e0489dec96545eef52f4f505", func := "tithing/tithinglaw02.SheetFree", spec := "sheetFree", unfollowed := true, recurses := true, named := ["math/bits.deBruijn32tab", "math/bits.deBruijn64tab"], plainKeys := false, apart := false, laid := [("math/bits.deBruijn32tab", laid_math_bits_deBruijn32tab), ("math/bits.deBruijn64tab", laid_math_bits_deBruijn64tab)], narrowed := true }
def SheetFreeUptoSaid : Prop := sheetFreeUptoRow.holds Tryd.pinned (OpenSpec.upto sheetFreeSpec)

/-- 'tithinglaw02.SheetShows', WHERE WHAT IT READS IS OF BULK AT MOST 1048576: true; the input reads as it did. -/
def sheetShowsUptoRow : OpenClaim := { program := "ytcnkbdfkjhlbiaadoor", sum := "bed56f2076d77ccbb4dd09fe65aa4093430c4820e0489dec96545eef52f4f505", func := "tithing/tithinglaw02.SheetShows", spec := "sheetShows", unfollowed := true, recurses := true, named := ["math/bits.deBruijn32tab", "math/bits.deBruijn64tab"], plainKeys := false, apart := false, laid := [("math/bits.deBruijn32tab", laid_math_bits_deBruijn32tab), ("math/bits.deBruijn64tab", laid_math_bits_deBruijn64tab)], narrowed := true }
def SheetShowsUptoSaid : Prop := sheetShowsUptoRow.holds Tryd.pinned (OpenSpec.upto sheetShowsSpec)

/-- 'tithinglaw02.SheetEnds', WHERE WHAT IT READS IS OF BULK AT MOST 1048576: true; the input reads as it did. -/
def sheetEndsUptoRow : OpenClaim := { program := "ytcnkbdfkjhlbiaadoor", sum := "bed56f2076d77ccbb4dd09fe65aa4093430c4820e0489dec96545eef52f4f505", func := "tithing/tithinglaw02.SheetEnds", spec := "sheetEnds", unfollowed := true, recurses := true, named := ["math/bits.deBruijn32tab", "math/bits.deBruijn64tab"], plainKeys := false, apart := false, laid := [("math/bits.deBruijn32tab", laid_math_bits_deBruijn32tab), ("math/bits.deBruijn64tab", laid_math_bits_deBruijn64tab)], narrowed := true }
def SheetEndsUptoSaid : Prop := sheetEndsUptoRow.holds Tryd.pinned (OpenSpec.upto sheetEndsSpec)

/-- 'tithinglaw02.SheetNames', WHERE WHAT IT READS IS OF BULK AT MOST 1048576: true; the input reads as it did. -/
def sheetNamesUptoRow : OpenClaim := { program := "ytcnkbdfkjhlbiaadoor", sum := "bed56f2076d77ccbb4dd09fe65aa4093430c4820e0489dec96545eef52f4f505", func := "tithing/tithinglaw02.SheetNames", spec := "sheetNames", unfollowed := true, recurses := true, named := ["math/bits.deBruijn32tab", "math/bits.deBruijn64tab"], plainKeys := false, apart := false, laid := [("math/bits.deBruijn32tab", laid_math_bits_deBruijn32tab), ("math/bits.deBruijn64tab", laid_math_bits_deBruijn64tab)], narrowed := true }
def SheetNamesUptoSaid : Prop := sheetNamesUptoRow.holds Tryd.pinned (OpenSpec.upto sheetNamesSpec)

end Rows
end Go.Proofs.YtcnkbdfkjhlbiaaDoor
