/- Lemmas, part QAF. Conditions: none. -/
import Derived.Test.YtijechcadlklhaaQAE
import Derived.Test.YtijechcadlklhaaChecked
import Derived.KernelRfl
import Derived.OrdersIn
set_option linter.unusedVariables false
namespace Go.Proofs.Ytijechcadlklhaa
open Go.Sy
theorem ty.sz0 : tsz Try.prog 0 = some 1 := by kernel_rfl
theorem ty.agg0 : tagg Try.prog 0 = some false := by kernel_rfl
theorem ty.elem0 : telem Try.prog 0 = none := by kernel_rfl
theorem ty.sz3 : tsz Try.prog 3 = some 1 := by kernel_rfl
theorem ty.agg3 : tagg Try.prog 3 = some false := by kernel_rfl
theorem ty.zero3 : tzero Try.prog 3 = some (SV.d (.lit (.int .i64 0)) :: []) := by kernel_rfl
theorem ty.elem3 : telem Try.prog 3 = none := by kernel_rfl
theorem ty.und3 : Try.prog.underlying 3 = some (.int .i64) := by kernel_rfl
theorem ty.sz4 : tsz Try.prog 4 = some 1 := by kernel_rfl
theorem ty.agg4 : tagg Try.prog 4 = some false := by kernel_rfl
theorem ty.zero4 : tzero Try.prog 4 = some (SV.d (.lit (.bool false)) :: []) := by kernel_rfl
theorem ty.elem4 : telem Try.prog 4 = none := by kernel_rfl
theorem ty.und4 : Try.prog.underlying 4 = some (.bool) := by kernel_rfl
theorem ty.sz5 : tsz Try.prog 5 = some 1 := by kernel_rfl
theorem ty.agg5 : tagg Try.prog 5 = some false := by kernel_rfl
theorem ty.zero5 : tzero Try.prog 5 = some (SV.d (.lit (.int .u8 0)) :: []) := by kernel_rfl
theorem ty.elem5 : telem Try.prog 5 = none := by kernel_rfl
theorem ty.und5 : Try.prog.underlying 5 = some (.int .u8) := by kernel_rfl
theorem ty.sz9 : tsz Try.prog 9 = some 1 := by kernel_rfl
theorem ty.agg9 : tagg Try.prog 9 = some false := by kernel_rfl
theorem ty.zero9 : tzero Try.prog 9 = some (SV.d (.lit (.string ByteArray.empty)) :: []) := by kernel_rfl
theorem ty.elem9 : telem Try.prog 9 = none := by kernel_rfl
theorem ty.und9 : Try.prog.underlying 9 = some (.string) := by kernel_rfl
theorem ty.sz20 : tsz Try.prog 20 = some 1 := by kernel_rfl
theorem ty.agg20 : tagg Try.prog 20 = some false := by kernel_rfl
theorem ty.elem20 : telem Try.prog 20 = none := by kernel_rfl
theorem ty.sz22 : tsz Try.prog 22 = some 1 := by kernel_rfl
theorem ty.agg22 : tagg Try.prog 22 = some false := by kernel_rfl
theorem ty.zero22 : tzero Try.prog 22 = some (SV.dx [] :: []) := by kernel_rfl
theorem ty.elem22 : telem Try.prog 22 = some 1 := by kernel_rfl
theorem ty.by22 : tby Try.prog 22 = some 24 := by kernel_rfl
theorem ty.ez22 : tez Try.prog 22 = some (SV.dx [] :: []) := by kernel_rfl
theorem ty.und22 : Try.prog.underlying 22 = some (.slice 38) := by kernel_rfl
theorem ty.sz24 : tsz Try.prog 24 = some 2 := by kernel_rfl
theorem ty.agg24 : tagg Try.prog 24 = some true := by kernel_rfl
theorem ty.zero24 : tzero Try.prog 24 = some (SV.dx [] :: (SV.d (.lit (.int .i64 0)) :: [])) := by kernel_rfl
theorem ty.fld24_0 : tfld Try.prog 24 0 = some (0, 1) := by kernel_rfl
theorem ty.fld24_1 : tfld Try.prog 24 1 = some (1, 1) := by kernel_rfl
theorem ty.pl24 : tplaces Try.prog 24 = some (fun i => ([(0, 1), (1, 1)] : List (Nat × Nat))[i]?) := by kernel_rfl
theorem ty.elem24 : telem Try.prog 24 = none := by kernel_rfl
theorem ty.sz25 : tsz Try.prog 25 = some 1 := by kernel_rfl
theorem ty.agg25 : tagg Try.prog 25 = some false := by kernel_rfl
theorem ty.zero25 : tzero Try.prog 25 = some (SV.dx [] :: []) := by kernel_rfl
theorem ty.elem25 : telem Try.prog 25 = some 2 := by kernel_rfl
theorem ty.by25 : tby Try.prog 25 = some 16 := by kernel_rfl
theorem ty.ez25 : tez Try.prog 25 = some (SV.d (.lit (.int .i64 0)) :: (SV.d (.lit (.int .i64 0)) :: [])) := by kernel_rfl
theorem ty.und25 : Try.prog.underlying 25 = some (.slice 43) := by kernel_rfl
theorem ty.sz28 : tsz Try.prog 28 = some 1 := by kernel_rfl
theorem ty.agg28 : tagg Try.prog 28 = some false := by kernel_rfl
theorem ty.zero28 : tzero Try.prog 28 = some (SV.dx [] :: []) := by kernel_rfl
theorem ty.elem28 : telem Try.prog 28 = some 1 := by kernel_rfl
theorem ty.by28 : tby Try.prog 28 = some 24 := by kernel_rfl
theorem ty.ez28 : tez Try.prog 28 = some (SV.dx [] :: []) := by kernel_rfl
theorem ty.und28 : Try.prog.underlying 28 = some (.slice 37) := by kernel_rfl
theorem ty.sz29 : tsz Try.prog 29 = some 1 := by kernel_rfl
theorem ty.agg29 : tagg Try.prog 29 = some false := by kernel_rfl
theorem ty.zero29 : tzero Try.prog 29 = some (SV.d (.lit (.int .i64 0)) :: []) := by kernel_rfl
theorem ty.elem29 : telem Try.prog 29 = none := by kernel_rfl
theorem ty.und29 : Try.prog.underlying 29 = some (.int .i64) := by kernel_rfl
theorem ty.sz30 : tsz Try.prog 30 = some 1 := by kernel_rfl
theorem ty.agg30 : tagg Try.prog 30 = some false := by kernel_rfl
theorem ty.elem30 : telem Try.prog 30 = none := by kernel_rfl
theorem ty.sz32 : tsz Try.prog 32 = some 2 := by kernel_rfl
theorem ty.agg32 : tagg Try.prog 32 = some true := by kernel_rfl
theorem ty.zero32 : tzero Try.prog 32 = some (SV.dx [] :: (SV.d (.lit (.int .i64 0)) :: [])) := by kernel_rfl
theorem ty.fld32_0 : tfld Try.prog 32 0 = some (0, 1) := by kernel_rfl
theorem ty.fld32_1 : tfld Try.prog 32 1 = some (1, 1) := by kernel_rfl
theorem ty.pl32 : tplaces Try.prog 32 = some (fun i => ([(0, 1), (1, 1)] : List (Nat × Nat))[i]?) := by kernel_rfl
theorem ty.elem32 : telem Try.prog 32 = none := by kernel_rfl
theorem ty.sz34 : tsz Try.prog 34 = some 1 := by kernel_rfl
theorem ty.agg34 : tagg Try.prog 34 = some false := by kernel_rfl
theorem ty.zero34 : tzero Try.prog 34 = some (SV.dx [] :: []) := by kernel_rfl
theorem ty.elem34 : telem Try.prog 34 = some 2 := by kernel_rfl
theorem ty.by34 : tby Try.prog 34 = some 16 := by kernel_rfl
theorem ty.ez34 : tez Try.prog 34 = some (SV.d (.lit (.int .i64 0)) :: (SV.d (.lit (.int .i64 0)) :: [])) := by kernel_rfl
theorem ty.und34 : Try.prog.underlying 34 = some (.slice 63) := by kernel_rfl
theorem ty.sz37 : tsz Try.prog 37 = some 1 := by kernel_rfl
theorem ty.agg37 : tagg Try.prog 37 = some false := by kernel_rfl
theorem ty.zero37 : tzero Try.prog 37 = some (SV.dx [] :: []) := by kernel_rfl
theorem ty.elem37 : telem Try.prog 37 = some 2 := by kernel_rfl
theorem ty.by37 : tby Try.prog 37 = some 16 := by kernel_rfl
theorem ty.ez37 : tez Try.prog 37 = some (SV.d (.lit (.int .i64 0)) :: (SV.d (.lit (.int .i64 0)) :: [])) := by kernel_rfl
theorem ty.und37 : Try.prog.underlying 37 = some (.slice 44) := by kernel_rfl
theorem ty.sz38 : tsz Try.prog 38 = some 1 := by kernel_rfl
theorem ty.agg38 : tagg Try.prog 38 = some false := by kernel_rfl
theorem ty.zero38 : tzero Try.prog 38 = some (SV.dx [] :: []) := by kernel_rfl
theorem ty.elem38 : telem Try.prog 38 = some 1 := by kernel_rfl
theorem ty.by38 : tby Try.prog 38 = some 8 := by kernel_rfl
theorem ty.ez38 : tez Try.prog 38 = some (SV.d (.lit (.int .i64 0)) :: []) := by kernel_rfl
theorem ty.und38 : Try.prog.underlying 38 = some (.slice 3) := by kernel_rfl
theorem ty.sz40 : tsz Try.prog 40 = some 2 := by kernel_rfl
theorem ty.agg40 : tagg Try.prog 40 = some true := by kernel_rfl
theorem ty.zero40 : tzero Try.prog 40 = some (SV.d (.lit (.int .i64 0)) :: (SV.d (.lit (.int .i64 0)) :: [])) := by kernel_rfl
theorem ty.fld40_0 : tfld Try.prog 40 0 = some (0, 1) := by kernel_rfl
theorem ty.fld40_1 : tfld Try.prog 40 1 = some (1, 1) := by kernel_rfl
theorem ty.pl40 : tplaces Try.prog 40 = some (fun i => ([(0, 1), (1, 1)] : List (Nat × Nat))[i]?) := by kernel_rfl
theorem ty.elem40 : telem Try.prog 40 = none := by kernel_rfl
theorem ty.sz43 : tsz Try.prog 43 = some 2 := by kernel_rfl
theorem ty.agg43 : tagg Try.prog 43 = some true := by kernel_rfl
theorem ty.zero43 : tzero Try.prog 43 = some (SV.d (.lit (.int .i64 0)) :: (SV.d (.lit (.int .i64 0)) :: [])) := by kernel_rfl
theorem ty.fld43_0 : tfld Try.prog 43 0 = some (0, 1) := by kernel_rfl
theorem ty.fld43_1 : tfld Try.prog 43 1 = some (1, 1) := by kernel_rfl
theorem ty.pl43 : tplaces Try.prog 43 = some (fun i => ([(0, 1), (1, 1)] : List (Nat × Nat))[i]?) := by kernel_rfl
theorem ty.elem43 : telem Try.prog 43 = none := by kernel_rfl
theorem ty.sz44 : tsz Try.prog 44 = some 2 := by kernel_rfl
theorem ty.agg44 : tagg Try.prog 44 = some true := by kernel_rfl
theorem ty.zero44 : tzero Try.prog 44 = some (SV.d (.lit (.int .i64 0)) :: (SV.d (.lit (.int .i64 0)) :: [])) := by kernel_rfl
theorem ty.fld44_0 : tfld Try.prog 44 0 = some (0, 1) := by kernel_rfl
theorem ty.fld44_1 : tfld Try.prog 44 1 = some (1, 1) := by kernel_rfl
theorem ty.pl44 : tplaces Try.prog 44 = some (fun i => ([(0, 1), (1, 1)] : List (Nat × Nat))[i]?) := by kernel_rfl
theorem ty.elem44 : telem Try.prog 44 = none := by kernel_rfl
theorem ty.sz46 : tsz Try.prog 46 = some 1 := by kernel_rfl
theorem ty.agg46 : tagg Try.prog 46 = some false := by kernel_rfl
theorem ty.zero46 : tzero Try.prog 46 = some (SV.dx [] :: []) := by kernel_rfl
theorem ty.elem46 : telem Try.prog 46 = some 4 := by kernel_rfl
theorem ty.by46 : tby Try.prog 46 = some 32 := by kernel_rfl
theorem ty.ez46 : tez Try.prog 46 = some (SV.d (.lit (.int .i64 0)) :: (SV.d (.lit (.int .i64 0)) :: (SV.d (.lit (.int .i64 0)) :: (SV.d (.lit (.int .i64 0)) :: [])))) := by kernel_rfl
theorem ty.und46 : Try.prog.underlying 46 = some (.slice 49) := by kernel_rfl
theorem ty.sz50 : tsz Try.prog 50 = some 1 := by kernel_rfl
theorem ty.agg50 : tagg Try.prog 50 = some false := by kernel_rfl
theorem ty.elem50 : telem Try.prog 50 = none := by kernel_rfl
theorem ty.sz52 : tsz Try.prog 52 = some 1 := by kernel_rfl
theorem ty.agg52 : tagg Try.prog 52 = some false := by kernel_rfl
theorem ty.zero52 : tzero Try.prog 52 = some (SV.dx [] :: []) := by kernel_rfl
theorem ty.elem52 : telem Try.prog 52 = some 4 := by kernel_rfl
theorem ty.by52 : tby Try.prog 52 = some 32 := by kernel_rfl
theorem ty.ez52 : tez Try.prog 52 = some (SV.d (.lit (.int .i64 0)) :: (SV.d (.lit (.int .i64 0)) :: (SV.d (.lit (.int .i64 0)) :: (SV.d (.lit (.int .i64 0)) :: [])))) := by kernel_rfl
theorem ty.und52 : Try.prog.underlying 52 = some (.slice 85) := by kernel_rfl
theorem ty.sz55 : tsz Try.prog 55 = some 1 := by kernel_rfl
theorem ty.agg55 : tagg Try.prog 55 = some false := by kernel_rfl
theorem ty.zero55 : tzero Try.prog 55 = some (SV.d (.lit (.int .u64 0)) :: []) := by kernel_rfl
theorem ty.elem55 : telem Try.prog 55 = none := by kernel_rfl
theorem ty.und55 : Try.prog.underlying 55 = some (.int .u64) := by kernel_rfl
theorem ty.sz61 : tsz Try.prog 61 = some 1 := by kernel_rfl
theorem ty.agg61 : tagg Try.prog 61 = some false := by kernel_rfl
theorem ty.elem61 : telem Try.prog 61 = none := by kernel_rfl
theorem ty.sz63 : tsz Try.prog 63 = some 2 := by kernel_rfl
theorem ty.agg63 : tagg Try.prog 63 = some true := by kernel_rfl
theorem ty.zero63 : tzero Try.prog 63 = some (SV.d (.lit (.int .i64 0)) :: (SV.d (.lit (.int .i64 0)) :: [])) := by kernel_rfl
theorem ty.fld63_0 : tfld Try.prog 63 0 = some (0, 1) := by kernel_rfl
theorem ty.fld63_1 : tfld Try.prog 63 1 = some (1, 1) := by kernel_rfl
theorem ty.pl63 : tplaces Try.prog 63 = some (fun i => ([(0, 1), (1, 1)] : List (Nat × Nat))[i]?) := by kernel_rfl
theorem ty.elem63 : telem Try.prog 63 = none := by kernel_rfl
theorem ty.sz65 : tsz Try.prog 65 = some 1 := by kernel_rfl
theorem ty.agg65 : tagg Try.prog 65 = some false := by kernel_rfl
theorem ty.elem65 : telem Try.prog 65 = none := by kernel_rfl
theorem ty.sz69 : tsz Try.prog 69 = some 1 := by kernel_rfl
theorem ty.agg69 : tagg Try.prog 69 = some false := by kernel_rfl
theorem ty.zero69 : tzero Try.prog 69 = some (SV.d (.lit (.pointer none)) :: []) := by kernel_rfl
theorem ty.elem69 : telem Try.prog 69 = none := by kernel_rfl
theorem ty.sz70 : tsz Try.prog 70 = some 1 := by kernel_rfl
theorem ty.agg70 : tagg Try.prog 70 = some false := by kernel_rfl
theorem ty.elem70 : telem Try.prog 70 = none := by kernel_rfl
theorem ty.sz72 : tsz Try.prog 72 = some 1 := by kernel_rfl
theorem ty.agg72 : tagg Try.prog 72 = some false := by kernel_rfl
theorem ty.zero72 : tzero Try.prog 72 = some (SV.d (.lit .nilFunc) :: []) := by kernel_rfl
theorem ty.elem72 : telem Try.prog 72 = none := by kernel_rfl
theorem ty.sz73 : tsz Try.prog 73 = some 1 := by kernel_rfl
theorem ty.agg73 : tagg Try.prog 73 = some false := by kernel_rfl
theorem ty.zero73 : tzero Try.prog 73 = some (SV.d (.lit .nilFunc) :: []) := by kernel_rfl
theorem ty.elem73 : telem Try.prog 73 = none := by kernel_rfl
theorem ty.sz85 : tsz Try.prog 85 = some 4 := by kernel_rfl
theorem ty.agg85 : tagg Try.prog 85 = some true := by kernel_rfl
theorem ty.zero85 : tzero Try.prog 85 = some (SV.d (.lit (.int .i64 0)) :: (SV.d (.lit (.int .i64 0)) :: (SV.d (.lit (.int .i64 0)) :: (SV.d (.lit (.int .i64 0)) :: [])))) := by kernel_rfl
theorem ty.fld85_0 : tfld Try.prog 85 0 = some (0, 2) := by kernel_rfl
theorem ty.fld85_1 : tfld Try.prog 85 1 = some (2, 1) := by kernel_rfl
theorem ty.fld85_2 : tfld Try.prog 85 2 = some (3, 1) := by kernel_rfl
theorem ty.pl85 : tplaces Try.prog 85 = some (fun i => ([(0, 2), (2, 1), (3, 1)] : List (Nat × Nat))[i]?) := by kernel_rfl
theorem ty.elem85 : telem Try.prog 85 = none := by kernel_rfl
theorem ty.sz86 : tsz Try.prog 86 = some 1 := by kernel_rfl
theorem ty.agg86 : tagg Try.prog 86 = some false := by kernel_rfl
theorem ty.zero86 : tzero Try.prog 86 = some (SV.d (.lit .nilFunc) :: []) := by kernel_rfl
theorem ty.elem86 : telem Try.prog 86 = none := by kernel_rfl
theorem ty.sz89 : tsz Try.prog 89 = some 1 := by kernel_rfl
theorem ty.agg89 : tagg Try.prog 89 = some false := by kernel_rfl
theorem ty.zero89 : tzero Try.prog 89 = some (SV.d (.lit .nilFunc) :: []) := by kernel_rfl
theorem ty.elem89 : telem Try.prog 89 = none := by kernel_rfl
theorem ty.sz91 : tsz Try.prog 91 = some 1 := by kernel_rfl
theorem ty.agg91 : tagg Try.prog 91 = some false := by kernel_rfl
theorem ty.zero91 : tzero Try.prog 91 = some (SV.d (.lit .nilFunc) :: []) := by kernel_rfl
theorem ty.elem91 : telem Try.prog 91 = none := by kernel_rfl
theorem ty.sz94 : tsz Try.prog 94 = some 1 := by kernel_rfl
theorem ty.agg94 : tagg Try.prog 94 = some true := by kernel_rfl
theorem ty.zero94 : tzero Try.prog 94 = some (SV.d (.lit .nilFunc) :: []) := by kernel_rfl
theorem ty.fld94_0 : tfld Try.prog 94 0 = some (0, 1) := by kernel_rfl
theorem ty.pl94 : tplaces Try.prog 94 = some (fun i => ([(0, 1)] : List (Nat × Nat))[i]?) := by kernel_rfl
theorem ty.elem94 : telem Try.prog 94 = none := by kernel_rfl
theorem ty.sz98 : tsz Try.prog 98 = some 4 := by kernel_rfl
theorem ty.agg98 : tagg Try.prog 98 = some true := by kernel_rfl
theorem ty.zero98 : tzero Try.prog 98 = some (SV.d (.lit (.bool false)) :: (SV.d (.lit (.bool false)) :: (SV.d (.lit (.bool false)) :: (SV.d (.lit (.bool false)) :: [])))) := by kernel_rfl
theorem ty.elem98 : telem Try.prog 98 = none := by kernel_rfl
theorem ty.arr98 : tarr Try.prog 98 = some (4, 1) := by kernel_rfl
theorem ty.und98 : Try.prog.underlying 98 = some (.array 4 4) := by kernel_rfl
theorem ty.sz100 : tsz Try.prog 100 = some 12 := by kernel_rfl
theorem ty.agg100 : tagg Try.prog 100 = some true := by kernel_rfl
theorem ty.zero100 : tzero Try.prog 100 = some (SV.d (.lit (.bool false)) :: (SV.d (.lit (.bool false)) :: (SV.d (.lit (.bool false)) :: (SV.d (.lit (.bool false)) :: (SV.d (.lit (.bool false)) :: (SV.d (.lit (.bool false)) :: (SV.d (.lit (.bool false)) :: (SV.d (.lit (.bool false)) :: (SV.d (.lit (.bool false)) :: (SV.d (.lit (.bool false)) :: (SV.d (.lit (.bool false)) :: (SV.d (.lit (.bool false)) :: [])))))))))))) := by kernel_rfl
theorem ty.elem100 : telem Try.prog 100 = none := by kernel_rfl
theorem ty.arr100 : tarr Try.prog 100 = some (3, 4) := by kernel_rfl
theorem ty.und100 : Try.prog.underlying 100 = some (.array 3 98) := by kernel_rfl
theorem ty.sz102 : tsz Try.prog 102 = some 14 := by kernel_rfl
theorem ty.agg102 : tagg Try.prog 102 = some true := by kernel_rfl
theorem ty.zero102 : tzero Try.prog 102 = some (SV.dx [] :: (SV.d (.lit (.int .i64 0)) :: (SV.d (.lit (.bool false)) :: (SV.d (.lit (.bool false)) :: (SV.d (.lit (.bool false)) :: (SV.d (.lit (.bool false)) :: (SV.d (.lit (.bool false)) :: (SV.d (.lit (.bool false)) :: (SV.d (.lit (.bool false)) :: (SV.d (.lit (.bool false)) :: (SV.d (.lit (.bool false)) :: (SV.d (.lit (.bool false)) :: (SV.d (.lit (.bool false)) :: (SV.d (.lit (.bool false)) :: [])))))))))))))) := by kernel_rfl
theorem ty.fld102_0 : tfld Try.prog 102 0 = some (0, 2) := by kernel_rfl
theorem ty.fld102_1 : tfld Try.prog 102 1 = some (2, 12) := by kernel_rfl
theorem ty.pl102 : tplaces Try.prog 102 = some (fun i => ([(0, 2), (2, 12)] : List (Nat × Nat))[i]?) := by kernel_rfl
theorem ty.elem102 : telem Try.prog 102 = none := by kernel_rfl
theorem ty.sz109 : tsz Try.prog 109 = some 3 := by kernel_rfl
theorem ty.agg109 : tagg Try.prog 109 = some true := by kernel_rfl
theorem ty.zero109 : tzero Try.prog 109 = some (SV.d (.lit (.int .i64 0)) :: (SV.d (.lit (.int .i64 0)) :: (SV.d (.lit (.int .i64 0)) :: []))) := by kernel_rfl
theorem ty.elem109 : telem Try.prog 109 = none := by kernel_rfl
theorem ty.arr109 : tarr Try.prog 109 = some (3, 1) := by kernel_rfl
theorem ty.und109 : Try.prog.underlying 109 = some (.array 3 3) := by kernel_rfl
theorem ty.sz110 : tsz Try.prog 110 = some 4 := by kernel_rfl
theorem ty.agg110 : tagg Try.prog 110 = some true := by kernel_rfl
theorem ty.zero110 : tzero Try.prog 110 = some (SV.d (.lit (.int .i64 0)) :: (SV.d (.lit (.int .i64 0)) :: (SV.d (.lit (.int .i64 0)) :: (SV.d (.lit (.int .i64 0)) :: [])))) := by kernel_rfl
theorem ty.elem110 : telem Try.prog 110 = none := by kernel_rfl
theorem ty.arr110 : tarr Try.prog 110 = some (4, 1) := by kernel_rfl
theorem ty.und110 : Try.prog.underlying 110 = some (.array 4 3) := by kernel_rfl
theorem ty.sz113 : tsz Try.prog 113 = some 1 := by kernel_rfl
theorem ty.agg113 : tagg Try.prog 113 = some false := by kernel_rfl
theorem ty.zero113 : tzero Try.prog 113 = some (SV.d (.lit .nilFunc) :: []) := by kernel_rfl
theorem ty.elem113 : telem Try.prog 113 = none := by kernel_rfl
theorem ty.sz117 : tsz Try.prog 117 = some 2 := by kernel_rfl
theorem ty.agg117 : tagg Try.prog 117 = some true := by kernel_rfl
theorem ty.zero117 : tzero Try.prog 117 = some (SV.d (.lit (.bool false)) :: (SV.d (.lit (.int .i64 0)) :: [])) := by kernel_rfl
theorem ty.fld117_0 : tfld Try.prog 117 0 = some (0, 1) := by kernel_rfl
theorem ty.fld117_1 : tfld Try.prog 117 1 = some (1, 1) := by kernel_rfl
theorem ty.pl117 : tplaces Try.prog 117 = some (fun i => ([(0, 1), (1, 1)] : List (Nat × Nat))[i]?) := by kernel_rfl
theorem ty.elem117 : telem Try.prog 117 = none := by kernel_rfl
theorem ty.sz119 : tsz Try.prog 119 = some 1 := by kernel_rfl
theorem ty.agg119 : tagg Try.prog 119 = some false := by kernel_rfl
theorem ty.zero119 : tzero Try.prog 119 = some (SV.d (.lit .nilFunc) :: []) := by kernel_rfl
theorem ty.elem119 : telem Try.prog 119 = none := by kernel_rfl
theorem ty.sz126 : tsz Try.prog 126 = some 1 := by kernel_rfl
theorem ty.agg126 : tagg Try.prog 126 = some false := by kernel_rfl
theorem ty.zero126 : tzero Try.prog 126 = some (SV.d (.lit (.map none)) :: []) := by kernel_rfl
theorem ty.elem126 : telem Try.prog 126 = none := by kernel_rfl
theorem ty.sz127 : tsz Try.prog 127 = some 1 := by kernel_rfl
theorem ty.agg127 : tagg Try.prog 127 = some false := by kernel_rfl
theorem ty.zero127 : tzero Try.prog 127 = some (SV.d (.lit .nilFunc) :: []) := by kernel_rfl
theorem ty.elem127 : telem Try.prog 127 = none := by kernel_rfl
theorem ty.sz128 : tsz Try.prog 128 = some 1 := by kernel_rfl
theorem ty.agg128 : tagg Try.prog 128 = some false := by kernel_rfl
theorem ty.elem128 : telem Try.prog 128 = none := by kernel_rfl
theorem ty.sz131 : tsz Try.prog 131 = some 1 := by kernel_rfl
theorem ty.agg131 : tagg Try.prog 131 = some false := by kernel_rfl
theorem ty.zero131 : tzero Try.prog 131 = some (SV.d (.lit .nilFunc) :: []) := by kernel_rfl
theorem ty.elem131 : telem Try.prog 131 = none := by kernel_rfl
theorem ty.sz134 : tsz Try.prog 134 = some 1 := by kernel_rfl
theorem ty.agg134 : tagg Try.prog 134 = some false := by kernel_rfl
theorem ty.zero134 : tzero Try.prog 134 = some (SV.d (.lit (.int .i64 0)) :: []) := by kernel_rfl
theorem ty.elem134 : telem Try.prog 134 = none := by kernel_rfl
theorem ty.und134 : Try.prog.underlying 134 = some (.int .i64) := by kernel_rfl
theorem ty.sz135 : tsz Try.prog 135 = some 1 := by kernel_rfl
theorem ty.agg135 : tagg Try.prog 135 = some false := by kernel_rfl
theorem ty.elem135 : telem Try.prog 135 = none := by kernel_rfl
theorem ty.sz139 : tsz Try.prog 139 = some 1 := by kernel_rfl
theorem ty.agg139 : tagg Try.prog 139 = some false := by kernel_rfl
theorem ty.elem139 : telem Try.prog 139 = none := by kernel_rfl
theorem ty.sz142 : tsz Try.prog 142 = some 1 := by kernel_rfl
theorem ty.agg142 : tagg Try.prog 142 = some false := by kernel_rfl
theorem ty.zero142 : tzero Try.prog 142 = some (SV.d (.lit (.int .u32 0)) :: []) := by kernel_rfl
theorem ty.elem142 : telem Try.prog 142 = none := by kernel_rfl
theorem ty.und142 : Try.prog.underlying 142 = some (.int .u32) := by kernel_rfl
theorem ty.sz144 : tsz Try.prog 144 = some 1 := by kernel_rfl
theorem ty.agg144 : tagg Try.prog 144 = some false := by kernel_rfl
theorem ty.zero144 : tzero Try.prog 144 = some (SV.d (.lit (.int .u64 0)) :: []) := by kernel_rfl
theorem ty.elem144 : telem Try.prog 144 = none := by kernel_rfl
theorem ty.und144 : Try.prog.underlying 144 = some (.int .u64) := by kernel_rfl
end Go.Proofs.Ytijechcadlklhaa
namespace Go.Sy
def keepT : List Nat → List (Nat × SV) → List (Nat × SV)
  | [], _ => []
  | k :: ks, tm => match tm.lookup k with
    | some s => (k, s) :: keepT ks tm
    | none => keepT ks tm
theorem keepT_lookup {tm : List (Nat × SV)} {t : Nat} {s : SV} : ∀ {ks : List Nat}, (keepT ks tm).lookup t = some s → tm.lookup t = some s
  | [], h => by simp [keepT] at h
  | k :: ks, h => by
    unfold keepT at h
    split at h
    · rename_i s' hs
      simp only [List.lookup_cons] at h
      split at h
      · rename_i he
        have : t = k := by simpa using he
        subst this
        rw [hs]; exact h
      · exact keepT_lookup h
    · exact keepT_lookup h
def St.keep (ks : List Nat) (s : St) : St := ⟨keepT ks s.tm, s.hp, s.nx, s.nt, s.df, s.nb⟩
section
variable {P : Program} {G : Nat → Option (List D)} {ro : Option Nat} {st st' : St} {Q : Exit → St → Prop}
theorem Imp.weak {tm' : List (Nat × SV)} {hp' : HpT} {nx' : Nat} (ht : ∀ t s, tm'.lookup t = some s → st.tm.lookup t = some s) (hh : hp'.Sublist st.hp) (hn : st.nx ≤ nx') : Imp st ⟨tm', hp', nx', st.nt, st.df, st.nb⟩ := by
  intro G O M pb pl a w hR
  obtain ⟨h1, h2⟩ := hR.hs.sub hh
  refine ⟨pl, ⟨{ h1 with fresh := fun id hid => h1.fresh id (by simp only at hid; omega) }, fun t s h => ?_, hR.nt, hR.df, hR.bd⟩, fun B hB => ?_⟩
  · exact (hR.tm t s (ht t s h)).ext h2.ext fun _ _ h => h
  · obtain ⟨p, h1, r⟩ := hB
    exact ⟨p, hh.subset h1, r⟩
theorem Imp.keep (ks : List Nat) : Imp st (st.keep ks) := Imp.weak (fun _ _ h => keepT_lookup h) (List.Sublist.refl _) (Nat.le_refl _)
theorem Tr.post {c : Code} (h : Tr P G ro c st fun x s => ∃ s', Imp s s' ∧ Q x s') : Tr P G ro c st Q := by
  intro O M pb pl a w hR
  refine wpIn_mono (h O M pb pl a w hR) ?_
  rintro x a' w' ⟨pl', s, ⟨s', hi, hq⟩, hR', hst⟩
  obtain ⟨pl₂, hR₂, hown⟩ := hi G O M pb pl' a' w' hR'
  exact ⟨pl₂, s', hq, hR₂, hst.trans (Step.less w' hown)⟩
theorem Tr.reg {id : Nat} {ops : Array Oper} {y : Code} (ks : List Nat) {st' : St} (h : z8 P G ops.toList ops.toList st fun s => s.keep ks = st') (hy : Tr P G ro y st' Q) : Tr P G ro (.seq (.region id ops false) y) st Q := by
  refine Tr.seq ((Tr.region (Q := fun x s => match x with | .normal => s.keep ks = st' | _ => False) h).mono ?_)
  intro x s hx
  cases x with
  | normal => exact Tr.imp (hx ▸ Imp.keep ks) hy
  | _ => exact hx.elim
theorem Tr.reg1 {id : Nat} {ops : Array Oper} (ks : List Nat) {st' : St} (h : z8 P G ops.toList ops.toList st fun s => s.keep ks = st') (hq : Q .normal st') : Tr P G ro (.region id ops false) st Q := by
  refine Tr.post ((Tr.region (Q := fun x s => match x with | .normal => s.keep ks = st' | _ => False) h).mono ?_)
  intro x s hx
  cases x with
  | normal => exact ⟨st', hx ▸ Imp.keep ks, hq⟩
  | _ => exact hx.elim
theorem CallP.body {f : FuncId} {fn : Func} {c : Code} {args : List SV} {r : SV} (nt : Nat) (rvs : List ResultVar) (hf : P.funcs[f]? = some fn) (hok : okFn P f = true) (hb : fn.body = some c) (hnt : max args.length fn.ntmps = nt) (hrv : fn.results.toList = rvs) (hargs : ∀ s ∈ args, Pure s) (hr : Pure r)
    (h : Tr P G none c ⟨argTm 0 args, [], 0, nt, [], 0⟩ fun x st => (x = .normal ∨ x = .ret) ∧ Res P rvs st r) :
    CallP P G f args r := by
  subst hnt hrv
  exact CallP.of_body hf hb hok hargs hr h
end
end Go.Sy
namespace Go.Sy
def zH (o : Oper) (ρ : Operand → SV) : Option Nat :=
  match o.op with
  | .load _ x => match ρ x with | .ptr id _ _ => some id | _ => none
  | _ => none
def quietKind (o : Oper) : Bool :=
  match o.op with
  | .move _ | .assign _ | .pick .. | .binOp .. | .unOp .. | .convert .. | .extract .. | .makeFunc .. | .nilCheck _ | .fieldAddr .. | .field .. | .indexAddr .. | .slice .. | .load .. | .build .. | .buildSlice .. => true
  | .call ⟨.value _, _, _⟩ => true
  | .call ⟨.builtin .len, _, _⟩ => true
  | .call ⟨.builtin .max, _, _⟩ => true
  | .call ⟨.builtin .min, _, _⟩ => true
  | _ => false
def callV (o : Oper) : Bool := match o.op with | .call ⟨.value _, _, _⟩ => true | .next .. => true | _ => false
abbrev Det (r : SV) (hp : HpT) (nx : Nat) : KT := fun a b c => a = r ∧ b = hp ∧ c = nx
section
variable {P : Program} {G : Nat → Option (List D)} {hp hp' hp2 : HpT} {nx nx' nx2 : Nat}
theorem xJ {op : BinOp} {k : IntKind} {a b : Int} {K : SV → Prop} (h : z7 op k a b K) : ∃ r, K r ∧ z7 op k a b (· = r) := by
  cases op <;> simp only [z7] at h ⊢ <;> first
    | exact h.elim
    | exact ⟨_, h, rfl⟩
    | exact ⟨_, h.2, h.1, rfl⟩
theorem xK {op : BinOp} {t : TypeId} {x y : SV} {K : SV → Prop} (h : yB P op t x y K) : ∃ r, K r ∧ yB P op t x y (· = r) := by
  unfold yB at h ⊢
  split at h
  · split at h
    · exact ⟨_, h.2, h.1, rfl⟩
    · exact ⟨_, h.2, h.1, rfl⟩
    · obtain ⟨r, h1, h2⟩ := xJ h.2
      exact ⟨r, h1, h.1, h2⟩
  · obtain ⟨h1, h⟩ := h
    split at h
    · exact ⟨_, h, h1, rfl⟩
    · exact ⟨_, h, h1, rfl⟩
    · exact h.elim
  · obtain ⟨aS0, bs, h1, h2, h3, h4, h⟩ := h
    split at h
    · exact ⟨_, h, aS0, bs, h1, h2, h3, h4, rfl⟩
    · exact ⟨_, h, aS0, bs, h1, h2, h3, h4, rfl⟩
    · exact h.elim
  · exact h.elim
theorem xO {op : UnOp} {x : SV} {K : SV → Prop} (h : zJ op x K) : ∃ r, K r ∧ zJ op x (· = r) := by
  unfold zJ at h ⊢
  split at h <;> first | exact ⟨_, h, rfl⟩ | exact h.elim
theorem xB {s t : TypeId} {x : SV} {K : SV → Prop} (h : zW P s t x K) : ∃ r, K r ∧ zW P s t x (· = r) := by
  unfold zW at h ⊢
  split at h
  · obtain ⟨k, h1, h2, h⟩ := h; exact ⟨_, h, k, h1, h2, rfl⟩
  · exact h.elim
theorem xC {c a b : SV} {K : SV → Prop} (h : zI c a b K) : ∃ r, K r ∧ zI c a b (· = r) := by
  unfold zI at h ⊢
  split at h <;> first | exact ⟨_, h, rfl⟩ | exact ⟨_, h.2, h.1, rfl⟩ | exact h.elim
theorem yT {x : SV} {i : Nat} {K : SV → Prop} (h : zK x i K) : ∃ r, K r ∧ zK x i (· = r) := by
  unfold zK at h ⊢
  split at h <;> first | exact ⟨_, h.2, h.1, rfl⟩ | exact h.elim
theorem xL {x : SV} {K : SV → Prop} (h : zR x K) : ∃ r, K r ∧ zR x (· = r) := by
  unfold zR at h ⊢
  split at h <;> first | exact ⟨_, h, rfl⟩ | exact h.elim
theorem yM {t : TypeId} {x : SV} {f : Nat} {K : SV → Prop} (h : zA P t x f K) : ∃ r, K r ∧ zA P t x f (· = r) := by
  unfold zA at h ⊢
  split at h
  · obtain ⟨h1, h⟩ := h
    split at h <;> first | exact ⟨_, h, h1, rfl⟩ | exact h.elim
  · exact h.elim
theorem yY {t : TypeId} {x : SV} {f : Nat} {K : SV → Prop} (h : yD P t x f K) : ∃ r, K r ∧ yD P t x f (· = r) := by
  unfold yD at h ⊢
  split at h
  · split at h
    · split at h <;> first | exact ⟨_, h.2, h.1, rfl⟩ | exact h.elim
    · exact h.elim
  · exact h.elim
theorem yN {t : TypeId} {x i : SV} {K : SV → Prop} (h : z5 P t x i K) : ∃ r, K r ∧ z5 P t x i (· = r) := by
  unfold z5 at h ⊢
  split at h
  · split at h
    · split at h
      · exact ⟨_, h.2.2.2, h.1, h.2.1, h.2.2.1, rfl⟩
      · exact ⟨_, h.2.2.2, h.1, h.2.1, h.2.2.1, rfl⟩
      · exact ⟨_, h.2.2.2, h.1, h.2.1, h.2.2.1, rfl⟩
      · exact h.elim
    · split at h
      · obtain ⟨h1, h2, h⟩ := h
        split at h <;> first | exact ⟨_, h, h1, h2, rfl⟩ | exact h.elim
      · exact h.elim
  · exact h.elim
theorem xD {t : TypeId} {x : SV} {K : SV → Prop} (h : zD P t x hp K) : ∃ r, K r ∧ zD P t x hp (· = r) := by
  unfold zD at h ⊢
  split at h
  · split at h
    · split at h
      · obtain ⟨h1, h⟩ := h
        split at h
        · exact ⟨_, h.2, h1, h.1, rfl⟩
        · exact ⟨_, h.2, h1, h.1, rfl⟩
      · exact h.elim
    · split at h
      · exact ⟨_, h.2, h.1, rfl⟩
      · exact ⟨_, h.2, h.1, rfl⟩
    · split at h
      · exact ⟨_, h.2, h.1, rfl⟩
      · exact ⟨_, h.2, h.1, rfl⟩
    · exact h.elim
  · exact h.elim
theorem xM {t : TypeId} {x : SV} {K : SV → Prop} (h : zL P t x K) : ∃ r, K r ∧ zL P t x (· = r) := by
  unfold zL at h ⊢
  split at h <;> first | exact ⟨_, h, rfl⟩ | exact h.elim
theorem yQ {sz : Nat} {es : List (List D)} {b : Option (Int × Int × Option Int)} {K : SV → Prop} (h : yE sz es b K) : ∃ r, K r ∧ yE sz es b (· = r) := by
  unfold yE at h ⊢
  obtain ⟨h0, h⟩ := h
  split at h
  · exact ⟨_, h.2.2.2, h0, h.1, h.2.1, h.2.2.1, rfl⟩
  · exact ⟨_, h.2.2.2.2, h0, h.1, h.2.1, h.2.2.1, h.2.2.2.1, rfl⟩
  · exact h.elim
theorem yZ {t : TypeId} {x : SV} {lo hi mx : Option SV} {K : SV → Prop} (h : zV P t x lo hi mx K) : ∃ r, K r ∧ zV P t x lo hi mx (· = r) := by
  unfold zV at h ⊢
  split at h
  · split at h
    · obtain ⟨h0, h⟩ := h
      split at h
      · obtain ⟨h1, h2, h3, h⟩ := h
        split at h
        · rename_i hc
          exact ⟨_, h, h0, h1, h2, h3, by rw [if_pos hc]⟩
        · rename_i hc
          exact ⟨_, h, h0, h1, h2, h3, by rw [if_neg hc]⟩
      · exact ⟨_, h.2.2.2.2.2, h0, h.1, h.2.1, h.2.2.1, h.2.2.2.1, h.2.2.2.2.1, rfl⟩
      · exact h.elim
    · exact yQ h
    · exact yQ h
    · exact h.elim
  · exact h.elim
theorem y2 {mx : Bool} {xs : List SV} {K : SV → Prop} (h : yJ mx xs K) : ∃ r, K r ∧ yJ mx xs (· = r) := by
  unfold yJ at h ⊢
  split at h
  · exact ⟨_, h.2, h.1, rfl⟩
  · exact h.elim
theorem y3 {t : TypeId} {ps : List (Nat × SV)} {K : SV → Prop} (h : zO P t ps K) : ∃ r, K r ∧ zO P t ps (· = r) := by
  unfold zO at h ⊢
  split at h
  · split at h
    · exact ⟨_, h, rfl⟩
    · exact h.elim
  · exact h.elim
theorem yK {t : TypeId} {len : Nat} {ps : List (Nat × SV)} {K : KT} (h : zG P t len ps hp nx K) : ∃ r hp' nx', K r hp' nx' ∧ zG P t len ps hp nx (Det r hp' nx') := by
  unfold zG at h ⊢
  split at h
  · obtain ⟨h1, h2, h3, h4, h5, h⟩ := h
    split at h
    · exact ⟨_, _, _, h, h1, h2, h3, h4, h5, rfl, rfl, rfl⟩
    · split at h
      · exact ⟨_, _, _, h, h1, h2, h3, h4, h5, rfl, rfl, rfl⟩
      · exact ⟨_, _, _, h, h1, h2, h3, h4, h5, rfl, rfl, rfl⟩
  · exact h.elim
theorem xN {v : SV} {K : KT} (h : zN v hp nx K) : ∃ r hp' nx', K r hp' nx' ∧ zN v hp nx (Det r hp' nx') := by
  unfold zN at h ⊢
  exact ⟨_, _, _, h.2.2, h.1, h.2.1, rfl, rfl, rfl⟩
theorem y4 {t : TypeId} {K : KT} (h : zM P t hp nx K) : ∃ r hp' nx', K r hp' nx' ∧ zM P t hp nx (Det r hp' nx') := by
  unfold zM at h ⊢
  split at h
  · exact ⟨_, _, _, h.2, h.1, rfl, rfl, rfl⟩
  · exact h.elim
theorem y5 {t : TypeId} {x v : SV} {K : HpT → Prop} (h : yC P t x v hp K) : ∃ hp', K hp' ∧ yC P t x v hp (· = hp') := by
  unfold yC at h ⊢
  split at h
  · split at h
    · exact ⟨_, h.2.2.2.2.2, h.1, h.2.1, h.2.2.1, h.2.2.2.1, h.2.2.2.2.1, rfl⟩
    · exact h.elim
  · exact h.elim
theorem yO {t : TypeId} {l c : SV} {K : KT} (h : z6 P t l c hp nx K) : ∃ r hp' nx', K r hp' nx' ∧ z6 P t l c hp nx (Det r hp' nx') := by
  unfold z6 at h ⊢
  split at h
  · split at h
    · exact ⟨_, _, _, h.2.2.2.2.2.2, h.1, h.2.1, h.2.2.1, h.2.2.2.1, h.2.2.2.2.1, h.2.2.2.2.2.1, rfl, rfl, rfl⟩
    · exact h.elim
  · exact h.elim
theorem yV {t t' : TypeId} {s x : SV} {K : KT} (h : zQ P t t' s x hp nx K) : ∃ r hp' nx', K r hp' nx' ∧ zQ P t t' s x hp nx (Det r hp' nx') := by
  unfold zQ at h ⊢
  split at h
  · obtain ⟨h1, h2, h⟩ := h
    split at h
    · obtain ⟨h3, h⟩ := h
      split at h
      · exact ⟨_, _, _, h.2.2.2.2, h1, h2, h3, h.1, h.2.1, h.2.2.1, h.2.2.2.1, rfl, rfl, rfl⟩
      · obtain ⟨h4, h⟩ := h
        split at h
        · split at h
          · rename_i hc
            refine ⟨_, _, _, h.2.2, h1, h2, h3, h4, ?_⟩
            rw [if_pos hc]
            exact ⟨h.1, h.2.1, rfl, rfl, rfl⟩
          · rename_i hc
            refine ⟨_, _, _, h.2.2, h1, h2, h3, h4, ?_⟩
            rw [if_neg hc]
            exact ⟨h.1, h.2.1, rfl, rfl, rfl⟩
        · exact h.elim
      · exact h.elim
    · exact h.elim
  · exact h.elim
theorem y6 {t : TypeId} {x : SV} {K : HpT → Prop} (h : yH P t x hp K) : ∃ hp', K hp' ∧ yH P t x hp (· = hp') := by
  unfold yH at h ⊢
  split at h
  · obtain ⟨h0, h⟩ := h
    split at h
    · obtain ⟨h1, h⟩ := h
      split at h
      · obtain ⟨h2, h⟩ := h
        rename_i hl
        exact ⟨_, h, h0, h1, by simp only; exact ⟨h2, trivial⟩⟩
      · exact h.elim
    · exact h.elim
  · exact h.elim
theorem yW {t : TypeId} {x k : SV} {b : Bool} {K : SV → Prop} (h : zX P t x k b hp K) : ∃ r, K r ∧ zX P t x k b hp (· = r) := by
  unfold zX at h ⊢
  split at h
  · obtain ⟨h1, h⟩ := h
    cases b
    · exact ⟨_, h, h1, rfl⟩
    · exact ⟨_, h, h1, rfl⟩
  · exact h.elim
theorem yF {t : TypeId} {m k v : SV} {K : HpT → Prop} (h : zU P t m k v hp K) : ∃ hp', K hp' ∧ zU P t m k v hp (· = hp') := by
  unfold zU at h ⊢
  split at h
  · split at h
    · rename_i hk _ es hl
      exact ⟨_, h.2, by simp only; exact ⟨h.1, trivial⟩⟩
    · exact h.elim
  · exact h.elim
theorem y7 {t : TypeId} {x : SV} {K : KT} (h : yG P t x hp nx K) : ∃ r hp' nx', K r hp' nx' ∧ yG P t x hp nx (Det r hp' nx') := by
  obtain ⟨h0, h⟩ := h
  split at h
  · exact ⟨_, _, _, h, h0, rfl, rfl, rfl⟩
  · exact h.elim
theorem y8 {x : SV} {K : SV → Prop} (h : yA x hp K) : ∃ r, K r ∧ yA x hp (· = r) := by
  unfold yA at h ⊢
  split at h
  · split at h
    · obtain ⟨k, s, e, hk, h⟩ := h
      rename_i hl
      exact ⟨_, h, k, s, e, hk, rfl⟩
    · exact h.elim
  · exact h.elim
theorem detEq (r : SV) (hp : HpT) (nx : Nat) : (fun a => Det r hp nx a hp nx) = (· = r) := by
  funext a; simp [Det]
theorem lift {p : (SV → Prop) → Prop} {K : KT} (h : ∃ r, K r hp nx ∧ p (· = r)) : ∃ r hp' nx', K r hp' nx' ∧ p (fun a => Det r hp' nx' a hp nx) := by
  obtain ⟨r, h1, h2⟩ := h
  refine ⟨r, hp, nx, h1, ?_⟩
  rw [detEq]; exact h2
theorem xE {c : Call} {ρ : Operand → SV} {K : KT} (hv : ∀ f, c.callee ≠ .value f) (h : zB P G c ρ hp nx K) : ∃ r hp' nx', K r hp' nx' ∧ zB P G c ρ hp nx (Det r hp' nx') := by
  unfold zB at h ⊢
  split at h
  · rename_i f hf; exact absurd hf (hv f)
  · split at h
    · obtain ⟨hp', h1, h2⟩ := y6 h
      refine ⟨_, _, _, h1, ?_⟩
      have e : (fun h => Det SV.unk hp' nx SV.unk h nx) = (· = hp') := by funext a; simp [Det]
      rw [e]; exact h2
    · exact h.elim
  · split at h
    · exact lift (p := zL P _ _) (xM h)
    · exact h.elim
  · split at h
    · exact yV h
    · exact h.elim
  · exact lift (p := yJ _ _) (y2 h)
  · exact lift (p := yJ _ _) (y2 h)
  · exact h.elim
theorem exq_det {o : Oper} {ρ : Operand → SV} {K : KT} (hv : callV o = false) (h : exq P G o ρ hp nx K) : ∃ r hp' nx', K r hp' nx' ∧ exq P G o ρ hp nx (Det r hp' nx') := by
  obtain ⟨dst, op, type, pos, after, guard⟩ := o
  unfold exq at h ⊢
  cases op <;> simp only at h ⊢ <;> try exact h.elim
  case move x => exact ⟨_, _, _, h, rfl, rfl, rfl⟩
  case assign x => exact ⟨_, _, _, h, rfl, rfl, rfl⟩
  case pick c a b => exact lift (p := zI _ _ _) (xC h)
  case binOp op t a b t' => exact lift (p := yB P _ _ _ _) (xK h)
  case unOp op t a => exact lift (p := zJ _ _) (xO h)
  case convert s t x => exact lift (p := zW P _ _ _) (xB h)
  case extract x i => exact lift (p := zK _ _) (yT h)
  case makeFunc fn a b => exact ⟨_, _, _, h, rfl, rfl, rfl⟩
  case nilCheck x => exact lift (p := zR _) (xL h)
  case fieldAddr t x f => exact lift (p := zA P _ _ _) (yM h)
  case field t x f => exact lift (p := yD P _ _ _) (yY h)
  case indexAddr t x i => exact lift (p := z5 P _ _ _) (yN h)
  case slice t x a b c => exact lift (p := zV P _ _ _ _ _) (yZ h)
  case load t x => exact lift (p := zD P _ _ hp) (xD h)
  case store t x v =>
    obtain ⟨hp', h1, h2⟩ := y5 h
    refine ⟨_, _, _, h1, ?_⟩
    have e : (fun h => Det SV.unk hp' nx SV.unk h nx) = (· = hp') := by funext a; simp [Det]
    rw [e]; exact h2
  case alloc t => exact y4 h
  case box t v => exact xN h
  case build t ps => exact lift (p := zO P _ _) (y3 h)
  case buildSlice t n ps => exact yK h
  case makeSlice t a b => exact yO h
  case makeMap t r =>
    cases r with
    | none => exact ⟨_, _, _, h, rfl, rfl, rfl⟩
    | some x => exact h.elim
  case lookup t x i b => exact lift (p := zX P _ _ _ _ hp) (yW h)
  case mapUpdate t m k v =>
    obtain ⟨hp', h1, h2⟩ := yF h
    refine ⟨_, _, _, h1, ?_⟩
    have e : (fun h => Det SV.unk hp' nx SV.unk h nx) = (· = hp') := by funext a; simp [Det]
    rw [e]; exact h2
  case insert t m k v =>
    obtain ⟨hp', h1, h2⟩ := yF h
    refine ⟨_, _, _, h1, ?_⟩
    have e : (fun h => Det SV.unk hp' nx SV.unk h nx) = (· = hp') := by funext a; simp [Det]
    rw [e]; exact h2
  case range t x => exact y7 h
  case next x b => simp [callV] at hv
  case entry x => exact lift (p := yA _ hp) (y8 h)
  case call c =>
    obtain ⟨callee, args, ats⟩ := c
    refine xE (fun f hf => ?_) h
    simp only at hf
    subst hf
    simp [callV] at hv
theorem cons_ne_self (x : Nat × Obj) (l : HpT) : x :: l ≠ l := fun h => by
  have := congrArg List.length h
  simp at this
theorem y9 {t : TypeId} {x : SV} {K : SV → Prop} (h : zD P t x hp K) (hr : ∀ id i j, x = .ptr id i j → hp2.lookup id = hp.lookup id) : zD P t x hp2 K := by
  unfold zD at h ⊢
  split at h
  · split at h
    · rename_i id i j
      simp only [hr id i j rfl]
      exact h
    · exact h
    · exact h
    · exact h.elim
  · exact h.elim
theorem quiet_stable {o : Oper} {ρ : Operand → SV} {r : SV} (hk : quietKind o = true) (hv : callV o = false) (h : exq P G o ρ hp nx (Det r hp nx)) (hr : ∀ id, zH o ρ = some id → hp2.lookup id = hp.lookup id) :
    exq P G o ρ hp2 nx2 (Det r hp2 nx2) := by
  obtain ⟨dst, op, type, pos, after, guard⟩ := o
  unfold exq at h ⊢
  cases op <;> simp only at h ⊢ <;> try exact h.elim
  case move x => exact ⟨h.1, rfl, rfl⟩
  case assign x => exact ⟨h.1, rfl, rfl⟩
  case makeFunc fn a b => exact ⟨h.1, rfl, rfl⟩
  case store => simp [quietKind] at hk
  case alloc => simp [quietKind] at hk
  case box => simp [quietKind] at hk
  case makeSlice => simp [quietKind] at hk
  case makeMap => simp [quietKind] at hk
  case lookup => simp [quietKind] at hk
  case mapUpdate => simp [quietKind] at hk
  case insert => simp [quietKind] at hk
  case range => simp [quietKind] at hk
  case next => simp [quietKind] at hk
  case entry => simp [quietKind] at hk
  case load t x =>
    rw [detEq] at h ⊢
    refine y9 h fun id i j hx => hr id ?_
    simp only [zH, hx]
  case buildSlice t n ps =>
    unfold zG at h ⊢
    split at h
    · obtain ⟨h1, h2, h3, h4, h5, h⟩ := h
      refine ⟨h1, h2, h3, h4, h5, ?_⟩
      split at h
      · exact ⟨h.1, rfl, rfl⟩
      · split at h
        · exact ⟨h.1, rfl, rfl⟩
        · exact absurd h.2.1 (cons_ne_self _ _)
    · exact h.elim
  case call c =>
    obtain ⟨callee, args, ats⟩ := c
    cases callee with
    | value f => simp [callV] at hv
    | invoke => simp [quietKind] at hk
    | builtin b =>
      cases b <;> first | (simp [quietKind] at hk; done) | skip
      all_goals
        unfold zB at h ⊢
        simp only at h ⊢
        first
        | (rw [detEq] at h ⊢; exact h)
        | (split at h
           · rw [detEq] at h ⊢; exact h
           · exact h.elim)
  all_goals (rw [detEq] at h ⊢; exact h)
theorem mapL {ρ ρ' : Operand → SV} {l : Array Operand} (h : ∀ x ∈ l, ρ x = ρ' x) : l.toList.map ρ = l.toList.map ρ' :=
  List.map_congr_left fun x hx => h x (by simpa using hx)
theorem yX {c : Call} {ρ ρ' : Operand → SV} {K : KT} (h : ∀ x ∈ c.operands, ρ x = ρ' x) : zB P G c ρ hp nx K = zB P G c ρ' hp nx K := by
  obtain ⟨callee, args, ats⟩ := c
  have ha : args.toList.map ρ = args.toList.map ρ' := mapL fun x hx => h x (by simp [Call.operands, hx])
  have hb : ∀ x ∈ args.toList, ρ x = ρ' x := fun x hx => h x (by
    have : x ∈ args := by simpa using hx
    simp [Call.operands, this])
  unfold zB
  cases callee with
  | value f =>
    have hf : ρ f = ρ' f := h f (by simp [Call.operands])
    simp only [hf, ha]
  | invoke r m => rfl
  | builtin b =>
    cases b <;> simp only [ha]
    all_goals
      generalize hl : args.toList = l at hb
      split
      · first
        | (rename_i s x h1; simp only [hb s List.mem_cons_self, hb x (by simp)]; done)
        | (rename_i x h1; simp only [hb x List.mem_cons_self])
      · rfl
theorem exq_congr {o : Oper} {ρ ρ' : Operand → SV} {K : KT} (h : ∀ x ∈ o.op.operands, ρ x = ρ' x) : exq P G o ρ hp nx K = exq P G o ρ' hp nx K := by
  obtain ⟨dst, op, type, pos, after, guard⟩ := o
  have pairs : ∀ ps : Array (Nat × Operand), (∀ x ∈ (ps.toList.map (·.2)).toArray, ρ x = ρ' x) → (ps.toList.map fun p => (p.1, ρ p.2)) = (ps.toList.map fun p => (p.1, ρ' p.2)) := fun ps hp =>
    List.map_congr_left fun p hm => by
      rw [hp p.2 (by simpa using ⟨p.1, by simpa using hm⟩)]
  unfold exq
  cases op <;> simp only [Op.operands] at h <;> simp only
  case call c => exact yX h
  case build t ps => rw [pairs ps h]
  case buildSlice t n ps => rw [pairs ps h]
  case makeFunc fn a b => rw [mapL (l := a) fun x hx => h x (by simp [hx]), mapL (l := b) fun x hx => h x (by simp [hx])]
  case slice t x lo hi mx => cases lo <;> cases hi <;> cases mx <;> simp_all
  case makeMap t r => cases r <;> rfl
  case next x b => cases b <;> simp_all
  all_goals (first | rfl | (simp_all; done))
end
end Go.Sy
namespace Go.Sy
def exP (P : Program) (G : Nat → Option (List D)) (o : Oper) (ρ : Operand → SV) (hp : HpT) (nx : Nat) (r : SV) (hp' : HpT) (nx' : Nat) : Prop :=
  match o.op with
  | .call ⟨.value f, args, _⟩ => (match ρ f with | .clo (.func fid) first cap => CallP P G fid (first ++ args.toList.map ρ ++ cap) r | _ => False) ∧ hp' = hp ∧ nx' = nx
  | _ => exq P G o ρ hp nx (Det r hp' nx')
def EvAt (P : Program) (G : Nat → Option (List D)) (ops : Array Oper) (ld : Bool) (o : Oper) (st : St) (r : SV) (hp' : HpT) (nx' : Nat) : Prop :=
  dstOk o.dst st.nt ∧ match o.guard with
  | none => match ld with
    | true => exq P G o (ev G st.tm) st.hp st.nx (Det r hp' nx')
    | false => exP P G o (ev G st.tm) st.hp st.nx r hp' nx'
  | some (j, want) => ∃ g b r0, (ops[j]?).bind (·.dst) = some g ∧ gcond ((st.tm.lookup g).getD .unk) want = some b ∧ r = .whn b r0 ∧
      ((hp' = st.hp ∧ nx' = st.nx ∧ (b = true → exP P G o (fun x => gstrip (ev G st.tm x)) st.hp st.nx r0 st.hp st.nx)) ∨
       (ld = true ∧ b = true ∧ exq P G o (fun x => gstrip (ev G st.tm x)) st.hp st.nx (Det r0 hp' nx')))
def rdEv (G : Nat → Option (List D)) (o : Oper) (st : St) : Option Nat :=
  match o.guard with
  | none => zH o (ev G st.tm)
  | some _ => zH o (fun x => gstrip (ev G st.tm x))
section
variable {P : Program} {G : Nat → Option (List D)} {ro : Option Nat} {M : Nat} {O : Nat → Prop} {pb pl pl' : Nat → Option Pl} {w w' : World} {hp hp' hp2 : HpT} {nx nx' nx2 : Nat} {ops : Array Oper}
theorem xF {o : Oper} {ρ : Operand → SV} {r : SV} (h : exP P G o ρ hp nx r hp' nx') : exq P G o ρ hp nx (Det r hp' nx') := by
  unfold exP at h
  split at h
  · rename_i f args ats ho
    obtain ⟨h, rfl, rfl⟩ := h
    unfold exq
    rw [ho]
    simp only [zB]
    split at h
    · rename_i fid first cap hf
      simp only [hf]
      exact h.use ⟨rfl, rfl, rfl⟩
    · exact h.elim
  · exact h
theorem yI {o : Oper} {ρ : Operand → SV} {r : SV} (hv : callV o = false) : exP P G o ρ hp nx r hp' nx' = exq P G o ρ hp nx (Det r hp' nx') := by
  unfold exP
  split
  · rename_i f args ats ho
    unfold callV at hv
    rw [ho] at hv
    simp at hv
  · rfl
theorem yR {o : Oper} {ρ : Operand → SV} {r : SV} (hk : quietKind o = true) (h : exP P G o ρ hp nx r hp nx) (hr : ∀ id, zH o ρ = some id → hp2.lookup id = hp.lookup id) :
    exP P G o ρ hp2 nx2 r hp2 nx2 := by
  cases hv : callV o with
  | false =>
    rw [yI hv] at h ⊢
    exact quiet_stable hk hv h hr
  | true =>
    unfold exP at h ⊢
    split at h
    · exact ⟨h.1, rfl, rfl⟩
    · rename_i hno
      unfold callV at hv
      split at hv
      · exact absurd ‹_› (hno _ _ _)
      · rename_i ho
        unfold quietKind at hk
        rw [ho] at hk
        simp at hk
      · cases hv
theorem yL {o : Oper} {ρ ρ' : Operand → SV} {r : SV} (h : ∀ x ∈ o.op.operands, ρ x = ρ' x) : exP P G o ρ hp nx r hp' nx' = exP P G o ρ' hp nx r hp' nx' := by
  unfold exP
  split
  · rename_i f args ats ho
    rw [ho] at h
    have hf : ρ f = ρ' f := h f (by simp [Op.operands, Call.operands])
    have ha : args.toList.map ρ = args.toList.map ρ' := mapL fun x hx => h x (by simp [Op.operands, Call.operands, hx])
    simp only [hf, ha]
  · exact exq_congr h
theorem ev_look {o : Oper} {tm tm' : List (Nat × SV)} (h : ∀ t ∈ o.looksAt ops, tm.lookup t = tm'.lookup t) : ∀ x ∈ o.op.operands, ev G tm x = ev G tm' x := by
  intro x hx
  cases x with
  | tmp t =>
    simp only [ev]
    rw [h t (List.mem_append_left _ (List.mem_filterMap.2 ⟨.tmp t, by simpa using hx, rfl⟩))]
  | _ => rfl
theorem EvAt.move {ld : Bool} {o : Oper} {st st' : St} {r : SV} (h : EvAt P G ops ld o st r hp' nx') (hl : ∀ t ∈ o.looksAt ops, st'.tm.lookup t = st.tm.lookup t) (hn : st'.nt = st.nt)
    (hh : (st'.hp = st.hp ∧ st'.nx = st.nx ∧ hp2 = hp' ∧ nx2 = nx') ∨ (ld = false ∧ quietKind o = true ∧ hp' = st.hp ∧ nx' = st.nx ∧ hp2 = st'.hp ∧ nx2 = st'.nx ∧ ∀ id, rdEv G o st = some id → st'.hp.lookup id = st.hp.lookup id)) :
    EvAt P G ops ld o st' r hp2 nx2 := by
  obtain ⟨hd, h⟩ := h
  refine ⟨by rw [hn]; exact hd, ?_⟩
  have hops := ev_look (G := G) hl
  cases hg : o.guard with
  | none =>
    rw [hg] at h
    simp only at h ⊢
    rcases hh with ⟨e1, e2, rfl, rfl⟩ | ⟨rfl, hk, rfl, rfl, rfl, rfl, hr⟩
    · cases ld
      · simp only at h ⊢
        rw [yL hops, e1, e2]; exact h
      · simp only at h ⊢
        rw [exq_congr hops, e1, e2]; exact h
    · simp only at h ⊢
      rw [yL hops]
      exact yR hk h fun id hid => hr id (by simp only [rdEv, hg]; exact hid)
  | some jw =>
    obtain ⟨j, want⟩ := jw
    rw [hg] at h
    simp only at h ⊢
    obtain ⟨g, b, r0, h1, h2, h3, hx⟩ := h
    have hgl : st'.tm.lookup g = st.tm.lookup g := hl g (by simp [Oper.looksAt, hg, h1])
    have hops' : ∀ x ∈ o.op.operands, gstrip (ev G st'.tm x) = gstrip (ev G st.tm x) := fun x hx => by rw [hops x hx]
    refine ⟨g, b, r0, h1, by rw [hgl]; exact h2, h3, ?_⟩
    rcases hx with ⟨h4, h5, h6⟩ | ⟨hld, hb, h6⟩
    · refine .inl ⟨?_, ?_, fun hb => ?_⟩
      · rcases hh with ⟨e1, e2, rfl, rfl⟩ | ⟨_, hk, e1, e2, rfl, rfl, hr⟩
        · rw [h4, e1]
        · rfl
      · rcases hh with ⟨e1, e2, rfl, rfl⟩ | ⟨_, hk, e1, e2, rfl, rfl, hr⟩
        · rw [h5, e2]
        · rfl
      · rw [yL (ρ' := fun x => gstrip (ev G st.tm x)) hops']
        rcases hh with ⟨e1, e2, _, _⟩ | ⟨_, hk, _, _, _, _, hr⟩
        · rw [e1, e2]; exact h6 hb
        · exact yR hk (h6 hb) fun id hid => hr id (by simp only [rdEv, hg]; exact hid)
    · rcases hh with ⟨e1, e2, rfl, rfl⟩ | ⟨hf, _⟩
      · refine .inr ⟨hld, hb, ?_⟩
        rw [exq_congr (ρ' := fun x => gstrip (ev G st.tm x)) hops', e1, e2]
        exact h6
      · rw [hld] at hf; cases hf
theorem EvAt.sound {ld : Bool} {i : Nat} {o : Oper} {st : St} {r : SV} {a : Act} {K : Act → World → Prop} {Q : Exit → Act → World → Prop} (hi : ops[i]? = some o) (h : EvAt P G ops ld o st r hp' nx') (hR : R G O M pb pl st a w)
    (hK : ∀ pl' a' w', R G O M pb pl' ⟨putT o.dst r st.tm, hp', nx', st.nt, st.df, st.nb⟩ a' w' → Step (ownOf pl st.hp) (ownOf pl' hp') w w' → K a' w') : wpOpIn (Fw ro) 0 P ops Q i K a w := by
  unfold wpOpIn
  simp only [hi]
  obtain ⟨hd, h⟩ := h
  have hev := ev_sound hR.hs hR.tm
  cases hg : o.guard with
  | none =>
    rw [hg] at h
    simp only at h
    have hw : Region.wanted o (yielded ops a.tmps) = true := by simp [Region.wanted, hg]
    rw [if_pos hw]
    have h' : exq P G o (ev G st.tm) st.hp st.nx (Det r hp' nx') := by
      cases ld
      · exact xF h
      · exact h
    refine (exq_sound hR.hs hev h').wpIn (exq_defer h') ?_
    rintro v w' ⟨pl', r', hp2, nx2, ⟨rfl, rfl, rfl⟩, hs', hv, hst, hpl⟩
    exact hK pl' _ w' (hR.put hd hs' hst hpl hv) hst
  | some jw =>
    obtain ⟨j, want⟩ := jw
    rw [hg] at h
    simp only at h
    obtain ⟨g, b, r0, h1, h2, rfl, hx⟩ := h
    have hgv : SR pl (okOf (Ox O a) pl st.hp) w ((st.tm.lookup g).getD .unk) (a.tmps.getD g undef) := by
      have := hev (.tmp g)
      simpa [ev, Act.eval] using this
    have hgs := gcond_sound hgv h2
    have hwanted : Region.wanted o (yielded ops a.tmps) = b := by
      have hy : yielded ops a.tmps j = bval (a.tmps.getD g undef) := by
        unfold yielded
        rw [h1]
        simp only [Option.bind_some, Array.getD_eq_getD_getElem?]
        cases a.tmps[g]? with
        | none => simp [undef, bval]
        | some v => cases v <;> rfl
      simp only [Region.wanted, hg, hy]
      cases hbb : b
      · cases hv : (bval (a.tmps.getD g undef) == some want)
        · rfl
        · rw [hgs.1 hv] at hbb; cases hbb
      · exact hgs.2 hbb
    rw [hwanted]
    rcases hx with ⟨rfl, rfl, h6⟩ | ⟨_, rfl, h6⟩
    · cases b
      · simp only [Bool.false_eq_true, if_false]
        refine ⟨fun _ _ => trivial, ?_⟩
        exact hK pl _ w (hR.put hd hR.hs (.refl _ _) (fun _ _ h => h) (.whn false r0 undef (fun h => by cases h) (fun _ => rfl))) (.refl _ _)
      · simp only [if_true]
        have hex' := xF (h6 rfl)
        refine (exq_sound hR.hs (fun x => gstrip_sound (hev x)) hex').wpIn (exq_defer hex') ?_
        rintro v w' ⟨pl', r', hp', nx', ⟨rfl, rfl, rfl⟩, hs', hv, hst, hpl⟩
        exact hK pl' _ w' (hR.put hd hs' hst hpl (.whn true _ v (fun _ => hv) (fun h => by cases h))) hst
    · simp only [if_true]
      refine (exq_sound hR.hs (fun x => gstrip_sound (hev x)) h6).wpIn (exq_defer h6) ?_
      rintro v w' ⟨pl', r', hp2', nx2', ⟨rfl, rfl, rfl⟩, hs', hv, hst, hpl⟩
      exact hK pl' _ w' (hR.put hd hs' hst hpl (.whn true _ v (fun _ => hv) (fun h => by cases h))) hst
end
end Go.Sy
namespace Go.Sy
structure Ev where
  i : Nat
  o : Oper
  ld : Bool
  st : St
  r : SV
  hp : HpT
  nx : Nat
def nextSt (e : Ev) : St := ⟨putT e.o.dst e.r e.st.tm, e.hp, e.nx, e.st.nt, e.st.df, e.st.nb⟩
def RunL (st : St) : List Ev → St → Prop
  | [], st' => st' = st
  | e :: es, st' => e.st = st ∧ (e.ld = false → e.hp = st.hp ∧ e.nx = st.nx) ∧ RunL (nextSt e) es st'
def foldT (S : Nat → Bool) (tm : List (Nat × SV)) : List Ev → List (Nat × SV)
  | [] => tm
  | e :: es => foldT S (if S e.i then putT e.o.dst e.r tm else tm) es
def foldH (S : Nat → Bool) (h : HpT × Nat) : List Ev → HpT × Nat
  | [] => h
  | e :: es => foldH S (if S e.i && e.ld then (e.hp, e.nx) else h) es
theorem foldT_append (S : Nat → Bool) : ∀ (a b : List Ev) (tm : List (Nat × SV)), foldT S tm (a ++ b) = foldT S (foldT S tm a) b
  | [], _, _ => rfl
  | _ :: a, b, tm => foldT_append S a b _
theorem foldH_append (S : Nat → Bool) : ∀ (a b : List Ev) (h : HpT × Nat), foldH S h (a ++ b) = foldH S (foldH S h a) b
  | [], _, _ => rfl
  | _ :: a, b, h => foldH_append S a b _
theorem putT_lookup_ne {dst : Option Tmp} {r : SV} {tm : List (Nat × SV)} {t : Nat} (h : dst ≠ some t) : (putT dst r tm).lookup t = tm.lookup t := by
  cases dst with
  | none => rfl
  | some d =>
    have hne : t ≠ d := fun e => h (by rw [e])
    have : (t == d) = false := by simpa using hne
    simp [putT, List.lookup_cons, this]
theorem putT_lookup_eq {r : SV} {tm : List (Nat × SV)} {t : Nat} : (putT (some t) r tm).lookup t = some r := by
  simp [putT]
theorem foldT_lookup {t : Nat} {S S' : Nat → Bool} : ∀ (evs : List Ev) (tm tm' : List (Nat × SV)), (∀ e ∈ evs, e.o.dst = some t → S e.i = S' e.i) → tm.lookup t = tm'.lookup t →
    (foldT S tm evs).lookup t = (foldT S' tm' evs).lookup t
  | [], _, _, _, h => h
  | e :: es, tm, tm', hS, h => by
    simp only [foldT]
    refine foldT_lookup es _ _ (fun x hx => hS x (List.mem_cons_of_mem _ hx)) ?_
    by_cases hd : e.o.dst = some t
    · rw [hS e List.mem_cons_self hd]
      cases S' e.i
      · simpa using h
      · simp only [if_true, hd, putT_lookup_eq]
    · have e1 : (if S e.i = true then putT e.o.dst e.r tm else tm).lookup t = tm.lookup t := by
        split
        · exact putT_lookup_ne hd
        · rfl
      have e2 : (if S' e.i = true then putT e.o.dst e.r tm' else tm').lookup t = tm'.lookup t := by
        split
        · exact putT_lookup_ne hd
        · rfl
      rw [e1, e2, h]
theorem foldT_none {t : Nat} {S : Nat → Bool} (evs : List Ev) (tm : List (Nat × SV)) (h : ∀ e ∈ evs, e.o.dst = some t → S e.i = false) : (foldT S tm evs).lookup t = tm.lookup t := by
  have e : ∀ (evs : List Ev) (tm : List (Nat × SV)), foldT (fun _ => false) tm evs = tm := by
    intro evs
    induction evs with
    | nil => intro tm; rfl
    | cons e es ih => intro tm; simp [foldT, ih]
  rw [foldT_lookup (S' := fun _ => false) evs tm tm h rfl, e]
theorem foldH_congr {S S' : Nat → Bool} : ∀ (evs : List Ev) (h : HpT × Nat), (∀ e ∈ evs, e.ld = true → S e.i = S' e.i) → foldH S h evs = foldH S' h evs
  | [], _, _ => rfl
  | e :: es, h, hS => by
    simp only [foldH]
    have : (S e.i && e.ld) = (S' e.i && e.ld) := by
      cases hl : e.ld
      · simp
      · rw [hS e List.mem_cons_self hl]
    rw [this]
    exact foldH_congr es _ fun x hx => hS x (List.mem_cons_of_mem _ hx)
theorem foldH_none {S : Nat → Bool} (evs : List Ev) (h : HpT × Nat) (hS : ∀ e ∈ evs, e.ld = true → S e.i = false) : foldH S h evs = h := by
  have e : ∀ (evs : List Ev) (h : HpT × Nat), foldH (fun _ => false) h evs = h := by
    intro evs
    induction evs with
    | nil => intro h; rfl
    | cons e es ih => intro h; simp [foldH, ih]
  rw [foldH_congr (S' := fun _ => false) evs h hS, e]
theorem RunL.split {st stf : St} : ∀ {pre : List Ev} {post : List Ev}, RunL st (pre ++ post) stf →
    ∃ s, RunL s post stf ∧ s.tm = foldT (fun _ => true) st.tm pre ∧ (s.hp, s.nx) = foldH (fun _ => true) (st.hp, st.nx) pre ∧ s.nt = st.nt ∧ s.df = st.df ∧ s.nb = st.nb
  | [], post, h => ⟨st, h, rfl, rfl, rfl, rfl, rfl⟩
  | e :: pre, post, h => by
    obtain ⟨rfl, hq, h⟩ := h
    obtain ⟨s, h1, h2, h3, h4, h5, h6⟩ := RunL.split h
    refine ⟨s, h1, by simpa [foldT, nextSt] using h2, ?_, h4, h5, h6⟩
    rw [h3]
    simp only [foldH, Bool.true_and]
    cases hl : e.ld
    · obtain ⟨q1, q2⟩ := hq hl
      simp [nextSt, q1, q2]
    · simp [nextSt]
theorem foldH_stable {S : Nat → Bool} {id : Nat} : ∀ {evs : List Ev} {st stf : St}, RunL st evs stf →
    (∀ e ∈ evs, e.ld = true → S e.i = true → e.hp.lookup id = e.st.hp.lookup id) → evs.Pairwise (fun x y => x.ld = true → y.ld = true → S y.i = true → S x.i = true) →
    (foldH S (st.hp, st.nx) evs).1.lookup id = st.hp.lookup id
  | [], st, _, _, _, _ => rfl
  | e :: es, st, stf, hrun, hk, hp => by
    obtain ⟨rfl, hq, hrun⟩ := hrun
    simp only [foldH]
    cases hl : e.ld
    · obtain ⟨q1, q2⟩ := hq hl
      have := foldH_stable hrun (fun x hx => hk x (List.mem_cons_of_mem _ hx)) (List.pairwise_cons.1 hp).2
      simpa [nextSt, q1, q2] using this
    · cases hS : S e.i
      · simp only [Bool.and_true, Bool.false_eq_true, if_false]
        rw [foldH_none es _ fun x hx hxl => by
          cases hSx : S x.i
          · rfl
          · have := (List.pairwise_cons.1 hp).1 x hx hl hxl hSx
            rw [hS] at this
            cases this]
      · simp only [Bool.and_self, if_true]
        have := foldH_stable hrun (fun x hx => hk x (List.mem_cons_of_mem _ hx)) (List.pairwise_cons.1 hp).2
        rw [show (e.hp, e.nx) = ((nextSt e).hp, (nextSt e).nx) from rfl, this]
        exact hk e List.mem_cons_self hl hS
def Bf (m : List Nat) (i j : Nat) : Bool := (m.getD j 0).testBit i
def orE (m : List Nat) : List Edge → Nat
  | [] => 0
  | e :: es => (if Region.binds .any e then 2 ^ e.on ||| m.getD e.on 0 else 0) ||| orE m es
theorem orE_bit {m : List Nat} {j : Nat} : ∀ {es : List Edge}, (orE m es).testBit j = true → ∃ e ∈ es, Region.binds .any e = true ∧ (e.on = j ∨ Bf m j e.on = true)
  | [], h => by simp [orE] at h
  | e :: es, h => by
    simp only [orE, Nat.testBit_or, Bool.or_eq_true] at h
    rcases h with h | h
    · split at h
      · rename_i hb
        simp only [Nat.testBit_or, Bool.or_eq_true, Nat.testBit_two_pow, decide_eq_true_eq] at h
        exact ⟨e, List.mem_cons_self, hb, h⟩
      · simp at h
    · obtain ⟨x, h1, h2⟩ := orE_bit h
      exact ⟨x, List.mem_cons_of_mem _ h1, h2⟩
theorem orE_edge {m : List Nat} {e : Edge} (hb : Region.binds .any e = true) : ∀ {es : List Edge}, e ∈ es → (orE m es).testBit e.on = true
  | [], h => by simp at h
  | x :: es, h => by
    simp only [orE, Nat.testBit_or, Bool.or_eq_true]
    rcases List.mem_cons.1 h with rfl | h
    · left
      rw [if_pos hb]
      simp
    · right; exact orE_edge hb h
structure DOk (ops : Array Oper) (m : List Nat) (evs : List Ev) : Prop where
  get : ∀ e ∈ evs, ops[e.i]? = some e.o
  full : ∀ i, i < ops.size → ∃ e ∈ evs, e.i = i
  nodup : evs.Pairwise (fun x y => x.i ≠ y.i)
  ext : evs.Pairwise (fun x y => Bf m y.i x.i = false)
  apart : evs.Pairwise (fun x y => Bf m x.i y.i = true ∨ x.o.apart ops y.o = true)
  louds : evs.Pairwise (fun x y => x.ld = true → y.ld = true → Bf m x.i y.i = true)
  bef : ∀ q o, ops[q]? = some o → m.getD q 0 = orE m o.after.toList
  back : ∀ q o, ops[q]? = some o → ∀ e ∈ o.after, Region.binds .any e = true → e.on < q
theorem down {ops : Array Oper} {m : List Nat} {evs : List Ev} (h : DOk ops m evs) {S : Nat → Bool} (hS : ∀ i o, S i = true → ops[i]? = some o → ∀ e ∈ o.after, Region.binds .any e = true → S e.on = true) :
    ∀ (q : Nat) (o : Oper), ops[q]? = some o → (∀ e ∈ o.after, Region.binds .any e = true → S e.on = true) → ∀ j, Bf m j q = true → S j = true := by
  intro q
  induction q using Nat.strongRecOn with
  | _ q ih =>
    intro o ho hp j hj
    unfold Bf at hj
    rw [h.bef q o ho] at hj
    obtain ⟨e, he, hb, h1⟩ := orE_bit hj
    have he' : e ∈ o.after := by simpa using he
    have hSe := hp e he' hb
    rcases h1 with rfl | h1
    · exact hSe
    · have hlt := h.back q o ho e he' hb
      have hq : q < ops.size := (Array.getElem?_eq_some_iff.1 ho).1
      have hx : ops[e.on]? = some (ops[e.on]'(by omega)) := Array.getElem?_eq_getElem (by omega)
      exact ih e.on hlt _ hx (hS _ _ hSe hx) j h1
end Go.Sy
