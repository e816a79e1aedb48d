/- Lemmas, part ZGF. Conditions: none. -/
import Derived.Test.YtijechcadlklhaaGreatZGE
import Derived.Test.YtijechcadlklhaaGreatChecked
import Derived.KernelRfl
import Derived.OrdersIn
set_option linter.unusedVariables false
namespace Go.Proofs.YtijechcadlklhaaGreat
open Go.Sy
theorem ty.sz0 : tsz Tryz.prog 0 = some 1 := by kernel_rfl
theorem ty.agg0 : tagg Tryz.prog 0 = some false := by kernel_rfl
theorem ty.elem0 : telem Tryz.prog 0 = none := by kernel_rfl
theorem ty.sz3 : tsz Tryz.prog 3 = some 1 := by kernel_rfl
theorem ty.agg3 : tagg Tryz.prog 3 = some false := by kernel_rfl
theorem ty.zero3 : tzero Tryz.prog 3 = some (SV.d (.lit (.int .i64 0)) :: []) := by kernel_rfl
theorem ty.elem3 : telem Tryz.prog 3 = none := by kernel_rfl
theorem ty.und3 : Tryz.prog.underlying 3 = some (.int .i64) := by kernel_rfl
theorem ty.sz4 : tsz Tryz.prog 4 = some 1 := by kernel_rfl
theorem ty.agg4 : tagg Tryz.prog 4 = some false := by kernel_rfl
theorem ty.zero4 : tzero Tryz.prog 4 = some (SV.d (.lit (.bool false)) :: []) := by kernel_rfl
theorem ty.elem4 : telem Tryz.prog 4 = none := by kernel_rfl
theorem ty.und4 : Tryz.prog.underlying 4 = some (.bool) := by kernel_rfl
theorem ty.sz5 : tsz Tryz.prog 5 = some 1 := by kernel_rfl
theorem ty.agg5 : tagg Tryz.prog 5 = some false := by kernel_rfl
theorem ty.zero5 : tzero Tryz.prog 5 = some (SV.d (.lit (.int .u8 0)) :: []) := by kernel_rfl
theorem ty.elem5 : telem Tryz.prog 5 = none := by kernel_rfl
theorem ty.und5 : Tryz.prog.underlying 5 = some (.int .u8) := by kernel_rfl
theorem ty.sz9 : tsz Tryz.prog 9 = some 1 := by kernel_rfl
theorem ty.agg9 : tagg Tryz.prog 9 = some false := by kernel_rfl
theorem ty.zero9 : tzero Tryz.prog 9 = some (SV.d (.lit (.string ByteArray.empty)) :: []) := by kernel_rfl
theorem ty.elem9 : telem Tryz.prog 9 = none := by kernel_rfl
theorem ty.und9 : Tryz.prog.underlying 9 = some (.string) := by kernel_rfl
theorem ty.sz20 : tsz Tryz.prog 20 = some 1 := by kernel_rfl
theorem ty.agg20 : tagg Tryz.prog 20 = some false := by kernel_rfl
theorem ty.elem20 : telem Tryz.prog 20 = none := by kernel_rfl
theorem ty.sz22 : tsz Tryz.prog 22 = some 1 := by kernel_rfl
theorem ty.agg22 : tagg Tryz.prog 22 = some false := by kernel_rfl
theorem ty.zero22 : tzero Tryz.prog 22 = some (SV.dx [] :: []) := by kernel_rfl
theorem ty.elem22 : telem Tryz.prog 22 = some 1 := by kernel_rfl
theorem ty.by22 : tby Tryz.prog 22 = some 24 := by kernel_rfl
theorem ty.ez22 : tez Tryz.prog 22 = some (SV.dx [] :: []) := by kernel_rfl
theorem ty.und22 : Tryz.prog.underlying 22 = some (.slice 44) := by kernel_rfl
theorem ty.sz24 : tsz Tryz.prog 24 = some 2 := by kernel_rfl
theorem ty.agg24 : tagg Tryz.prog 24 = some true := by kernel_rfl
theorem ty.zero24 : tzero Tryz.prog 24 = some (SV.dx [] :: (SV.d (.lit (.int .i64 0)) :: [])) := by kernel_rfl
theorem ty.fld24_0 : tfld Tryz.prog 24 0 = some (0, 1) := by kernel_rfl
theorem ty.fld24_1 : tfld Tryz.prog 24 1 = some (1, 1) := by kernel_rfl
theorem ty.pl24 : tplaces Tryz.prog 24 = some (fun i => ([(0, 1), (1, 1)] : List (Nat × Nat))[i]?) := by kernel_rfl
theorem ty.elem24 : telem Tryz.prog 24 = none := by kernel_rfl
theorem ty.sz25 : tsz Tryz.prog 25 = some 1 := by kernel_rfl
theorem ty.agg25 : tagg Tryz.prog 25 = some false := by kernel_rfl
theorem ty.zero25 : tzero Tryz.prog 25 = some (SV.dx [] :: []) := by kernel_rfl
theorem ty.elem25 : telem Tryz.prog 25 = some 2 := by kernel_rfl
theorem ty.by25 : tby Tryz.prog 25 = some 16 := by kernel_rfl
theorem ty.ez25 : tez Tryz.prog 25 = some (SV.d (.lit (.int .i64 0)) :: (SV.d (.lit (.int .i64 0)) :: [])) := by kernel_rfl
theorem ty.und25 : Tryz.prog.underlying 25 = some (.slice 41) := by kernel_rfl
theorem ty.sz26 : tsz Tryz.prog 26 = some 1 := by kernel_rfl
theorem ty.agg26 : tagg Tryz.prog 26 = some false := by kernel_rfl
theorem ty.zero26 : tzero Tryz.prog 26 = some (SV.dx [] :: []) := by kernel_rfl
theorem ty.elem26 : telem Tryz.prog 26 = some 4 := by kernel_rfl
theorem ty.by26 : tby Tryz.prog 26 = some 32 := by kernel_rfl
theorem ty.ez26 : tez Tryz.prog 26 = some (SV.d (.lit (.int .i64 0)) :: (SV.d (.lit (.int .i64 0)) :: (SV.d (.lit (.int .i64 0)) :: (SV.d (.lit (.int .i64 0)) :: [])))) := by kernel_rfl
theorem ty.und26 : Tryz.prog.underlying 26 = some (.slice 43) := by kernel_rfl
theorem ty.sz29 : tsz Tryz.prog 29 = some 1 := by kernel_rfl
theorem ty.agg29 : tagg Tryz.prog 29 = some false := by kernel_rfl
theorem ty.zero29 : tzero Tryz.prog 29 = some (SV.d (.lit (.int .i64 0)) :: []) := by kernel_rfl
theorem ty.elem29 : telem Tryz.prog 29 = none := by kernel_rfl
theorem ty.und29 : Tryz.prog.underlying 29 = some (.int .i64) := by kernel_rfl
theorem ty.sz30 : tsz Tryz.prog 30 = some 1 := by kernel_rfl
theorem ty.agg30 : tagg Tryz.prog 30 = some false := by kernel_rfl
theorem ty.elem30 : telem Tryz.prog 30 = none := by kernel_rfl
theorem ty.sz32 : tsz Tryz.prog 32 = some 2 := by kernel_rfl
theorem ty.agg32 : tagg Tryz.prog 32 = some true := by kernel_rfl
theorem ty.zero32 : tzero Tryz.prog 32 = some (SV.dx [] :: (SV.d (.lit (.int .i64 0)) :: [])) := by kernel_rfl
theorem ty.fld32_0 : tfld Tryz.prog 32 0 = some (0, 1) := by kernel_rfl
theorem ty.fld32_1 : tfld Tryz.prog 32 1 = some (1, 1) := by kernel_rfl
theorem ty.pl32 : tplaces Tryz.prog 32 = some (fun i => ([(0, 1), (1, 1)] : List (Nat × Nat))[i]?) := by kernel_rfl
theorem ty.elem32 : telem Tryz.prog 32 = none := by kernel_rfl
theorem ty.sz34 : tsz Tryz.prog 34 = some 1 := by kernel_rfl
theorem ty.agg34 : tagg Tryz.prog 34 = some false := by kernel_rfl
theorem ty.zero34 : tzero Tryz.prog 34 = some (SV.dx [] :: []) := by kernel_rfl
theorem ty.elem34 : telem Tryz.prog 34 = some 2 := by kernel_rfl
theorem ty.by34 : tby Tryz.prog 34 = some 16 := by kernel_rfl
theorem ty.ez34 : tez Tryz.prog 34 = some (SV.d (.lit (.int .i64 0)) :: (SV.d (.lit (.int .i64 0)) :: [])) := by kernel_rfl
theorem ty.und34 : Tryz.prog.underlying 34 = some (.slice 79) := by kernel_rfl
theorem ty.sz36 : tsz Tryz.prog 36 = some 1 := by kernel_rfl
theorem ty.agg36 : tagg Tryz.prog 36 = some false := by kernel_rfl
theorem ty.zero36 : tzero Tryz.prog 36 = some (SV.dx [] :: []) := by kernel_rfl
theorem ty.elem36 : telem Tryz.prog 36 = some 4 := by kernel_rfl
theorem ty.by36 : tby Tryz.prog 36 = some 32 := by kernel_rfl
theorem ty.ez36 : tez Tryz.prog 36 = some (SV.d (.lit (.int .i64 0)) :: (SV.d (.lit (.int .i64 0)) :: (SV.d (.lit (.int .i64 0)) :: (SV.d (.lit (.int .i64 0)) :: [])))) := by kernel_rfl
theorem ty.und36 : Tryz.prog.underlying 36 = some (.slice 88) := by kernel_rfl
theorem ty.sz41 : tsz Tryz.prog 41 = some 2 := by kernel_rfl
theorem ty.agg41 : tagg Tryz.prog 41 = some true := by kernel_rfl
theorem ty.zero41 : tzero Tryz.prog 41 = some (SV.d (.lit (.int .i64 0)) :: (SV.d (.lit (.int .i64 0)) :: [])) := by kernel_rfl
theorem ty.fld41_0 : tfld Tryz.prog 41 0 = some (0, 1) := by kernel_rfl
theorem ty.fld41_1 : tfld Tryz.prog 41 1 = some (1, 1) := by kernel_rfl
theorem ty.pl41 : tplaces Tryz.prog 41 = some (fun i => ([(0, 1), (1, 1)] : List (Nat × Nat))[i]?) := by kernel_rfl
theorem ty.elem41 : telem Tryz.prog 41 = none := by kernel_rfl
theorem ty.sz44 : tsz Tryz.prog 44 = some 1 := by kernel_rfl
theorem ty.agg44 : tagg Tryz.prog 44 = some false := by kernel_rfl
theorem ty.zero44 : tzero Tryz.prog 44 = some (SV.dx [] :: []) := by kernel_rfl
theorem ty.elem44 : telem Tryz.prog 44 = some 1 := by kernel_rfl
theorem ty.by44 : tby Tryz.prog 44 = some 8 := by kernel_rfl
theorem ty.ez44 : tez Tryz.prog 44 = some (SV.d (.lit (.int .i64 0)) :: []) := by kernel_rfl
theorem ty.und44 : Tryz.prog.underlying 44 = some (.slice 3) := by kernel_rfl
theorem ty.sz45 : tsz Tryz.prog 45 = some 1 := by kernel_rfl
theorem ty.agg45 : tagg Tryz.prog 45 = some false := by kernel_rfl
theorem ty.elem45 : telem Tryz.prog 45 = none := by kernel_rfl
theorem ty.sz54 : tsz Tryz.prog 54 = some 1 := by kernel_rfl
theorem ty.agg54 : tagg Tryz.prog 54 = some false := by kernel_rfl
theorem ty.zero54 : tzero Tryz.prog 54 = some (SV.d (.lit (.int .u64 0)) :: []) := by kernel_rfl
theorem ty.elem54 : telem Tryz.prog 54 = none := by kernel_rfl
theorem ty.und54 : Tryz.prog.underlying 54 = some (.int .u64) := by kernel_rfl
theorem ty.sz55 : tsz Tryz.prog 55 = some 1 := by kernel_rfl
theorem ty.agg55 : tagg Tryz.prog 55 = some false := by kernel_rfl
theorem ty.zero55 : tzero Tryz.prog 55 = some (SV.dx [] :: []) := by kernel_rfl
theorem ty.elem55 : telem Tryz.prog 55 = some 1 := by kernel_rfl
theorem ty.by55 : tby Tryz.prog 55 = some 24 := by kernel_rfl
theorem ty.ez55 : tez Tryz.prog 55 = some (SV.dx [] :: []) := by kernel_rfl
theorem ty.und55 : Tryz.prog.underlying 55 = some (.slice 58) := by kernel_rfl
theorem ty.sz56 : tsz Tryz.prog 56 = some 1 := by kernel_rfl
theorem ty.agg56 : tagg Tryz.prog 56 = some false := by kernel_rfl
theorem ty.elem56 : telem Tryz.prog 56 = none := by kernel_rfl
theorem ty.sz58 : tsz Tryz.prog 58 = some 1 := by kernel_rfl
theorem ty.agg58 : tagg Tryz.prog 58 = some false := by kernel_rfl
theorem ty.zero58 : tzero Tryz.prog 58 = some (SV.dx [] :: []) := by kernel_rfl
theorem ty.elem58 : telem Tryz.prog 58 = some 2 := by kernel_rfl
theorem ty.by58 : tby Tryz.prog 58 = some 16 := by kernel_rfl
theorem ty.ez58 : tez Tryz.prog 58 = some (SV.d (.lit (.int .i64 0)) :: (SV.d (.lit (.int .i64 0)) :: [])) := by kernel_rfl
theorem ty.und58 : Tryz.prog.underlying 58 = some (.slice 60) := by kernel_rfl
theorem ty.sz60 : tsz Tryz.prog 60 = some 2 := by kernel_rfl
theorem ty.agg60 : tagg Tryz.prog 60 = some true := by kernel_rfl
theorem ty.zero60 : tzero Tryz.prog 60 = some (SV.d (.lit (.int .i64 0)) :: (SV.d (.lit (.int .i64 0)) :: [])) := by kernel_rfl
theorem ty.fld60_0 : tfld Tryz.prog 60 0 = some (0, 1) := by kernel_rfl
theorem ty.fld60_1 : tfld Tryz.prog 60 1 = some (1, 1) := by kernel_rfl
theorem ty.pl60 : tplaces Tryz.prog 60 = some (fun i => ([(0, 1), (1, 1)] : List (Nat × Nat))[i]?) := by kernel_rfl
theorem ty.elem60 : telem Tryz.prog 60 = none := by kernel_rfl
theorem ty.sz64 : tsz Tryz.prog 64 = some 1 := by kernel_rfl
theorem ty.agg64 : tagg Tryz.prog 64 = some false := by kernel_rfl
theorem ty.zero64 : tzero Tryz.prog 64 = some (SV.d (.lit (.int .u16 0)) :: []) := by kernel_rfl
theorem ty.elem64 : telem Tryz.prog 64 = none := by kernel_rfl
theorem ty.und64 : Tryz.prog.underlying 64 = some (.int .u16) := by kernel_rfl
theorem ty.sz72 : tsz Tryz.prog 72 = some 1 := by kernel_rfl
theorem ty.agg72 : tagg Tryz.prog 72 = some false := by kernel_rfl
theorem ty.zero72 : tzero Tryz.prog 72 = some (SV.dx [] :: []) := by kernel_rfl
theorem ty.elem72 : telem Tryz.prog 72 = some 1 := by kernel_rfl
theorem ty.by72 : tby Tryz.prog 72 = some 2 := by kernel_rfl
theorem ty.ez72 : tez Tryz.prog 72 = some (SV.d (.lit (.int .u16 0)) :: []) := by kernel_rfl
theorem ty.und72 : Tryz.prog.underlying 72 = some (.slice 64) := by kernel_rfl
theorem ty.sz77 : tsz Tryz.prog 77 = some 1 := by kernel_rfl
theorem ty.agg77 : tagg Tryz.prog 77 = some false := by kernel_rfl
theorem ty.elem77 : telem Tryz.prog 77 = none := by kernel_rfl
theorem ty.sz79 : tsz Tryz.prog 79 = some 2 := by kernel_rfl
theorem ty.agg79 : tagg Tryz.prog 79 = some true := by kernel_rfl
theorem ty.zero79 : tzero Tryz.prog 79 = some (SV.d (.lit (.int .i64 0)) :: (SV.d (.lit (.int .i64 0)) :: [])) := by kernel_rfl
theorem ty.fld79_0 : tfld Tryz.prog 79 0 = some (0, 1) := by kernel_rfl
theorem ty.fld79_1 : tfld Tryz.prog 79 1 = some (1, 1) := by kernel_rfl
theorem ty.pl79 : tplaces Tryz.prog 79 = some (fun i => ([(0, 1), (1, 1)] : List (Nat × Nat))[i]?) := by kernel_rfl
theorem ty.elem79 : telem Tryz.prog 79 = none := by kernel_rfl
theorem ty.sz83 : tsz Tryz.prog 83 = some 1 := by kernel_rfl
theorem ty.agg83 : tagg Tryz.prog 83 = some false := by kernel_rfl
theorem ty.zero83 : tzero Tryz.prog 83 = some (SV.d (.lit (.pointer none)) :: []) := by kernel_rfl
theorem ty.elem83 : telem Tryz.prog 83 = none := by kernel_rfl
theorem ty.sz84 : tsz Tryz.prog 84 = some 1 := by kernel_rfl
theorem ty.agg84 : tagg Tryz.prog 84 = some false := by kernel_rfl
theorem ty.elem84 : telem Tryz.prog 84 = none := by kernel_rfl
theorem ty.sz88 : tsz Tryz.prog 88 = some 4 := by kernel_rfl
theorem ty.agg88 : tagg Tryz.prog 88 = some true := by kernel_rfl
theorem ty.zero88 : tzero Tryz.prog 88 = some (SV.d (.lit (.int .i64 0)) :: (SV.d (.lit (.int .i64 0)) :: (SV.d (.lit (.int .i64 0)) :: (SV.d (.lit (.int .i64 0)) :: [])))) := by kernel_rfl
theorem ty.fld88_0 : tfld Tryz.prog 88 0 = some (0, 2) := by kernel_rfl
theorem ty.fld88_1 : tfld Tryz.prog 88 1 = some (2, 1) := by kernel_rfl
theorem ty.fld88_2 : tfld Tryz.prog 88 2 = some (3, 1) := by kernel_rfl
theorem ty.pl88 : tplaces Tryz.prog 88 = some (fun i => ([(0, 2), (2, 1), (3, 1)] : List (Nat × Nat))[i]?) := by kernel_rfl
theorem ty.elem88 : telem Tryz.prog 88 = none := by kernel_rfl
theorem ty.sz89 : tsz Tryz.prog 89 = some 1 := by kernel_rfl
theorem ty.agg89 : tagg Tryz.prog 89 = some false := by kernel_rfl
theorem ty.zero89 : tzero Tryz.prog 89 = some (SV.d (.lit .nilFunc) :: []) := by kernel_rfl
theorem ty.elem89 : telem Tryz.prog 89 = none := by kernel_rfl
theorem ty.sz98 : tsz Tryz.prog 98 = some 1 := by kernel_rfl
theorem ty.agg98 : tagg Tryz.prog 98 = some false := by kernel_rfl
theorem ty.zero98 : tzero Tryz.prog 98 = some (SV.d (.lit .nilFunc) :: []) := by kernel_rfl
theorem ty.elem98 : telem Tryz.prog 98 = none := by kernel_rfl
theorem ty.sz99 : tsz Tryz.prog 99 = some 1 := by kernel_rfl
theorem ty.agg99 : tagg Tryz.prog 99 = some false := by kernel_rfl
theorem ty.zero99 : tzero Tryz.prog 99 = some (SV.d (.lit .nilFunc) :: []) := by kernel_rfl
theorem ty.elem99 : telem Tryz.prog 99 = none := by kernel_rfl
theorem ty.sz104 : tsz Tryz.prog 104 = some 1 := by kernel_rfl
theorem ty.agg104 : tagg Tryz.prog 104 = some false := by kernel_rfl
theorem ty.zero104 : tzero Tryz.prog 104 = some (SV.d (.lit .nilFunc) :: []) := by kernel_rfl
theorem ty.elem104 : telem Tryz.prog 104 = none := by kernel_rfl
theorem ty.sz106 : tsz Tryz.prog 106 = some 4 := by kernel_rfl
theorem ty.agg106 : tagg Tryz.prog 106 = some true := by kernel_rfl
theorem ty.zero106 : tzero Tryz.prog 106 = some (SV.d (.lit (.bool false)) :: (SV.d (.lit (.bool false)) :: (SV.d (.lit (.bool false)) :: (SV.d (.lit (.bool false)) :: [])))) := by kernel_rfl
theorem ty.elem106 : telem Tryz.prog 106 = none := by kernel_rfl
theorem ty.arr106 : tarr Tryz.prog 106 = some (4, 1) := by kernel_rfl
theorem ty.und106 : Tryz.prog.underlying 106 = some (.array 4 4) := by kernel_rfl
theorem ty.sz108 : tsz Tryz.prog 108 = some 12 := by kernel_rfl
theorem ty.agg108 : tagg Tryz.prog 108 = some true := by kernel_rfl
theorem ty.zero108 : tzero Tryz.prog 108 = some (SV.d (.lit (.bool false)) :: (SV.d (.lit (.bool false)) :: (SV.d (.lit (.bool false)) :: (SV.d (.lit (.bool false)) :: (SV.d (.lit (.bool false)) :: (SV.d (.lit (.bool false)) :: (SV.d (.lit (.bool false)) :: (SV.d (.lit (.bool false)) :: (SV.d (.lit (.bool false)) :: (SV.d (.lit (.bool false)) :: (SV.d (.lit (.bool false)) :: (SV.d (.lit (.bool false)) :: [])))))))))))) := by kernel_rfl
theorem ty.elem108 : telem Tryz.prog 108 = none := by kernel_rfl
theorem ty.arr108 : tarr Tryz.prog 108 = some (3, 4) := by kernel_rfl
theorem ty.und108 : Tryz.prog.underlying 108 = some (.array 3 106) := by kernel_rfl
theorem ty.sz110 : tsz Tryz.prog 110 = some 14 := by kernel_rfl
theorem ty.agg110 : tagg Tryz.prog 110 = some true := by kernel_rfl
theorem ty.zero110 : tzero Tryz.prog 110 = some (SV.dx [] :: (SV.d (.lit (.int .i64 0)) :: (SV.d (.lit (.bool false)) :: (SV.d (.lit (.bool false)) :: (SV.d (.lit (.bool false)) :: (SV.d (.lit (.bool false)) :: (SV.d (.lit (.bool false)) :: (SV.d (.lit (.bool false)) :: (SV.d (.lit (.bool false)) :: (SV.d (.lit (.bool false)) :: (SV.d (.lit (.bool false)) :: (SV.d (.lit (.bool false)) :: (SV.d (.lit (.bool false)) :: (SV.d (.lit (.bool false)) :: [])))))))))))))) := by kernel_rfl
theorem ty.fld110_0 : tfld Tryz.prog 110 0 = some (0, 2) := by kernel_rfl
theorem ty.fld110_1 : tfld Tryz.prog 110 1 = some (2, 12) := by kernel_rfl
theorem ty.pl110 : tplaces Tryz.prog 110 = some (fun i => ([(0, 2), (2, 12)] : List (Nat × Nat))[i]?) := by kernel_rfl
theorem ty.elem110 : telem Tryz.prog 110 = none := by kernel_rfl
theorem ty.sz115 : tsz Tryz.prog 115 = some 1 := by kernel_rfl
theorem ty.agg115 : tagg Tryz.prog 115 = some false := by kernel_rfl
theorem ty.zero115 : tzero Tryz.prog 115 = some (SV.d (.lit .nilFunc) :: []) := by kernel_rfl
theorem ty.elem115 : telem Tryz.prog 115 = none := by kernel_rfl
theorem ty.sz117 : tsz Tryz.prog 117 = some 1 := by kernel_rfl
theorem ty.agg117 : tagg Tryz.prog 117 = some false := by kernel_rfl
theorem ty.zero117 : tzero Tryz.prog 117 = some (SV.d (.lit .nilFunc) :: []) := by kernel_rfl
theorem ty.elem117 : telem Tryz.prog 117 = none := by kernel_rfl
theorem ty.sz120 : tsz Tryz.prog 120 = some 1 := by kernel_rfl
theorem ty.agg120 : tagg Tryz.prog 120 = some true := by kernel_rfl
theorem ty.zero120 : tzero Tryz.prog 120 = some (SV.d (.lit .nilFunc) :: []) := by kernel_rfl
theorem ty.fld120_0 : tfld Tryz.prog 120 0 = some (0, 1) := by kernel_rfl
theorem ty.pl120 : tplaces Tryz.prog 120 = some (fun i => ([(0, 1)] : List (Nat × Nat))[i]?) := by kernel_rfl
theorem ty.elem120 : telem Tryz.prog 120 = none := by kernel_rfl
theorem ty.sz126 : tsz Tryz.prog 126 = some 1 := by kernel_rfl
theorem ty.agg126 : tagg Tryz.prog 126 = some false := by kernel_rfl
theorem ty.zero126 : tzero Tryz.prog 126 = some (SV.d (.lit .nilFunc) :: []) := by kernel_rfl
theorem ty.elem126 : telem Tryz.prog 126 = none := by kernel_rfl
theorem ty.sz131 : tsz Tryz.prog 131 = some 1 := by kernel_rfl
theorem ty.agg131 : tagg Tryz.prog 131 = some false := by kernel_rfl
theorem ty.zero131 : tzero Tryz.prog 131 = some (SV.d (.lit .nilFunc) :: []) := by kernel_rfl
theorem ty.elem131 : telem Tryz.prog 131 = none := by kernel_rfl
theorem ty.sz134 : tsz Tryz.prog 134 = some 2 := by kernel_rfl
theorem ty.agg134 : tagg Tryz.prog 134 = some true := by kernel_rfl
theorem ty.zero134 : tzero Tryz.prog 134 = some (SV.d (.lit (.bool false)) :: (SV.d (.lit (.int .i64 0)) :: [])) := by kernel_rfl
theorem ty.fld134_0 : tfld Tryz.prog 134 0 = some (0, 1) := by kernel_rfl
theorem ty.fld134_1 : tfld Tryz.prog 134 1 = some (1, 1) := by kernel_rfl
theorem ty.pl134 : tplaces Tryz.prog 134 = some (fun i => ([(0, 1), (1, 1)] : List (Nat × Nat))[i]?) := by kernel_rfl
theorem ty.elem134 : telem Tryz.prog 134 = none := by kernel_rfl
theorem ty.sz141 : tsz Tryz.prog 141 = some 1 := by kernel_rfl
theorem ty.agg141 : tagg Tryz.prog 141 = some false := by kernel_rfl
theorem ty.zero141 : tzero Tryz.prog 141 = some (SV.d (.lit (.map none)) :: []) := by kernel_rfl
theorem ty.elem141 : telem Tryz.prog 141 = none := by kernel_rfl
theorem ty.sz142 : tsz Tryz.prog 142 = some 1 := by kernel_rfl
theorem ty.agg142 : tagg Tryz.prog 142 = some false := by kernel_rfl
theorem ty.zero142 : tzero Tryz.prog 142 = some (SV.d (.lit .nilFunc) :: []) := by kernel_rfl
theorem ty.elem142 : telem Tryz.prog 142 = none := by kernel_rfl
theorem ty.sz143 : tsz Tryz.prog 143 = some 1 := by kernel_rfl
theorem ty.agg143 : tagg Tryz.prog 143 = some false := by kernel_rfl
theorem ty.elem143 : telem Tryz.prog 143 = none := by kernel_rfl
theorem ty.sz146 : tsz Tryz.prog 146 = some 1 := by kernel_rfl
theorem ty.agg146 : tagg Tryz.prog 146 = some false := by kernel_rfl
theorem ty.zero146 : tzero Tryz.prog 146 = some (SV.d (.lit (.int .i64 0)) :: []) := by kernel_rfl
theorem ty.elem146 : telem Tryz.prog 146 = none := by kernel_rfl
theorem ty.und146 : Tryz.prog.underlying 146 = some (.int .i64) := by kernel_rfl
theorem ty.sz147 : tsz Tryz.prog 147 = some 1 := by kernel_rfl
theorem ty.agg147 : tagg Tryz.prog 147 = some false := by kernel_rfl
theorem ty.elem147 : telem Tryz.prog 147 = none := by kernel_rfl
theorem ty.sz151 : tsz Tryz.prog 151 = some 1 := by kernel_rfl
theorem ty.agg151 : tagg Tryz.prog 151 = some false := by kernel_rfl
theorem ty.elem151 : telem Tryz.prog 151 = none := by kernel_rfl
theorem ty.sz154 : tsz Tryz.prog 154 = some 1 := by kernel_rfl
theorem ty.agg154 : tagg Tryz.prog 154 = some false := by kernel_rfl
theorem ty.zero154 : tzero Tryz.prog 154 = some (SV.d (.lit (.int .u32 0)) :: []) := by kernel_rfl
theorem ty.elem154 : telem Tryz.prog 154 = none := by kernel_rfl
theorem ty.und154 : Tryz.prog.underlying 154 = some (.int .u32) := by kernel_rfl
theorem ty.sz156 : tsz Tryz.prog 156 = some 1 := by kernel_rfl
theorem ty.agg156 : tagg Tryz.prog 156 = some false := by kernel_rfl
theorem ty.zero156 : tzero Tryz.prog 156 = some (SV.d (.lit (.int .u64 0)) :: []) := by kernel_rfl
theorem ty.elem156 : telem Tryz.prog 156 = none := by kernel_rfl
theorem ty.und156 : Tryz.prog.underlying 156 = some (.int .u64) := by kernel_rfl
end Go.Proofs.YtijechcadlklhaaGreat
namespace Go.Sy
def keepT : List Nat → List (Nat × SV) → List (Nat × SV)
  | [], _ => []
  | k :: ks, tm => match tm.lookup k with
    | some s => (k, s) :: keepT ks tm
    | none => keepT ks tm
theorem keepT_lookup {tm : List (Nat × SV)} {t : Nat} {s : SV} : ∀ {ks : List Nat}, (keepT ks tm).lookup t = some s → tm.lookup t = some s
  | [], h => by simp [keepT] at h
  | k :: ks, h => by
    unfold keepT at h
    split at h
    · rename_i s' hs
      simp only [List.lookup_cons] at h
      split at h
      · rename_i he
        have : t = k := by simpa using he
        subst this
        rw [hs]; exact h
      · exact keepT_lookup h
    · exact keepT_lookup h
def St.keep (ks : List Nat) (s : St) : St := ⟨keepT ks s.tm, s.hp, s.nx, s.nt, s.df, s.nb⟩
section
variable {P : Program} {G : Nat → Option (List D)} {ro : Option Nat} {st st' : St} {Q : Exit → St → Prop}
theorem Imp.weak {tm' : List (Nat × SV)} {hp' : HpT} {nx' : Nat} (ht : ∀ t s, tm'.lookup t = some s → st.tm.lookup t = some s) (hh : hp'.Sublist st.hp) (hn : st.nx ≤ nx') : Imp st ⟨tm', hp', nx', st.nt, st.df, st.nb⟩ := by
  intro G O M pb pl a w hR
  obtain ⟨h1, h2⟩ := hR.hs.sub hh
  refine ⟨pl, ⟨{ h1 with fresh := fun id hid => h1.fresh id (by simp only at hid; omega) }, fun t s h => ?_, hR.nt, hR.df, hR.bd⟩, fun B hB => ?_⟩
  · exact (hR.tm t s (ht t s h)).ext h2.ext fun _ _ h => h
  · obtain ⟨p, h1, r⟩ := hB
    exact ⟨p, hh.subset h1, r⟩
theorem Imp.keep (ks : List Nat) : Imp st (st.keep ks) := Imp.weak (fun _ _ h => keepT_lookup h) (List.Sublist.refl _) (Nat.le_refl _)
theorem Tr.post {c : Code} (h : Tr P G ro c st fun x s => ∃ s', Imp s s' ∧ Q x s') : Tr P G ro c st Q := by
  intro O M pb pl a w hR
  refine wpIn_mono (h O M pb pl a w hR) ?_
  rintro x a' w' ⟨pl', s, ⟨s', hi, hq⟩, hR', hst⟩
  obtain ⟨pl₂, hR₂, hown⟩ := hi G O M pb pl' a' w' hR'
  exact ⟨pl₂, s', hq, hR₂, hst.trans (Step.less w' hown)⟩
theorem Tr.reg {id : Nat} {ops : Array Oper} {y : Code} (ks : List Nat) {st' : St} (h : z8 P G ops.toList ops.toList st fun s => s.keep ks = st') (hy : Tr P G ro y st' Q) : Tr P G ro (.seq (.region id ops false) y) st Q := by
  refine Tr.seq ((Tr.region (Q := fun x s => match x with | .normal => s.keep ks = st' | _ => False) h).mono ?_)
  intro x s hx
  cases x with
  | normal => exact Tr.imp (hx ▸ Imp.keep ks) hy
  | _ => exact hx.elim
theorem Tr.reg1 {id : Nat} {ops : Array Oper} (ks : List Nat) {st' : St} (h : z8 P G ops.toList ops.toList st fun s => s.keep ks = st') (hq : Q .normal st') : Tr P G ro (.region id ops false) st Q := by
  refine Tr.post ((Tr.region (Q := fun x s => match x with | .normal => s.keep ks = st' | _ => False) h).mono ?_)
  intro x s hx
  cases x with
  | normal => exact ⟨st', hx ▸ Imp.keep ks, hq⟩
  | _ => exact hx.elim
theorem CallP.body {f : FuncId} {fn : Func} {c : Code} {args : List SV} {r : SV} (nt : Nat) (rvs : List ResultVar) (hf : P.funcs[f]? = some fn) (hok : okFn P f = true) (hb : fn.body = some c) (hnt : max args.length fn.ntmps = nt) (hrv : fn.results.toList = rvs) (hargs : ∀ s ∈ args, Pure s) (hr : Pure r)
    (h : Tr P G none c ⟨argTm 0 args, [], 0, nt, [], 0⟩ fun x st => (x = .normal ∨ x = .ret) ∧ Res P rvs st r) :
    CallP P G f args r := by
  subst hnt hrv
  exact CallP.of_body hf hb hok hargs hr h
end
end Go.Sy
namespace Go.Sy
def zJ (o : Oper) (ρ : Operand → SV) : Option Nat :=
  match o.op with
  | .load _ x => match ρ x with | .ptr id _ _ => some id | _ => none
  | _ => none
def quietKind (o : Oper) : Bool :=
  match o.op with
  | .move _ | .assign _ | .pick .. | .binOp .. | .unOp .. | .convert .. | .extract .. | .makeFunc .. | .nilCheck _ | .fieldAddr .. | .field .. | .indexAddr .. | .slice .. | .load .. | .build .. | .buildSlice .. => true
  | .call ⟨.value _, _, _⟩ => true
  | .call ⟨.builtin .len, _, _⟩ => true
  | .call ⟨.builtin .max, _, _⟩ => true
  | .call ⟨.builtin .min, _, _⟩ => true
  | _ => false
def callV (o : Oper) : Bool := match o.op with | .call ⟨.value _, _, _⟩ => true | .next .. => true | _ => false
abbrev Det (r : SV) (hp : HpT) (nx : Nat) : KT := fun a b c => a = r ∧ b = hp ∧ c = nx
section
variable {P : Program} {G : Nat → Option (List D)} {hp hp' hp2 : HpT} {nx nx' nx2 : Nat}
theorem xK {op : BinOp} {k : IntKind} {a b : Int} {K : SV → Prop} (h : z7 op k a b K) : ∃ r, K r ∧ z7 op k a b (· = r) := by
  cases op <;> simp only [z7] at h ⊢ <;> first
    | exact h.elim
    | exact ⟨_, h, rfl⟩
    | exact ⟨_, h.2, h.1, rfl⟩
theorem xL {op : BinOp} {t : TypeId} {x y : SV} {K : SV → Prop} (h : yB P op t x y K) : ∃ r, K r ∧ yB P op t x y (· = r) := by
  unfold yB at h ⊢
  split at h
  · split at h
    · exact ⟨_, h.2, h.1, rfl⟩
    · exact ⟨_, h.2, h.1, rfl⟩
    · obtain ⟨r, h1, h2⟩ := xK h.2
      exact ⟨r, h1, h.1, h2⟩
  · obtain ⟨h1, h⟩ := h
    split at h
    · exact ⟨_, h, h1, rfl⟩
    · exact ⟨_, h, h1, rfl⟩
    · exact h.elim
  · obtain ⟨aS0, bs, h1, h2, h3, h4, h⟩ := h
    split at h
    · exact ⟨_, h, aS0, bs, h1, h2, h3, h4, rfl⟩
    · exact ⟨_, h, aS0, bs, h1, h2, h3, h4, rfl⟩
    · exact h.elim
  · exact h.elim
theorem xP {op : UnOp} {x : SV} {K : SV → Prop} (h : zK op x K) : ∃ r, K r ∧ zK op x (· = r) := by
  unfold zK at h ⊢
  split at h <;> first | exact ⟨_, h, rfl⟩ | exact h.elim
theorem xD {s t : TypeId} {x : SV} {K : SV → Prop} (h : zX P s t x K) : ∃ r, K r ∧ zX P s t x (· = r) := by
  unfold zX at h ⊢
  split at h
  · obtain ⟨k, h1, h2, h⟩ := h; exact ⟨_, h, k, h1, h2, rfl⟩
  · exact h.elim
theorem xE {c a b : SV} {K : SV → Prop} (h : zI c a b K) : ∃ r, K r ∧ zI c a b (· = r) := by
  unfold zI at h ⊢
  split at h <;> first | exact ⟨_, h, rfl⟩ | exact ⟨_, h.2, h.1, rfl⟩ | exact h.elim
theorem yU {x : SV} {i : Nat} {K : SV → Prop} (h : zH x i K) : ∃ r, K r ∧ zH x i (· = r) := by
  unfold zH at h ⊢
  split at h <;> first | exact ⟨_, h.2, h.1, rfl⟩ | exact h.elim
theorem xM {x : SV} {K : SV → Prop} (h : zR x K) : ∃ r, K r ∧ zR x (· = r) := by
  unfold zR at h ⊢
  split at h <;> first | exact ⟨_, h, rfl⟩ | exact h.elim
theorem yM {t : TypeId} {x : SV} {f : Nat} {K : SV → Prop} (h : zA P t x f K) : ∃ r, K r ∧ zA P t x f (· = r) := by
  unfold zA at h ⊢
  split at h
  · obtain ⟨h1, h⟩ := h
    split at h <;> first | exact ⟨_, h, h1, rfl⟩ | exact h.elim
  · exact h.elim
theorem yZ {t : TypeId} {x : SV} {f : Nat} {K : SV → Prop} (h : yD P t x f K) : ∃ r, K r ∧ yD P t x f (· = r) := by
  unfold yD at h ⊢
  split at h
  · split at h
    · split at h <;> first | exact ⟨_, h.2, h.1, rfl⟩ | exact h.elim
    · exact h.elim
  · exact h.elim
theorem yN {t : TypeId} {x i : SV} {K : SV → Prop} (h : z5 P t x i K) : ∃ r, K r ∧ z5 P t x i (· = r) := by
  unfold z5 at h ⊢
  split at h
  · split at h
    · split at h
      · exact ⟨_, h.2.2.2, h.1, h.2.1, h.2.2.1, rfl⟩
      · exact ⟨_, h.2.2.2, h.1, h.2.1, h.2.2.1, rfl⟩
      · exact ⟨_, h.2.2.2, h.1, h.2.1, h.2.2.1, rfl⟩
      · exact h.elim
    · split at h
      · obtain ⟨h1, h2, h⟩ := h
        split at h <;> first | exact ⟨_, h, h1, h2, rfl⟩ | exact h.elim
      · exact h.elim
  · exact h.elim
theorem xF {t : TypeId} {x : SV} {K : SV → Prop} (h : zD P t x hp K) : ∃ r, K r ∧ zD P t x hp (· = r) := by
  unfold zD at h ⊢
  split at h
  · split at h
    · split at h
      · obtain ⟨h1, h⟩ := h
        split at h
        · exact ⟨_, h.2, h1, h.1, rfl⟩
        · exact ⟨_, h.2, h1, h.1, rfl⟩
      · exact h.elim
    · split at h
      · exact ⟨_, h.2, h.1, rfl⟩
      · exact ⟨_, h.2, h.1, rfl⟩
    · split at h
      · exact ⟨_, h.2, h.1, rfl⟩
      · exact ⟨_, h.2, h.1, rfl⟩
    · exact h.elim
  · exact h.elim
theorem xN {t : TypeId} {x : SV} {K : SV → Prop} (h : zL P t x K) : ∃ r, K r ∧ zL P t x (· = r) := by
  unfold zL at h ⊢
  split at h <;> first | exact ⟨_, h, rfl⟩ | exact h.elim
theorem yR {sz : Nat} {es : List (List D)} {b : Option (Int × Int × Option Int)} {K : SV → Prop} (h : yE sz es b K) : ∃ r, K r ∧ yE sz es b (· = r) := by
  unfold yE at h ⊢
  obtain ⟨h0, h⟩ := h
  split at h
  · exact ⟨_, h.2.2.2, h0, h.1, h.2.1, h.2.2.1, rfl⟩
  · exact ⟨_, h.2.2.2.2, h0, h.1, h.2.1, h.2.2.1, h.2.2.2.1, rfl⟩
  · exact h.elim
theorem y3 {t : TypeId} {x : SV} {lo hi mx : Option SV} {K : SV → Prop} (h : zV P t x lo hi mx K) : ∃ r, K r ∧ zV P t x lo hi mx (· = r) := by
  unfold zV at h ⊢
  split at h
  · split at h
    · obtain ⟨h0, h⟩ := h
      split at h
      · obtain ⟨h1, h2, h3, h⟩ := h
        split at h
        · rename_i hc
          exact ⟨_, h, h0, h1, h2, h3, by rw [if_pos hc]⟩
        · rename_i hc
          exact ⟨_, h, h0, h1, h2, h3, by rw [if_neg hc]⟩
      · exact ⟨_, h.2.2.2.2.2, h0, h.1, h.2.1, h.2.2.1, h.2.2.2.1, h.2.2.2.2.1, rfl⟩
      · exact h.elim
    · exact yR h
    · exact yR h
    · exact h.elim
  · exact h.elim
theorem y4 {mx : Bool} {xs : List SV} {K : SV → Prop} (h : yJ mx xs K) : ∃ r, K r ∧ yJ mx xs (· = r) := by
  unfold yJ at h ⊢
  split at h
  · exact ⟨_, h.2, h.1, rfl⟩
  · obtain ⟨h1, h2, h3, h4, h5, h⟩ := h
    exact ⟨_, h, h1, h2, h3, h4, h5, rfl⟩
  · exact h.elim
theorem y5 {t : TypeId} {ps : List (Nat × SV)} {K : SV → Prop} (h : zO P t ps K) : ∃ r, K r ∧ zO P t ps (· = r) := by
  unfold zO at h ⊢
  split at h
  · split at h
    · exact ⟨_, h, rfl⟩
    · exact h.elim
  · exact h.elim
theorem yK {t : TypeId} {len : Nat} {ps : List (Nat × SV)} {K : KT} (h : zG P t len ps hp nx K) : ∃ r hp' nx', K r hp' nx' ∧ zG P t len ps hp nx (Det r hp' nx') := by
  unfold zG at h ⊢
  split at h
  · obtain ⟨h1, h2, h3, h4, h5, h⟩ := h
    split at h
    · exact ⟨_, _, _, h, h1, h2, h3, h4, h5, rfl, rfl, rfl⟩
    · split at h
      · exact ⟨_, _, _, h, h1, h2, h3, h4, h5, rfl, rfl, rfl⟩
      · exact ⟨_, _, _, h, h1, h2, h3, h4, h5, rfl, rfl, rfl⟩
  · exact h.elim
theorem xO {v : SV} {K : KT} (h : zM v hp nx K) : ∃ r hp' nx', K r hp' nx' ∧ zM v hp nx (Det r hp' nx') := by
  unfold zM at h ⊢
  exact ⟨_, _, _, h.2.2, h.1, h.2.1, rfl, rfl, rfl⟩
theorem y6 {t : TypeId} {K : KT} (h : zN P t hp nx K) : ∃ r hp' nx', K r hp' nx' ∧ zN P t hp nx (Det r hp' nx') := by
  unfold zN at h ⊢
  split at h
  · exact ⟨_, _, _, h.2, h.1, rfl, rfl, rfl⟩
  · exact h.elim
theorem y7 {t : TypeId} {x v : SV} {K : HpT → Prop} (h : yC P t x v hp K) : ∃ hp', K hp' ∧ yC P t x v hp (· = hp') := by
  unfold yC at h ⊢
  split at h
  · split at h
    · exact ⟨_, h.2.2.2.2.2, h.1, h.2.1, h.2.2.1, h.2.2.2.1, h.2.2.2.2.1, rfl⟩
    · exact h.elim
  · exact h.elim
theorem yO {t : TypeId} {l c : SV} {K : KT} (h : z6 P t l c hp nx K) : ∃ r hp' nx', K r hp' nx' ∧ z6 P t l c hp nx (Det r hp' nx') := by
  unfold z6 at h ⊢
  split at h
  · split at h
    · exact ⟨_, _, _, h.2.2.2.2.2.2, h.1, h.2.1, h.2.2.1, h.2.2.2.1, h.2.2.2.2.1, h.2.2.2.2.2.1, rfl, rfl, rfl⟩
    · exact h.elim
  · exact h.elim
theorem yW {t t' : TypeId} {s x : SV} {K : KT} (h : zQ P t t' s x hp nx K) : ∃ r hp' nx', K r hp' nx' ∧ zQ P t t' s x hp nx (Det r hp' nx') := by
  unfold zQ at h ⊢
  split at h
  · obtain ⟨h1, h2, h⟩ := h
    split at h
    · obtain ⟨h3, h⟩ := h
      split at h
      · exact ⟨_, _, _, h.2.2.2.2, h1, h2, h3, h.1, h.2.1, h.2.2.1, h.2.2.2.1, rfl, rfl, rfl⟩
      · obtain ⟨h4, h⟩ := h
        split at h
        · split at h
          · rename_i hc
            refine ⟨_, _, _, h.2.2, h1, h2, h3, h4, ?_⟩
            rw [if_pos hc]
            exact ⟨h.1, h.2.1, rfl, rfl, rfl⟩
          · rename_i hc
            refine ⟨_, _, _, h.2.2, h1, h2, h3, h4, ?_⟩
            rw [if_neg hc]
            exact ⟨h.1, h.2.1, rfl, rfl, rfl⟩
        · exact h.elim
      · exact h.elim
    · exact h.elim
  · exact h.elim
theorem y8 {t : TypeId} {x : SV} {K : HpT → Prop} (h : yH P t x hp K) : ∃ hp', K hp' ∧ yH P t x hp (· = hp') := by
  unfold yH at h ⊢
  split at h
  · obtain ⟨h0, h⟩ := h
    split at h
    · obtain ⟨h1, h⟩ := h
      split at h
      · obtain ⟨h2, h⟩ := h
        rename_i hl
        exact ⟨_, h, h0, h1, by simp only; exact ⟨h2, trivial⟩⟩
      · exact h.elim
    · exact h.elim
  · exact h.elim
theorem yX {t : TypeId} {x k : SV} {b : Bool} {K : SV → Prop} (h : zW P t x k b hp K) : ∃ r, K r ∧ zW P t x k b hp (· = r) := by
  unfold zW at h ⊢
  split at h
  · obtain ⟨h1, h⟩ := h
    cases b
    · exact ⟨_, h, h1, rfl⟩
    · exact ⟨_, h, h1, rfl⟩
  · exact h.elim
theorem yF {t : TypeId} {m k v : SV} {K : HpT → Prop} (h : zU P t m k v hp K) : ∃ hp', K hp' ∧ zU P t m k v hp (· = hp') := by
  unfold zU at h ⊢
  split at h
  · split at h
    · rename_i hk _ es hl
      exact ⟨_, h.2, by simp only; exact ⟨h.1, trivial⟩⟩
    · exact h.elim
  · exact h.elim
theorem y9 {t : TypeId} {x : SV} {K : KT} (h : yG P t x hp nx K) : ∃ r hp' nx', K r hp' nx' ∧ yG P t x hp nx (Det r hp' nx') := by
  obtain ⟨h0, h⟩ := h
  split at h
  · exact ⟨_, _, _, h, h0, rfl, rfl, rfl⟩
  · exact h.elim
theorem xA {x : SV} {K : SV → Prop} (h : yA x hp K) : ∃ r, K r ∧ yA x hp (· = r) := by
  unfold yA at h ⊢
  split at h
  · split at h
    · obtain ⟨k, s, e, hk, h⟩ := h
      rename_i hl
      exact ⟨_, h, k, s, e, hk, rfl⟩
    · exact h.elim
  · exact h.elim
theorem detEq (r : SV) (hp : HpT) (nx : Nat) : (fun a => Det r hp nx a hp nx) = (· = r) := by
  funext a; simp [Det]
theorem lift {p : (SV → Prop) → Prop} {K : KT} (h : ∃ r, K r hp nx ∧ p (· = r)) : ∃ r hp' nx', K r hp' nx' ∧ p (fun a => Det r hp' nx' a hp nx) := by
  obtain ⟨r, h1, h2⟩ := h
  refine ⟨r, hp, nx, h1, ?_⟩
  rw [detEq]; exact h2
theorem xG {c : Call} {ρ : Operand → SV} {K : KT} (hv : ∀ f, c.callee ≠ .value f) (h : zB P G c ρ hp nx K) : ∃ r hp' nx', K r hp' nx' ∧ zB P G c ρ hp nx (Det r hp' nx') := by
  unfold zB at h ⊢
  split at h
  · rename_i f hf; exact absurd hf (hv f)
  · split at h
    · obtain ⟨hp', h1, h2⟩ := y8 h
      refine ⟨_, _, _, h1, ?_⟩
      have e : (fun h => Det SV.unk hp' nx SV.unk h nx) = (· = hp') := by funext a; simp [Det]
      rw [e]; exact h2
    · exact h.elim
  · split at h
    · exact lift (p := zL P _ _) (xN h)
    · exact h.elim
  · split at h
    · exact yW h
    · exact h.elim
  · exact lift (p := yJ _ _) (y4 h)
  · exact lift (p := yJ _ _) (y4 h)
  · exact h.elim
theorem exq_det {o : Oper} {ρ : Operand → SV} {K : KT} (hv : callV o = false) (h : exq P G o ρ hp nx K) : ∃ r hp' nx', K r hp' nx' ∧ exq P G o ρ hp nx (Det r hp' nx') := by
  obtain ⟨dst, op, type, pos, after, guard⟩ := o
  unfold exq at h ⊢
  cases op <;> simp only at h ⊢ <;> try exact h.elim
  case move x => exact ⟨_, _, _, h, rfl, rfl, rfl⟩
  case assign x => exact ⟨_, _, _, h, rfl, rfl, rfl⟩
  case pick c a b => exact lift (p := zI _ _ _) (xE h)
  case binOp op t a b t' => exact lift (p := yB P _ _ _ _) (xL h)
  case unOp op t a => exact lift (p := zK _ _) (xP h)
  case convert s t x => exact lift (p := zX P _ _ _) (xD h)
  case extract x i => exact lift (p := zH _ _) (yU h)
  case makeFunc fn a b => exact ⟨_, _, _, h, rfl, rfl, rfl⟩
  case nilCheck x => exact lift (p := zR _) (xM h)
  case fieldAddr t x f => exact lift (p := zA P _ _ _) (yM h)
  case field t x f => exact lift (p := yD P _ _ _) (yZ h)
  case indexAddr t x i => exact lift (p := z5 P _ _ _) (yN h)
  case slice t x a b c => exact lift (p := zV P _ _ _ _ _) (y3 h)
  case load t x => exact lift (p := zD P _ _ hp) (xF h)
  case store t x v =>
    obtain ⟨hp', h1, h2⟩ := y7 h
    refine ⟨_, _, _, h1, ?_⟩
    have e : (fun h => Det SV.unk hp' nx SV.unk h nx) = (· = hp') := by funext a; simp [Det]
    rw [e]; exact h2
  case alloc t => exact y6 h
  case box t v => exact xO h
  case build t ps => exact lift (p := zO P _ _) (y5 h)
  case buildSlice t n ps => exact yK h
  case makeSlice t a b => exact yO h
  case makeMap t r =>
    cases r with
    | none => exact ⟨_, _, _, h, rfl, rfl, rfl⟩
    | some x => exact h.elim
  case lookup t x i b => exact lift (p := zW P _ _ _ _ hp) (yX h)
  case mapUpdate t m k v =>
    obtain ⟨hp', h1, h2⟩ := yF h
    refine ⟨_, _, _, h1, ?_⟩
    have e : (fun h => Det SV.unk hp' nx SV.unk h nx) = (· = hp') := by funext a; simp [Det]
    rw [e]; exact h2
  case insert t m k v =>
    obtain ⟨hp', h1, h2⟩ := yF h
    refine ⟨_, _, _, h1, ?_⟩
    have e : (fun h => Det SV.unk hp' nx SV.unk h nx) = (· = hp') := by funext a; simp [Det]
    rw [e]; exact h2
  case range t x => exact y9 h
  case next x b => simp [callV] at hv
  case entry x => exact lift (p := yA _ hp) (xA h)
  case call c =>
    obtain ⟨callee, args, ats⟩ := c
    refine xG (fun f hf => ?_) h
    simp only at hf
    subst hf
    simp [callV] at hv
theorem cons_ne_self (x : Nat × Obj) (l : HpT) : x :: l ≠ l := fun h => by
  have := congrArg List.length h
  simp at this
theorem xB {t : TypeId} {x : SV} {K : SV → Prop} (h : zD P t x hp K) (hr : ∀ id i j, x = .ptr id i j → hp2.lookup id = hp.lookup id) : zD P t x hp2 K := by
  unfold zD at h ⊢
  split at h
  · split at h
    · rename_i id i j
      simp only [hr id i j rfl]
      exact h
    · exact h
    · exact h
    · exact h.elim
  · exact h.elim
theorem quiet_stable {o : Oper} {ρ : Operand → SV} {r : SV} (hk : quietKind o = true) (hv : callV o = false) (h : exq P G o ρ hp nx (Det r hp nx)) (hr : ∀ id, zJ o ρ = some id → hp2.lookup id = hp.lookup id) :
    exq P G o ρ hp2 nx2 (Det r hp2 nx2) := by
  obtain ⟨dst, op, type, pos, after, guard⟩ := o
  unfold exq at h ⊢
  cases op <;> simp only at h ⊢ <;> try exact h.elim
  case move x => exact ⟨h.1, rfl, rfl⟩
  case assign x => exact ⟨h.1, rfl, rfl⟩
  case makeFunc fn a b => exact ⟨h.1, rfl, rfl⟩
  case store => simp [quietKind] at hk
  case alloc => simp [quietKind] at hk
  case box => simp [quietKind] at hk
  case makeSlice => simp [quietKind] at hk
  case makeMap => simp [quietKind] at hk
  case lookup => simp [quietKind] at hk
  case mapUpdate => simp [quietKind] at hk
  case insert => simp [quietKind] at hk
  case range => simp [quietKind] at hk
  case next => simp [quietKind] at hk
  case entry => simp [quietKind] at hk
  case load t x =>
    rw [detEq] at h ⊢
    refine xB h fun id i j hx => hr id ?_
    simp only [zJ, hx]
  case buildSlice t n ps =>
    unfold zG at h ⊢
    split at h
    · obtain ⟨h1, h2, h3, h4, h5, h⟩ := h
      refine ⟨h1, h2, h3, h4, h5, ?_⟩
      split at h
      · exact ⟨h.1, rfl, rfl⟩
      · split at h
        · exact ⟨h.1, rfl, rfl⟩
        · exact absurd h.2.1 (cons_ne_self _ _)
    · exact h.elim
  case call c =>
    obtain ⟨callee, args, ats⟩ := c
    cases callee with
    | value f => simp [callV] at hv
    | invoke => simp [quietKind] at hk
    | builtin b =>
      cases b <;> first | (simp [quietKind] at hk; done) | skip
      all_goals
        unfold zB at h ⊢
        simp only at h ⊢
        first
        | (rw [detEq] at h ⊢; exact h)
        | (split at h
           · rw [detEq] at h ⊢; exact h
           · exact h.elim)
  all_goals (rw [detEq] at h ⊢; exact h)
theorem mapL {ρ ρ' : Operand → SV} {l : Array Operand} (h : ∀ x ∈ l, ρ x = ρ' x) : l.toList.map ρ = l.toList.map ρ' :=
  List.map_congr_left fun x hx => h x (by simpa using hx)
theorem yY {c : Call} {ρ ρ' : Operand → SV} {K : KT} (h : ∀ x ∈ c.operands, ρ x = ρ' x) : zB P G c ρ hp nx K = zB P G c ρ' hp nx K := by
  obtain ⟨callee, args, ats⟩ := c
  have ha : args.toList.map ρ = args.toList.map ρ' := mapL fun x hx => h x (by simp [Call.operands, hx])
  have hb : ∀ x ∈ args.toList, ρ x = ρ' x := fun x hx => h x (by
    have : x ∈ args := by simpa using hx
    simp [Call.operands, this])
  unfold zB
  cases callee with
  | value f =>
    have hf : ρ f = ρ' f := h f (by simp [Call.operands])
    simp only [hf, ha]
  | invoke r m => rfl
  | builtin b =>
    cases b <;> simp only [ha]
    all_goals
      generalize hl : args.toList = l at hb
      split
      · first
        | (rename_i s x h1; simp only [hb s List.mem_cons_self, hb x (by simp)]; done)
        | (rename_i x h1; simp only [hb x List.mem_cons_self])
      · rfl
theorem exq_congr {o : Oper} {ρ ρ' : Operand → SV} {K : KT} (h : ∀ x ∈ o.op.operands, ρ x = ρ' x) : exq P G o ρ hp nx K = exq P G o ρ' hp nx K := by
  obtain ⟨dst, op, type, pos, after, guard⟩ := o
  have pairs : ∀ ps : Array (Nat × Operand), (∀ x ∈ (ps.toList.map (·.2)).toArray, ρ x = ρ' x) → (ps.toList.map fun p => (p.1, ρ p.2)) = (ps.toList.map fun p => (p.1, ρ' p.2)) := fun ps hp =>
    List.map_congr_left fun p hm => by
      rw [hp p.2 (by simpa using ⟨p.1, by simpa using hm⟩)]
  unfold exq
  cases op <;> simp only [Op.operands] at h <;> simp only
  case call c => exact yY h
  case build t ps => rw [pairs ps h]
  case buildSlice t n ps => rw [pairs ps h]
  case makeFunc fn a b => rw [mapL (l := a) fun x hx => h x (by simp [hx]), mapL (l := b) fun x hx => h x (by simp [hx])]
  case slice t x lo hi mx => cases lo <;> cases hi <;> cases mx <;> simp_all
  case makeMap t r => cases r <;> rfl
  case next x b => cases b <;> simp_all
  all_goals (first | rfl | (simp_all; done))
end
end Go.Sy
namespace Go.Sy
def exP (P : Program) (G : Nat → Option (List D)) (o : Oper) (ρ : Operand → SV) (hp : HpT) (nx : Nat) (r : SV) (hp' : HpT) (nx' : Nat) : Prop :=
  match o.op with
  | .call ⟨.value f, args, _⟩ => (match ρ f with | .clo (.func fid) first cap => CallP P G fid (first ++ args.toList.map ρ ++ cap) r | _ => False) ∧ hp' = hp ∧ nx' = nx
  | _ => exq P G o ρ hp nx (Det r hp' nx')
def EvAt (P : Program) (G : Nat → Option (List D)) (ops : Array Oper) (ld : Bool) (o : Oper) (st : St) (r : SV) (hp' : HpT) (nx' : Nat) : Prop :=
  dstOk o.dst st.nt ∧ match o.guard with
  | none => match ld with
    | true => exq P G o (ev G st.tm) st.hp st.nx (Det r hp' nx')
    | false => exP P G o (ev G st.tm) st.hp st.nx r hp' nx'
  | some (j, want) => ∃ g b r0, (ops[j]?).bind (·.dst) = some g ∧ gcond ((st.tm.lookup g).getD .unk) want = some b ∧ r = .whn b r0 ∧
      ((hp' = st.hp ∧ nx' = st.nx ∧ (b = true → exP P G o (fun x => gstrip (ev G st.tm x)) st.hp st.nx r0 st.hp st.nx)) ∨
       (ld = true ∧ b = true ∧ exq P G o (fun x => gstrip (ev G st.tm x)) st.hp st.nx (Det r0 hp' nx')))
def rdEv (G : Nat → Option (List D)) (o : Oper) (st : St) : Option Nat :=
  match o.guard with
  | none => zJ o (ev G st.tm)
  | some _ => zJ o (fun x => gstrip (ev G st.tm x))
section
variable {P : Program} {G : Nat → Option (List D)} {ro : Option Nat} {M : Nat} {O : Nat → Prop} {pb pl pl' : Nat → Option Pl} {w w' : World} {hp hp' hp2 : HpT} {nx nx' nx2 : Nat} {ops : Array Oper}
theorem xH {o : Oper} {ρ : Operand → SV} {r : SV} (h : exP P G o ρ hp nx r hp' nx') : exq P G o ρ hp nx (Det r hp' nx') := by
  unfold exP at h
  split at h
  · rename_i f args ats ho
    obtain ⟨h, rfl, rfl⟩ := h
    unfold exq
    rw [ho]
    simp only [zB]
    split at h
    · rename_i fid first cap hf
      simp only [hf]
      exact h.use ⟨rfl, rfl, rfl⟩
    · exact h.elim
  · exact h
theorem yI {o : Oper} {ρ : Operand → SV} {r : SV} (hv : callV o = false) : exP P G o ρ hp nx r hp' nx' = exq P G o ρ hp nx (Det r hp' nx') := by
  unfold exP
  split
  · rename_i f args ats ho
    unfold callV at hv
    rw [ho] at hv
    simp at hv
  · rfl
theorem yS {o : Oper} {ρ : Operand → SV} {r : SV} (hk : quietKind o = true) (h : exP P G o ρ hp nx r hp nx) (hr : ∀ id, zJ o ρ = some id → hp2.lookup id = hp.lookup id) :
    exP P G o ρ hp2 nx2 r hp2 nx2 := by
  cases hv : callV o with
  | false =>
    rw [yI hv] at h ⊢
    exact quiet_stable hk hv h hr
  | true =>
    unfold exP at h ⊢
    split at h
    · exact ⟨h.1, rfl, rfl⟩
    · rename_i hno
      unfold callV at hv
      split at hv
      · exact absurd ‹_› (hno _ _ _)
      · rename_i ho
        unfold quietKind at hk
        rw [ho] at hk
        simp at hk
      · cases hv
theorem yL {o : Oper} {ρ ρ' : Operand → SV} {r : SV} (h : ∀ x ∈ o.op.operands, ρ x = ρ' x) : exP P G o ρ hp nx r hp' nx' = exP P G o ρ' hp nx r hp' nx' := by
  unfold exP
  split
  · rename_i f args ats ho
    rw [ho] at h
    have hf : ρ f = ρ' f := h f (by simp [Op.operands, Call.operands])
    have ha : args.toList.map ρ = args.toList.map ρ' := mapL fun x hx => h x (by simp [Op.operands, Call.operands, hx])
    simp only [hf, ha]
  · exact exq_congr h
theorem ev_look {o : Oper} {tm tm' : List (Nat × SV)} (h : ∀ t ∈ o.looksAt ops, tm.lookup t = tm'.lookup t) : ∀ x ∈ o.op.operands, ev G tm x = ev G tm' x := by
  intro x hx
  cases x with
  | tmp t =>
    simp only [ev]
    rw [h t (List.mem_append_left _ (List.mem_filterMap.2 ⟨.tmp t, by simpa using hx, rfl⟩))]
  | _ => rfl
theorem EvAt.move {ld : Bool} {o : Oper} {st st' : St} {r : SV} (h : EvAt P G ops ld o st r hp' nx') (hl : ∀ t ∈ o.looksAt ops, st'.tm.lookup t = st.tm.lookup t) (hn : st'.nt = st.nt)
    (hh : (st'.hp = st.hp ∧ st'.nx = st.nx ∧ hp2 = hp' ∧ nx2 = nx') ∨ (ld = false ∧ quietKind o = true ∧ hp' = st.hp ∧ nx' = st.nx ∧ hp2 = st'.hp ∧ nx2 = st'.nx ∧ ∀ id, rdEv G o st = some id → st'.hp.lookup id = st.hp.lookup id)) :
    EvAt P G ops ld o st' r hp2 nx2 := by
  obtain ⟨hd, h⟩ := h
  refine ⟨by rw [hn]; exact hd, ?_⟩
  have hops := ev_look (G := G) hl
  cases hg : o.guard with
  | none =>
    rw [hg] at h
    simp only at h ⊢
    rcases hh with ⟨e1, e2, rfl, rfl⟩ | ⟨rfl, hk, rfl, rfl, rfl, rfl, hr⟩
    · cases ld
      · simp only at h ⊢
        rw [yL hops, e1, e2]; exact h
      · simp only at h ⊢
        rw [exq_congr hops, e1, e2]; exact h
    · simp only at h ⊢
      rw [yL hops]
      exact yS hk h fun id hid => hr id (by simp only [rdEv, hg]; exact hid)
  | some jw =>
    obtain ⟨j, want⟩ := jw
    rw [hg] at h
    simp only at h ⊢
    obtain ⟨g, b, r0, h1, h2, h3, hx⟩ := h
    have hgl : st'.tm.lookup g = st.tm.lookup g := hl g (by simp [Oper.looksAt, hg, h1])
    have hops' : ∀ x ∈ o.op.operands, gstrip (ev G st'.tm x) = gstrip (ev G st.tm x) := fun x hx => by rw [hops x hx]
    refine ⟨g, b, r0, h1, by rw [hgl]; exact h2, h3, ?_⟩
    rcases hx with ⟨h4, h5, h6⟩ | ⟨hld, hb, h6⟩
    · refine .inl ⟨?_, ?_, fun hb => ?_⟩
      · rcases hh with ⟨e1, e2, rfl, rfl⟩ | ⟨_, hk, e1, e2, rfl, rfl, hr⟩
        · rw [h4, e1]
        · rfl
      · rcases hh with ⟨e1, e2, rfl, rfl⟩ | ⟨_, hk, e1, e2, rfl, rfl, hr⟩
        · rw [h5, e2]
        · rfl
      · rw [yL (ρ' := fun x => gstrip (ev G st.tm x)) hops']
        rcases hh with ⟨e1, e2, _, _⟩ | ⟨_, hk, _, _, _, _, hr⟩
        · rw [e1, e2]; exact h6 hb
        · exact yS hk (h6 hb) fun id hid => hr id (by simp only [rdEv, hg]; exact hid)
    · rcases hh with ⟨e1, e2, rfl, rfl⟩ | ⟨hf, _⟩
      · refine .inr ⟨hld, hb, ?_⟩
        rw [exq_congr (ρ' := fun x => gstrip (ev G st.tm x)) hops', e1, e2]
        exact h6
      · rw [hld] at hf; cases hf
theorem EvAt.sound {ld : Bool} {i : Nat} {o : Oper} {st : St} {r : SV} {a : Act} {K : Act → World → Prop} {Q : Exit → Act → World → Prop} (hi : ops[i]? = some o) (h : EvAt P G ops ld o st r hp' nx') (hR : R G O M pb pl st a w)
    (hK : ∀ pl' a' w', R G O M pb pl' ⟨putT o.dst r st.tm, hp', nx', st.nt, st.df, st.nb⟩ a' w' → Step (ownOf pl st.hp) (ownOf pl' hp') w w' → K a' w') : wpOpIn (Fw ro) 0 P ops Q i K a w := by
  unfold wpOpIn
  simp only [hi]
  obtain ⟨hd, h⟩ := h
  have hev := ev_sound hR.hs hR.tm
  cases hg : o.guard with
  | none =>
    rw [hg] at h
    simp only at h
    have hw : Region.wanted o (yielded ops a.tmps) = true := by simp [Region.wanted, hg]
    rw [if_pos hw]
    have h' : exq P G o (ev G st.tm) st.hp st.nx (Det r hp' nx') := by
      cases ld
      · exact xH h
      · exact h
    refine (exq_sound hR.hs hev h').wpIn (exq_defer h') ?_
    rintro v w' ⟨pl', r', hp2, nx2, ⟨rfl, rfl, rfl⟩, hs', hv, hst, hpl⟩
    exact hK pl' _ w' (hR.put hd hs' hst hpl hv) hst
  | some jw =>
    obtain ⟨j, want⟩ := jw
    rw [hg] at h
    simp only at h
    obtain ⟨g, b, r0, h1, h2, rfl, hx⟩ := h
    have hgv : SR pl (okOf (Ox O a) pl st.hp) w ((st.tm.lookup g).getD .unk) (a.tmps.getD g undef) := by
      have := hev (.tmp g)
      simpa [ev, Act.eval] using this
    have hgs := gcond_sound hgv h2
    have hwanted : Region.wanted o (yielded ops a.tmps) = b := by
      have hy : yielded ops a.tmps j = bval (a.tmps.getD g undef) := by
        unfold yielded
        rw [h1]
        simp only [Option.bind_some, Array.getD_eq_getD_getElem?]
        cases a.tmps[g]? with
        | none => simp [undef, bval]
        | some v => cases v <;> rfl
      simp only [Region.wanted, hg, hy]
      cases hbb : b
      · cases hv : (bval (a.tmps.getD g undef) == some want)
        · rfl
        · rw [hgs.1 hv] at hbb; cases hbb
      · exact hgs.2 hbb
    rw [hwanted]
    rcases hx with ⟨rfl, rfl, h6⟩ | ⟨_, rfl, h6⟩
    · cases b
      · simp only [Bool.false_eq_true, if_false]
        refine ⟨fun _ _ => trivial, ?_⟩
        exact hK pl _ w (hR.put hd hR.hs (.refl _ _) (fun _ _ h => h) (.whn false r0 undef (fun h => by cases h) (fun _ => rfl))) (.refl _ _)
      · simp only [if_true]
        have hex' := xH (h6 rfl)
        refine (exq_sound hR.hs (fun x => gstrip_sound (hev x)) hex').wpIn (exq_defer hex') ?_
        rintro v w' ⟨pl', r', hp', nx', ⟨rfl, rfl, rfl⟩, hs', hv, hst, hpl⟩
        exact hK pl' _ w' (hR.put hd hs' hst hpl (.whn true _ v (fun _ => hv) (fun h => by cases h))) hst
    · simp only [if_true]
      refine (exq_sound hR.hs (fun x => gstrip_sound (hev x)) h6).wpIn (exq_defer h6) ?_
      rintro v w' ⟨pl', r', hp2', nx2', ⟨rfl, rfl, rfl⟩, hs', hv, hst, hpl⟩
      exact hK pl' _ w' (hR.put hd hs' hst hpl (.whn true _ v (fun _ => hv) (fun h => by cases h))) hst
end
end Go.Sy
namespace Go.Sy
structure Ev where
  i : Nat
  o : Oper
  ld : Bool
  st : St
  r : SV
  hp : HpT
  nx : Nat
def nextSt (e : Ev) : St := ⟨putT e.o.dst e.r e.st.tm, e.hp, e.nx, e.st.nt, e.st.df, e.st.nb⟩
def RunL (st : St) : List Ev → St → Prop
  | [], st' => st' = st
  | e :: es, st' => e.st = st ∧ (e.ld = false → e.hp = st.hp ∧ e.nx = st.nx) ∧ RunL (nextSt e) es st'
def foldT (S : Nat → Bool) (tm : List (Nat × SV)) : List Ev → List (Nat × SV)
  | [] => tm
  | e :: es => foldT S (if S e.i then putT e.o.dst e.r tm else tm) es
def foldH (S : Nat → Bool) (h : HpT × Nat) : List Ev → HpT × Nat
  | [] => h
  | e :: es => foldH S (if S e.i && e.ld then (e.hp, e.nx) else h) es
theorem foldT_append (S : Nat → Bool) : ∀ (a b : List Ev) (tm : List (Nat × SV)), foldT S tm (a ++ b) = foldT S (foldT S tm a) b
  | [], _, _ => rfl
  | _ :: a, b, tm => foldT_append S a b _
theorem foldH_append (S : Nat → Bool) : ∀ (a b : List Ev) (h : HpT × Nat), foldH S h (a ++ b) = foldH S (foldH S h a) b
  | [], _, _ => rfl
  | _ :: a, b, h => foldH_append S a b _
theorem putT_lookup_ne {dst : Option Tmp} {r : SV} {tm : List (Nat × SV)} {t : Nat} (h : dst ≠ some t) : (putT dst r tm).lookup t = tm.lookup t := by
  cases dst with
  | none => rfl
  | some d =>
    have hne : t ≠ d := fun e => h (by rw [e])
    have : (t == d) = false := by simpa using hne
    simp [putT, List.lookup_cons, this]
theorem putT_lookup_eq {r : SV} {tm : List (Nat × SV)} {t : Nat} : (putT (some t) r tm).lookup t = some r := by
  simp [putT]
theorem foldT_lookup {t : Nat} {S S' : Nat → Bool} : ∀ (evs : List Ev) (tm tm' : List (Nat × SV)), (∀ e ∈ evs, e.o.dst = some t → S e.i = S' e.i) → tm.lookup t = tm'.lookup t →
    (foldT S tm evs).lookup t = (foldT S' tm' evs).lookup t
  | [], _, _, _, h => h
  | e :: es, tm, tm', hS, h => by
    simp only [foldT]
    refine foldT_lookup es _ _ (fun x hx => hS x (List.mem_cons_of_mem _ hx)) ?_
    by_cases hd : e.o.dst = some t
    · rw [hS e List.mem_cons_self hd]
      cases S' e.i
      · simpa using h
      · simp only [if_true, hd, putT_lookup_eq]
    · have e1 : (if S e.i = true then putT e.o.dst e.r tm else tm).lookup t = tm.lookup t := by
        split
        · exact putT_lookup_ne hd
        · rfl
      have e2 : (if S' e.i = true then putT e.o.dst e.r tm' else tm').lookup t = tm'.lookup t := by
        split
        · exact putT_lookup_ne hd
        · rfl
      rw [e1, e2, h]
theorem foldT_none {t : Nat} {S : Nat → Bool} (evs : List Ev) (tm : List (Nat × SV)) (h : ∀ e ∈ evs, e.o.dst = some t → S e.i = false) : (foldT S tm evs).lookup t = tm.lookup t := by
  have e : ∀ (evs : List Ev) (tm : List (Nat × SV)), foldT (fun _ => false) tm evs = tm := by
    intro evs
    induction evs with
    | nil => intro tm; rfl
    | cons e es ih => intro tm; simp [foldT, ih]
  rw [foldT_lookup (S' := fun _ => false) evs tm tm h rfl, e]
theorem foldH_congr {S S' : Nat → Bool} : ∀ (evs : List Ev) (h : HpT × Nat), (∀ e ∈ evs, e.ld = true → S e.i = S' e.i) → foldH S h evs = foldH S' h evs
  | [], _, _ => rfl
  | e :: es, h, hS => by
    simp only [foldH]
    have : (S e.i && e.ld) = (S' e.i && e.ld) := by
      cases hl : e.ld
      · simp
      · rw [hS e List.mem_cons_self hl]
    rw [this]
    exact foldH_congr es _ fun x hx => hS x (List.mem_cons_of_mem _ hx)
theorem foldH_none {S : Nat → Bool} (evs : List Ev) (h : HpT × Nat) (hS : ∀ e ∈ evs, e.ld = true → S e.i = false) : foldH S h evs = h := by
  have e : ∀ (evs : List Ev) (h : HpT × Nat), foldH (fun _ => false) h evs = h := by
    intro evs
    induction evs with
    | nil => intro h; rfl
    | cons e es ih => intro h; simp [foldH, ih]
  rw [foldH_congr (S' := fun _ => false) evs h hS, e]
theorem RunL.split {st stf : St} : ∀ {pre : List Ev} {post : List Ev}, RunL st (pre ++ post) stf →
    ∃ s, RunL s post stf ∧ s.tm = foldT (fun _ => true) st.tm pre ∧ (s.hp, s.nx) = foldH (fun _ => true) (st.hp, st.nx) pre ∧ s.nt = st.nt ∧ s.df = st.df ∧ s.nb = st.nb
  | [], post, h => ⟨st, h, rfl, rfl, rfl, rfl, rfl⟩
  | e :: pre, post, h => by
    obtain ⟨rfl, hq, h⟩ := h
    obtain ⟨s, h1, h2, h3, h4, h5, h6⟩ := RunL.split h
    refine ⟨s, h1, by simpa [foldT, nextSt] using h2, ?_, h4, h5, h6⟩
    rw [h3]
    simp only [foldH, Bool.true_and]
    cases hl : e.ld
    · obtain ⟨q1, q2⟩ := hq hl
      simp [nextSt, q1, q2]
    · simp [nextSt]
theorem foldH_stable {S : Nat → Bool} {id : Nat} : ∀ {evs : List Ev} {st stf : St}, RunL st evs stf →
    (∀ e ∈ evs, e.ld = true → S e.i = true → e.hp.lookup id = e.st.hp.lookup id) → evs.Pairwise (fun x y => x.ld = true → y.ld = true → S y.i = true → S x.i = true) →
    (foldH S (st.hp, st.nx) evs).1.lookup id = st.hp.lookup id
  | [], st, _, _, _, _ => rfl
  | e :: es, st, stf, hrun, hk, hp => by
    obtain ⟨rfl, hq, hrun⟩ := hrun
    simp only [foldH]
    cases hl : e.ld
    · obtain ⟨q1, q2⟩ := hq hl
      have := foldH_stable hrun (fun x hx => hk x (List.mem_cons_of_mem _ hx)) (List.pairwise_cons.1 hp).2
      simpa [nextSt, q1, q2] using this
    · cases hS : S e.i
      · simp only [Bool.and_true, Bool.false_eq_true, if_false]
        rw [foldH_none es _ fun x hx hxl => by
          cases hSx : S x.i
          · rfl
          · have := (List.pairwise_cons.1 hp).1 x hx hl hxl hSx
            rw [hS] at this
            cases this]
      · simp only [Bool.and_self, if_true]
        have := foldH_stable hrun (fun x hx => hk x (List.mem_cons_of_mem _ hx)) (List.pairwise_cons.1 hp).2
        rw [show (e.hp, e.nx) = ((nextSt e).hp, (nextSt e).nx) from rfl, this]
        exact hk e List.mem_cons_self hl hS
def Bf (m : List Nat) (i j : Nat) : Bool := (m.getD j 0).testBit i
def orE (m : List Nat) : List Edge → Nat
  | [] => 0
  | e :: es => (if Region.binds .any e then 2 ^ e.on ||| m.getD e.on 0 else 0) ||| orE m es
theorem orE_bit {m : List Nat} {j : Nat} : ∀ {es : List Edge}, (orE m es).testBit j = true → ∃ e ∈ es, Region.binds .any e = true ∧ (e.on = j ∨ Bf m j e.on = true)
  | [], h => by simp [orE] at h
  | e :: es, h => by
    simp only [orE, Nat.testBit_or, Bool.or_eq_true] at h
    rcases h with h | h
    · split at h
      · rename_i hb
        simp only [Nat.testBit_or, Bool.or_eq_true, Nat.testBit_two_pow, decide_eq_true_eq] at h
        exact ⟨e, List.mem_cons_self, hb, h⟩
      · simp at h
    · obtain ⟨x, h1, h2⟩ := orE_bit h
      exact ⟨x, List.mem_cons_of_mem _ h1, h2⟩
theorem orE_edge {m : List Nat} {e : Edge} (hb : Region.binds .any e = true) : ∀ {es : List Edge}, e ∈ es → (orE m es).testBit e.on = true
  | [], h => by simp at h
  | x :: es, h => by
    simp only [orE, Nat.testBit_or, Bool.or_eq_true]
    rcases List.mem_cons.1 h with rfl | h
    · left
      rw [if_pos hb]
      simp
    · right; exact orE_edge hb h
structure DOk (ops : Array Oper) (m : List Nat) (evs : List Ev) : Prop where
  get : ∀ e ∈ evs, ops[e.i]? = some e.o
  full : ∀ i, i < ops.size → ∃ e ∈ evs, e.i = i
  nodup : evs.Pairwise (fun x y => x.i ≠ y.i)
  ext : evs.Pairwise (fun x y => Bf m y.i x.i = false)
  apart : evs.Pairwise (fun x y => Bf m x.i y.i = true ∨ x.o.apart ops y.o = true)
  louds : evs.Pairwise (fun x y => x.ld = true → y.ld = true → Bf m x.i y.i = true)
  bef : ∀ q o, ops[q]? = some o → m.getD q 0 = orE m o.after.toList
  back : ∀ q o, ops[q]? = some o → ∀ e ∈ o.after, Region.binds .any e = true → e.on < q
theorem down {ops : Array Oper} {m : List Nat} {evs : List Ev} (h : DOk ops m evs) {S : Nat → Bool} (hS : ∀ i o, S i = true → ops[i]? = some o → ∀ e ∈ o.after, Region.binds .any e = true → S e.on = true) :
    ∀ (q : Nat) (o : Oper), ops[q]? = some o → (∀ e ∈ o.after, Region.binds .any e = true → S e.on = true) → ∀ j, Bf m j q = true → S j = true := by
  intro q
  induction q using Nat.strongRecOn with
  | _ q ih =>
    intro o ho hp j hj
    unfold Bf at hj
    rw [h.bef q o ho] at hj
    obtain ⟨e, he, hb, h1⟩ := orE_bit hj
    have he' : e ∈ o.after := by simpa using he
    have hSe := hp e he' hb
    rcases h1 with rfl | h1
    · exact hSe
    · have hlt := h.back q o ho e he' hb
      have hq : q < ops.size := (Array.getElem?_eq_some_iff.1 ho).1
      have hx : ops[e.on]? = some (ops[e.on]'(by omega)) := Array.getElem?_eq_getElem (by omega)
      exact ih e.on hlt _ hx (hS _ _ hSe hx) j h1
end Go.Sy
