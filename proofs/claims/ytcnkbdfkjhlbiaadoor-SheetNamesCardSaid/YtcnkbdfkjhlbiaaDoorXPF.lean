/- Lemmas, part XPF. Conditions: none. -/
import Derived.Test.YtcnkbdfkjhlbiaaDoorXPE
import Derived.Test.YtcnkbdfkjhlbiaaDoorChecked
import Derived.KernelRfl
import Derived.OrdersIn
set_option linter.unusedVariables false
namespace Go.Proofs.YtcnkbdfkjhlbiaaDoor
open Go.Sy
theorem ty.sz0 : tsz Tryd.prog 0 = some 1 := by kernel_rfl
theorem ty.agg0 : tagg Tryd.prog 0 = some false := by kernel_rfl
theorem ty.elem0 : telem Tryd.prog 0 = none := by kernel_rfl
theorem ty.sz3 : tsz Tryd.prog 3 = some 1 := by kernel_rfl
theorem ty.agg3 : tagg Tryd.prog 3 = some false := by kernel_rfl
theorem ty.zero3 : tzero Tryd.prog 3 = some (SV.d (.lit (.int .i64 0)) :: []) := by kernel_rfl
theorem ty.elem3 : telem Tryd.prog 3 = none := by kernel_rfl
theorem ty.und3 : Tryd.prog.underlying 3 = some (.int .i64) := by kernel_rfl
theorem ty.sz4 : tsz Tryd.prog 4 = some 1 := by kernel_rfl
theorem ty.agg4 : tagg Tryd.prog 4 = some false := by kernel_rfl
theorem ty.zero4 : tzero Tryd.prog 4 = some (SV.d (.lit (.bool false)) :: []) := by kernel_rfl
theorem ty.elem4 : telem Tryd.prog 4 = none := by kernel_rfl
theorem ty.und4 : Tryd.prog.underlying 4 = some (.bool) := by kernel_rfl
theorem ty.sz5 : tsz Tryd.prog 5 = some 1 := by kernel_rfl
theorem ty.agg5 : tagg Tryd.prog 5 = some false := by kernel_rfl
theorem ty.zero5 : tzero Tryd.prog 5 = some (SV.d (.lit (.int .u8 0)) :: []) := by kernel_rfl
theorem ty.elem5 : telem Tryd.prog 5 = none := by kernel_rfl
theorem ty.und5 : Tryd.prog.underlying 5 = some (.int .u8) := by kernel_rfl
theorem ty.sz9 : tsz Tryd.prog 9 = some 1 := by kernel_rfl
theorem ty.agg9 : tagg Tryd.prog 9 = some false := by kernel_rfl
theorem ty.zero9 : tzero Tryd.prog 9 = some (SV.d (.lit (.string ByteArray.empty)) :: []) := by kernel_rfl
theorem ty.elem9 : telem Tryd.prog 9 = none := by kernel_rfl
theorem ty.und9 : Tryd.prog.underlying 9 = some (.string) := by kernel_rfl
theorem ty.sz20 : tsz Tryd.prog 20 = some 1 := by kernel_rfl
theorem ty.agg20 : tagg Tryd.prog 20 = some false := by kernel_rfl
theorem ty.elem20 : telem Tryd.prog 20 = none := by kernel_rfl
theorem ty.sz22 : tsz Tryd.prog 22 = some 1 := by kernel_rfl
theorem ty.agg22 : tagg Tryd.prog 22 = some false := by kernel_rfl
theorem ty.zero22 : tzero Tryd.prog 22 = some (SV.dx [] :: []) := by kernel_rfl
theorem ty.elem22 : telem Tryd.prog 22 = some 5 := by kernel_rfl
theorem ty.by22 : tby Tryd.prog 22 = some 40 := by kernel_rfl
theorem ty.ez22 : tez Tryd.prog 22 = some (SV.d (.lit (.int .i64 0)) :: (SV.d (.lit (.int .i64 0)) :: (SV.d (.lit (.int .i64 0)) :: (SV.d (.lit (.int .i64 0)) :: (SV.d (.lit (.int .i64 0)) :: []))))) := by kernel_rfl
theorem ty.und22 : Tryd.prog.underlying 22 = some (.slice 71) := by kernel_rfl
theorem ty.sz23 : tsz Tryd.prog 23 = some 1 := by kernel_rfl
theorem ty.agg23 : tagg Tryd.prog 23 = some false := by kernel_rfl
theorem ty.zero23 : tzero Tryd.prog 23 = some (SV.dx [] :: []) := by kernel_rfl
theorem ty.elem23 : telem Tryd.prog 23 = some 2 := by kernel_rfl
theorem ty.by23 : tby Tryd.prog 23 = some 16 := by kernel_rfl
theorem ty.ez23 : tez Tryd.prog 23 = some (SV.d (.lit (.int .i64 0)) :: (SV.d (.lit (.int .i64 0)) :: [])) := by kernel_rfl
theorem ty.und23 : Tryd.prog.underlying 23 = some (.slice 73) := by kernel_rfl
theorem ty.sz25 : tsz Tryd.prog 25 = some 2 := by kernel_rfl
theorem ty.agg25 : tagg Tryd.prog 25 = some true := by kernel_rfl
theorem ty.zero25 : tzero Tryd.prog 25 = some (SV.d (.lit (.int .i64 0)) :: (SV.d (.lit (.int .i64 0)) :: [])) := by kernel_rfl
theorem ty.fld25_0 : tfld Tryd.prog 25 0 = some (0, 1) := by kernel_rfl
theorem ty.fld25_1 : tfld Tryd.prog 25 1 = some (1, 1) := by kernel_rfl
theorem ty.pl25 : tplaces Tryd.prog 25 = some (fun i => ([(0, 1), (1, 1)] : List (Nat × Nat))[i]?) := by kernel_rfl
theorem ty.elem25 : telem Tryd.prog 25 = none := by kernel_rfl
theorem ty.sz27 : tsz Tryd.prog 27 = some 7 := by kernel_rfl
theorem ty.agg27 : tagg Tryd.prog 27 = some true := by kernel_rfl
theorem ty.zero27 : tzero Tryd.prog 27 = some (SV.dx [] :: (SV.dx [] :: (SV.dx [] :: (SV.d (.lit (.int .i64 0)) :: (SV.d (.lit (.int .i64 0)) :: (SV.d (.lit (.int .i64 0)) :: (SV.d (.lit (.int .i64 0)) :: []))))))) := by kernel_rfl
theorem ty.fld27_0 : tfld Tryd.prog 27 0 = some (0, 1) := by kernel_rfl
theorem ty.fld27_1 : tfld Tryd.prog 27 1 = some (1, 1) := by kernel_rfl
theorem ty.fld27_2 : tfld Tryd.prog 27 2 = some (2, 1) := by kernel_rfl
theorem ty.fld27_3 : tfld Tryd.prog 27 3 = some (3, 2) := by kernel_rfl
theorem ty.fld27_4 : tfld Tryd.prog 27 4 = some (5, 2) := by kernel_rfl
theorem ty.pl27 : tplaces Tryd.prog 27 = some (fun i => ([(0, 1), (1, 1), (2, 1), (3, 2), (5, 2)] : List (Nat × Nat))[i]?) := by kernel_rfl
theorem ty.elem27 : telem Tryd.prog 27 = none := by kernel_rfl
theorem ty.sz30 : tsz Tryd.prog 30 = some 2 := by kernel_rfl
theorem ty.agg30 : tagg Tryd.prog 30 = some true := by kernel_rfl
theorem ty.zero30 : tzero Tryd.prog 30 = some (SV.d (.lit (.int .i64 0)) :: (SV.d (.lit (.int .i64 0)) :: [])) := by kernel_rfl
theorem ty.fld30_0 : tfld Tryd.prog 30 0 = some (0, 1) := by kernel_rfl
theorem ty.fld30_1 : tfld Tryd.prog 30 1 = some (1, 1) := by kernel_rfl
theorem ty.pl30 : tplaces Tryd.prog 30 = some (fun i => ([(0, 1), (1, 1)] : List (Nat × Nat))[i]?) := by kernel_rfl
theorem ty.elem30 : telem Tryd.prog 30 = none := by kernel_rfl
theorem ty.sz31 : tsz Tryd.prog 31 = some 1 := by kernel_rfl
theorem ty.agg31 : tagg Tryd.prog 31 = some false := by kernel_rfl
theorem ty.zero31 : tzero Tryd.prog 31 = some (SV.d (.lit (.int .i64 0)) :: []) := by kernel_rfl
theorem ty.elem31 : telem Tryd.prog 31 = none := by kernel_rfl
theorem ty.und31 : Tryd.prog.underlying 31 = some (.int .i64) := by kernel_rfl
theorem ty.sz32 : tsz Tryd.prog 32 = some 1 := by kernel_rfl
theorem ty.agg32 : tagg Tryd.prog 32 = some false := by kernel_rfl
theorem ty.elem32 : telem Tryd.prog 32 = none := by kernel_rfl
theorem ty.sz34 : tsz Tryd.prog 34 = some 1 := by kernel_rfl
theorem ty.agg34 : tagg Tryd.prog 34 = some false := by kernel_rfl
theorem ty.zero34 : tzero Tryd.prog 34 = some (SV.dx [] :: []) := by kernel_rfl
theorem ty.elem34 : telem Tryd.prog 34 = some 5 := by kernel_rfl
theorem ty.by34 : tby Tryd.prog 34 = some 40 := by kernel_rfl
theorem ty.ez34 : tez Tryd.prog 34 = some (SV.d (.lit (.int .i64 0)) :: (SV.d (.lit (.int .i64 0)) :: (SV.d (.lit (.int .i64 0)) :: (SV.d (.lit (.int .i64 0)) :: (SV.d (.lit (.int .i64 0)) :: []))))) := by kernel_rfl
theorem ty.und34 : Tryd.prog.underlying 34 = some (.slice 106) := by kernel_rfl
theorem ty.sz35 : tsz Tryd.prog 35 = some 1 := by kernel_rfl
theorem ty.agg35 : tagg Tryd.prog 35 = some false := by kernel_rfl
theorem ty.zero35 : tzero Tryd.prog 35 = some (SV.dx [] :: []) := by kernel_rfl
theorem ty.elem35 : telem Tryd.prog 35 = some 2 := by kernel_rfl
theorem ty.by35 : tby Tryd.prog 35 = some 16 := by kernel_rfl
theorem ty.ez35 : tez Tryd.prog 35 = some (SV.d (.lit (.int .i64 0)) :: (SV.d (.lit (.int .i64 0)) :: [])) := by kernel_rfl
theorem ty.und35 : Tryd.prog.underlying 35 = some (.slice 104) := by kernel_rfl
theorem ty.sz37 : tsz Tryd.prog 37 = some 7 := by kernel_rfl
theorem ty.agg37 : tagg Tryd.prog 37 = some true := by kernel_rfl
theorem ty.zero37 : tzero Tryd.prog 37 = some (SV.dx [] :: (SV.dx [] :: (SV.dx [] :: (SV.d (.lit (.int .i64 0)) :: (SV.d (.lit (.int .i64 0)) :: (SV.d (.lit (.int .i64 0)) :: (SV.d (.lit (.int .i64 0)) :: []))))))) := by kernel_rfl
theorem ty.fld37_0 : tfld Tryd.prog 37 0 = some (0, 1) := by kernel_rfl
theorem ty.fld37_1 : tfld Tryd.prog 37 1 = some (1, 1) := by kernel_rfl
theorem ty.fld37_2 : tfld Tryd.prog 37 2 = some (2, 1) := by kernel_rfl
theorem ty.fld37_3 : tfld Tryd.prog 37 3 = some (3, 2) := by kernel_rfl
theorem ty.fld37_4 : tfld Tryd.prog 37 4 = some (5, 2) := by kernel_rfl
theorem ty.pl37 : tplaces Tryd.prog 37 = some (fun i => ([(0, 1), (1, 1), (2, 1), (3, 2), (5, 2)] : List (Nat × Nat))[i]?) := by kernel_rfl
theorem ty.elem37 : telem Tryd.prog 37 = none := by kernel_rfl
theorem ty.sz39 : tsz Tryd.prog 39 = some 1 := by kernel_rfl
theorem ty.agg39 : tagg Tryd.prog 39 = some false := by kernel_rfl
theorem ty.zero39 : tzero Tryd.prog 39 = some (SV.dx [] :: []) := by kernel_rfl
theorem ty.elem39 : telem Tryd.prog 39 = some 1 := by kernel_rfl
theorem ty.by39 : tby Tryd.prog 39 = some 24 := by kernel_rfl
theorem ty.ez39 : tez Tryd.prog 39 = some (SV.dx [] :: []) := by kernel_rfl
theorem ty.und39 : Tryd.prog.underlying 39 = some (.slice 43) := by kernel_rfl
theorem ty.sz40 : tsz Tryd.prog 40 = some 1 := by kernel_rfl
theorem ty.agg40 : tagg Tryd.prog 40 = some false := by kernel_rfl
theorem ty.elem40 : telem Tryd.prog 40 = none := by kernel_rfl
theorem ty.sz43 : tsz Tryd.prog 43 = some 1 := by kernel_rfl
theorem ty.agg43 : tagg Tryd.prog 43 = some false := by kernel_rfl
theorem ty.zero43 : tzero Tryd.prog 43 = some (SV.dx [] :: []) := by kernel_rfl
theorem ty.elem43 : telem Tryd.prog 43 = some 1 := by kernel_rfl
theorem ty.by43 : tby Tryd.prog 43 = some 8 := by kernel_rfl
theorem ty.ez43 : tez Tryd.prog 43 = some (SV.d (.lit (.int .i64 0)) :: []) := by kernel_rfl
theorem ty.und43 : Tryd.prog.underlying 43 = some (.slice 3) := by kernel_rfl
theorem ty.sz47 : tsz Tryd.prog 47 = some 1 := by kernel_rfl
theorem ty.agg47 : tagg Tryd.prog 47 = some false := by kernel_rfl
theorem ty.elem47 : telem Tryd.prog 47 = none := by kernel_rfl
theorem ty.sz49 : tsz Tryd.prog 49 = some 1 := by kernel_rfl
theorem ty.agg49 : tagg Tryd.prog 49 = some false := by kernel_rfl
theorem ty.zero49 : tzero Tryd.prog 49 = some (SV.d (.lit (.int .u64 0)) :: []) := by kernel_rfl
theorem ty.elem49 : telem Tryd.prog 49 = none := by kernel_rfl
theorem ty.und49 : Tryd.prog.underlying 49 = some (.int .u64) := by kernel_rfl
theorem ty.sz59 : tsz Tryd.prog 59 = some 2 := by kernel_rfl
theorem ty.agg59 : tagg Tryd.prog 59 = some true := by kernel_rfl
theorem ty.zero59 : tzero Tryd.prog 59 = some (SV.dx [] :: (SV.dx [] :: [])) := by kernel_rfl
theorem ty.fld59_0 : tfld Tryd.prog 59 0 = some (0, 1) := by kernel_rfl
theorem ty.fld59_1 : tfld Tryd.prog 59 1 = some (1, 1) := by kernel_rfl
theorem ty.pl59 : tplaces Tryd.prog 59 = some (fun i => ([(0, 1), (1, 1)] : List (Nat × Nat))[i]?) := by kernel_rfl
theorem ty.elem59 : telem Tryd.prog 59 = none := by kernel_rfl
theorem ty.sz61 : tsz Tryd.prog 61 = some 1 := by kernel_rfl
theorem ty.agg61 : tagg Tryd.prog 61 = some false := by kernel_rfl
theorem ty.elem61 : telem Tryd.prog 61 = none := by kernel_rfl
theorem ty.sz71 : tsz Tryd.prog 71 = some 5 := by kernel_rfl
theorem ty.agg71 : tagg Tryd.prog 71 = some true := by kernel_rfl
theorem ty.zero71 : tzero Tryd.prog 71 = some (SV.d (.lit (.int .i64 0)) :: (SV.d (.lit (.int .i64 0)) :: (SV.d (.lit (.int .i64 0)) :: (SV.d (.lit (.int .i64 0)) :: (SV.d (.lit (.int .i64 0)) :: []))))) := by kernel_rfl
theorem ty.fld71_0 : tfld Tryd.prog 71 0 = some (0, 1) := by kernel_rfl
theorem ty.fld71_1 : tfld Tryd.prog 71 1 = some (1, 1) := by kernel_rfl
theorem ty.fld71_2 : tfld Tryd.prog 71 2 = some (2, 1) := by kernel_rfl
theorem ty.fld71_3 : tfld Tryd.prog 71 3 = some (3, 2) := by kernel_rfl
theorem ty.pl71 : tplaces Tryd.prog 71 = some (fun i => ([(0, 1), (1, 1), (2, 1), (3, 2)] : List (Nat × Nat))[i]?) := by kernel_rfl
theorem ty.elem71 : telem Tryd.prog 71 = none := by kernel_rfl
theorem ty.sz73 : tsz Tryd.prog 73 = some 2 := by kernel_rfl
theorem ty.agg73 : tagg Tryd.prog 73 = some true := by kernel_rfl
theorem ty.zero73 : tzero Tryd.prog 73 = some (SV.d (.lit (.int .i64 0)) :: (SV.d (.lit (.int .i64 0)) :: [])) := by kernel_rfl
theorem ty.fld73_0 : tfld Tryd.prog 73 0 = some (0, 1) := by kernel_rfl
theorem ty.fld73_1 : tfld Tryd.prog 73 1 = some (1, 1) := by kernel_rfl
theorem ty.pl73 : tplaces Tryd.prog 73 = some (fun i => ([(0, 1), (1, 1)] : List (Nat × Nat))[i]?) := by kernel_rfl
theorem ty.elem73 : telem Tryd.prog 73 = none := by kernel_rfl
theorem ty.sz104 : tsz Tryd.prog 104 = some 2 := by kernel_rfl
theorem ty.agg104 : tagg Tryd.prog 104 = some true := by kernel_rfl
theorem ty.zero104 : tzero Tryd.prog 104 = some (SV.d (.lit (.int .i64 0)) :: (SV.d (.lit (.int .i64 0)) :: [])) := by kernel_rfl
theorem ty.fld104_0 : tfld Tryd.prog 104 0 = some (0, 1) := by kernel_rfl
theorem ty.fld104_1 : tfld Tryd.prog 104 1 = some (1, 1) := by kernel_rfl
theorem ty.pl104 : tplaces Tryd.prog 104 = some (fun i => ([(0, 1), (1, 1)] : List (Nat × Nat))[i]?) := by kernel_rfl
theorem ty.elem104 : telem Tryd.prog 104 = none := by kernel_rfl
theorem ty.sz106 : tsz Tryd.prog 106 = some 5 := by kernel_rfl
theorem ty.agg106 : tagg Tryd.prog 106 = some true := by kernel_rfl
theorem ty.zero106 : tzero Tryd.prog 106 = some (SV.d (.lit (.int .i64 0)) :: (SV.d (.lit (.int .i64 0)) :: (SV.d (.lit (.int .i64 0)) :: (SV.d (.lit (.int .i64 0)) :: (SV.d (.lit (.int .i64 0)) :: []))))) := by kernel_rfl
theorem ty.fld106_0 : tfld Tryd.prog 106 0 = some (0, 1) := by kernel_rfl
theorem ty.fld106_1 : tfld Tryd.prog 106 1 = some (1, 1) := by kernel_rfl
theorem ty.fld106_2 : tfld Tryd.prog 106 2 = some (2, 1) := by kernel_rfl
theorem ty.fld106_3 : tfld Tryd.prog 106 3 = some (3, 2) := by kernel_rfl
theorem ty.pl106 : tplaces Tryd.prog 106 = some (fun i => ([(0, 1), (1, 1), (2, 1), (3, 2)] : List (Nat × Nat))[i]?) := by kernel_rfl
theorem ty.elem106 : telem Tryd.prog 106 = none := by kernel_rfl
theorem ty.sz108 : tsz Tryd.prog 108 = some 1 := by kernel_rfl
theorem ty.agg108 : tagg Tryd.prog 108 = some false := by kernel_rfl
theorem ty.zero108 : tzero Tryd.prog 108 = some (SV.d (.lit (.pointer none)) :: []) := by kernel_rfl
theorem ty.elem108 : telem Tryd.prog 108 = none := by kernel_rfl
theorem ty.sz109 : tsz Tryd.prog 109 = some 1 := by kernel_rfl
theorem ty.agg109 : tagg Tryd.prog 109 = some false := by kernel_rfl
theorem ty.elem109 : telem Tryd.prog 109 = none := by kernel_rfl
theorem ty.sz114 : tsz Tryd.prog 114 = some 1 := by kernel_rfl
theorem ty.agg114 : tagg Tryd.prog 114 = some false := by kernel_rfl
theorem ty.zero114 : tzero Tryd.prog 114 = some (SV.d (.lit (.int .u64 0)) :: []) := by kernel_rfl
theorem ty.elem114 : telem Tryd.prog 114 = none := by kernel_rfl
theorem ty.und114 : Tryd.prog.underlying 114 = some (.int .u64) := by kernel_rfl
theorem ty.sz120 : tsz Tryd.prog 120 = some 1 := by kernel_rfl
theorem ty.agg120 : tagg Tryd.prog 120 = some false := by kernel_rfl
theorem ty.zero120 : tzero Tryd.prog 120 = some (SV.d (.lit (.map none)) :: []) := by kernel_rfl
theorem ty.elem120 : telem Tryd.prog 120 = none := by kernel_rfl
theorem ty.sz122 : tsz Tryd.prog 122 = some 3 := by kernel_rfl
theorem ty.agg122 : tagg Tryd.prog 122 = some true := by kernel_rfl
theorem ty.zero122 : tzero Tryd.prog 122 = some (SV.dx [] :: (SV.dx [] :: (SV.d (.lit (.map none)) :: []))) := by kernel_rfl
theorem ty.fld122_0 : tfld Tryd.prog 122 0 = some (0, 2) := by kernel_rfl
theorem ty.fld122_1 : tfld Tryd.prog 122 1 = some (2, 1) := by kernel_rfl
theorem ty.pl122 : tplaces Tryd.prog 122 = some (fun i => ([(0, 2), (2, 1)] : List (Nat × Nat))[i]?) := by kernel_rfl
theorem ty.elem122 : telem Tryd.prog 122 = none := by kernel_rfl
theorem ty.sz123 : tsz Tryd.prog 123 = some 1 := by kernel_rfl
theorem ty.agg123 : tagg Tryd.prog 123 = some false := by kernel_rfl
theorem ty.elem123 : telem Tryd.prog 123 = none := by kernel_rfl
theorem ty.sz126 : tsz Tryd.prog 126 = some 3 := by kernel_rfl
theorem ty.agg126 : tagg Tryd.prog 126 = some true := by kernel_rfl
theorem ty.zero126 : tzero Tryd.prog 126 = some (SV.d (.lit (.int .i64 0)) :: (SV.d (.lit (.int .i64 0)) :: (SV.d (.lit (.int .i64 0)) :: []))) := by kernel_rfl
theorem ty.elem126 : telem Tryd.prog 126 = none := by kernel_rfl
theorem ty.arr126 : tarr Tryd.prog 126 = some (3, 1) := by kernel_rfl
theorem ty.und126 : Tryd.prog.underlying 126 = some (.array 3 3) := by kernel_rfl
theorem ty.sz128 : tsz Tryd.prog 128 = some 4 := by kernel_rfl
theorem ty.agg128 : tagg Tryd.prog 128 = some true := by kernel_rfl
theorem ty.zero128 : tzero Tryd.prog 128 = some (SV.d (.lit (.int .i64 0)) :: (SV.d (.lit (.int .i64 0)) :: (SV.d (.lit (.int .i64 0)) :: (SV.d (.lit (.int .i64 0)) :: [])))) := by kernel_rfl
theorem ty.fld128_0 : tfld Tryd.prog 128 0 = some (0, 1) := by kernel_rfl
theorem ty.fld128_1 : tfld Tryd.prog 128 1 = some (1, 3) := by kernel_rfl
theorem ty.pl128 : tplaces Tryd.prog 128 = some (fun i => ([(0, 1), (1, 3)] : List (Nat × Nat))[i]?) := by kernel_rfl
theorem ty.elem128 : telem Tryd.prog 128 = none := by kernel_rfl
theorem ty.sz129 : tsz Tryd.prog 129 = some 1 := by kernel_rfl
theorem ty.agg129 : tagg Tryd.prog 129 = some false := by kernel_rfl
theorem ty.zero129 : tzero Tryd.prog 129 = some (SV.d (.lit (.map none)) :: []) := by kernel_rfl
theorem ty.elem129 : telem Tryd.prog 129 = none := by kernel_rfl
theorem ty.sz130 : tsz Tryd.prog 130 = some 1 := by kernel_rfl
theorem ty.agg130 : tagg Tryd.prog 130 = some false := by kernel_rfl
theorem ty.elem130 : telem Tryd.prog 130 = none := by kernel_rfl
theorem ty.sz135 : tsz Tryd.prog 135 = some 1 := by kernel_rfl
theorem ty.agg135 : tagg Tryd.prog 135 = some false := by kernel_rfl
theorem ty.zero135 : tzero Tryd.prog 135 = some (SV.d (.lit .nilFunc) :: []) := by kernel_rfl
theorem ty.elem135 : telem Tryd.prog 135 = none := by kernel_rfl
theorem ty.sz137 : tsz Tryd.prog 137 = some 1 := by kernel_rfl
theorem ty.agg137 : tagg Tryd.prog 137 = some false := by kernel_rfl
theorem ty.zero137 : tzero Tryd.prog 137 = some (SV.d (.lit .nilFunc) :: []) := by kernel_rfl
theorem ty.elem137 : telem Tryd.prog 137 = none := by kernel_rfl
theorem ty.sz138 : tsz Tryd.prog 138 = some 1 := by kernel_rfl
theorem ty.agg138 : tagg Tryd.prog 138 = some false := by kernel_rfl
theorem ty.zero138 : tzero Tryd.prog 138 = some (SV.d (.lit .nilFunc) :: []) := by kernel_rfl
theorem ty.elem138 : telem Tryd.prog 138 = none := by kernel_rfl
theorem ty.sz140 : tsz Tryd.prog 140 = some 1 := by kernel_rfl
theorem ty.agg140 : tagg Tryd.prog 140 = some false := by kernel_rfl
theorem ty.zero140 : tzero Tryd.prog 140 = some (SV.d (.lit .nilFunc) :: []) := by kernel_rfl
theorem ty.elem140 : telem Tryd.prog 140 = none := by kernel_rfl
theorem ty.sz142 : tsz Tryd.prog 142 = some 1 := by kernel_rfl
theorem ty.agg142 : tagg Tryd.prog 142 = some false := by kernel_rfl
theorem ty.zero142 : tzero Tryd.prog 142 = some (SV.dx [] :: []) := by kernel_rfl
theorem ty.elem142 : telem Tryd.prog 142 = some 1 := by kernel_rfl
theorem ty.by142 : tby Tryd.prog 142 = some 8 := by kernel_rfl
theorem ty.ez142 : tez Tryd.prog 142 = some (SV.d (.lit (.int .u64 0)) :: []) := by kernel_rfl
theorem ty.und142 : Tryd.prog.underlying 142 = some (.slice 114) := by kernel_rfl
theorem ty.sz143 : tsz Tryd.prog 143 = some 1024 := by kernel_rfl
theorem ty.agg143 : tagg Tryd.prog 143 = some true := by kernel_rfl
theorem ty.zero143 : tzero Tryd.prog 143 = some (List.replicate 1024 (SV.d (.lit (.bool false)))) := by kernel_rfl
theorem ty.elem143 : telem Tryd.prog 143 = none := by kernel_rfl
theorem ty.arr143 : tarr Tryd.prog 143 = some (1024, 1) := by kernel_rfl
theorem ty.und143 : Tryd.prog.underlying 143 = some (.array 1024 4) := by kernel_rfl
theorem ty.sz144 : tsz Tryd.prog 144 = some 1024 := by kernel_rfl
theorem ty.agg144 : tagg Tryd.prog 144 = some true := by kernel_rfl
theorem ty.zero144 : tzero Tryd.prog 144 = some (List.replicate 1024 (SV.d (.lit (.int .i64 0)))) := by kernel_rfl
theorem ty.elem144 : telem Tryd.prog 144 = none := by kernel_rfl
theorem ty.arr144 : tarr Tryd.prog 144 = some (1024, 1) := by kernel_rfl
theorem ty.und144 : Tryd.prog.underlying 144 = some (.array 1024 3) := by kernel_rfl
theorem ty.sz146 : tsz Tryd.prog 146 = some 2056 := by kernel_rfl
theorem ty.agg146 : tagg Tryd.prog 146 = some true := by kernel_rfl
theorem ty.zero146 : tzero Tryd.prog 146 = some (SV.dx [] :: (SV.dx [] :: (SV.dx [] :: (SV.d (.lit (.int .i64 0)) :: (SV.d (.lit (.int .i64 0)) :: (SV.d (.lit (.int .i64 0)) :: (SV.d (.lit (.int .i64 0)) :: (SV.dx [] :: (List.replicate 1024 (SV.d (.lit (.bool false))) ++ (List.replicate 1024 (SV.d (.lit (.int .i64 0))))))))))))) := by kernel_rfl
theorem ty.fld146_0 : tfld Tryd.prog 146 0 = some (0, 7) := by kernel_rfl
theorem ty.fld146_1 : tfld Tryd.prog 146 1 = some (7, 1) := by kernel_rfl
theorem ty.fld146_2 : tfld Tryd.prog 146 2 = some (8, 1024) := by kernel_rfl
theorem ty.fld146_3 : tfld Tryd.prog 146 3 = some (1032, 1024) := by kernel_rfl
theorem ty.pl146 : tplaces Tryd.prog 146 = some (fun i => ([(0, 7), (7, 1), (8, 1024), (1032, 1024)] : List (Nat × Nat))[i]?) := by kernel_rfl
theorem ty.elem146 : telem Tryd.prog 146 = none := by kernel_rfl
theorem ty.sz147 : tsz Tryd.prog 147 = some 1 := by kernel_rfl
theorem ty.agg147 : tagg Tryd.prog 147 = some false := by kernel_rfl
theorem ty.zero147 : tzero Tryd.prog 147 = some (SV.d (.lit .nilFunc) :: []) := by kernel_rfl
theorem ty.elem147 : telem Tryd.prog 147 = none := by kernel_rfl
theorem ty.sz153 : tsz Tryd.prog 153 = some 1 := by kernel_rfl
theorem ty.agg153 : tagg Tryd.prog 153 = some false := by kernel_rfl
theorem ty.zero153 : tzero Tryd.prog 153 = some (SV.d (.lit .nilFunc) :: []) := by kernel_rfl
theorem ty.elem153 : telem Tryd.prog 153 = none := by kernel_rfl
theorem ty.sz154 : tsz Tryd.prog 154 = some 1 := by kernel_rfl
theorem ty.agg154 : tagg Tryd.prog 154 = some false := by kernel_rfl
theorem ty.zero154 : tzero Tryd.prog 154 = some (SV.d (.lit .nilFunc) :: []) := by kernel_rfl
theorem ty.elem154 : telem Tryd.prog 154 = none := by kernel_rfl
theorem ty.sz159 : tsz Tryd.prog 159 = some 1 := by kernel_rfl
theorem ty.agg159 : tagg Tryd.prog 159 = some false := by kernel_rfl
theorem ty.zero159 : tzero Tryd.prog 159 = some (SV.d (.lit .nilFunc) :: []) := by kernel_rfl
theorem ty.elem159 : telem Tryd.prog 159 = none := by kernel_rfl
theorem ty.sz161 : tsz Tryd.prog 161 = some 1 := by kernel_rfl
theorem ty.agg161 : tagg Tryd.prog 161 = some true := by kernel_rfl
theorem ty.zero161 : tzero Tryd.prog 161 = some (SV.d (.lit .nilFunc) :: []) := by kernel_rfl
theorem ty.fld161_0 : tfld Tryd.prog 161 0 = some (0, 1) := by kernel_rfl
theorem ty.pl161 : tplaces Tryd.prog 161 = some (fun i => ([(0, 1)] : List (Nat × Nat))[i]?) := by kernel_rfl
theorem ty.elem161 : telem Tryd.prog 161 = none := by kernel_rfl
theorem ty.sz165 : tsz Tryd.prog 165 = some 1 := by kernel_rfl
theorem ty.agg165 : tagg Tryd.prog 165 = some false := by kernel_rfl
theorem ty.elem165 : telem Tryd.prog 165 = none := by kernel_rfl
theorem ty.sz171 : tsz Tryd.prog 171 = some 1 := by kernel_rfl
theorem ty.agg171 : tagg Tryd.prog 171 = some false := by kernel_rfl
theorem ty.zero171 : tzero Tryd.prog 171 = some (SV.d (.lit (.int .u32 0)) :: []) := by kernel_rfl
theorem ty.elem171 : telem Tryd.prog 171 = none := by kernel_rfl
theorem ty.und171 : Tryd.prog.underlying 171 = some (.int .u32) := by kernel_rfl
theorem ty.sz173 : tsz Tryd.prog 173 = some 1 := by kernel_rfl
theorem ty.agg173 : tagg Tryd.prog 173 = some false := by kernel_rfl
theorem ty.zero173 : tzero Tryd.prog 173 = some (SV.d (.lit (.int .u64 0)) :: []) := by kernel_rfl
theorem ty.elem173 : telem Tryd.prog 173 = none := by kernel_rfl
theorem ty.und173 : Tryd.prog.underlying 173 = some (.int .u64) := by kernel_rfl
theorem ty.sz174 : tsz Tryd.prog 174 = some 1 := by kernel_rfl
theorem ty.agg174 : tagg Tryd.prog 174 = some false := by kernel_rfl
theorem ty.zero174 : tzero Tryd.prog 174 = some (SV.d (.lit .nilFunc) :: []) := by kernel_rfl
theorem ty.elem174 : telem Tryd.prog 174 = none := by kernel_rfl
theorem ty.sz181 : tsz Tryd.prog 181 = some 64 := by kernel_rfl
theorem ty.agg181 : tagg Tryd.prog 181 = some true := by kernel_rfl
theorem ty.zero181 : tzero Tryd.prog 181 = some (List.replicate 64 (SV.d (.lit (.int .u8 0)))) := by kernel_rfl
theorem ty.elem181 : telem Tryd.prog 181 = none := by kernel_rfl
theorem ty.arr181 : tarr Tryd.prog 181 = some (64, 1) := by kernel_rfl
theorem ty.und181 : Tryd.prog.underlying 181 = some (.array 64 5) := by kernel_rfl
end Go.Proofs.YtcnkbdfkjhlbiaaDoor
namespace Go.Sy
def keepT : List Nat → List (Nat × SV) → List (Nat × SV)
  | [], _ => []
  | k :: ks, tm => match tm.lookup k with
    | some s => (k, s) :: keepT ks tm
    | none => keepT ks tm
theorem keepT_lookup {tm : List (Nat × SV)} {t : Nat} {s : SV} : ∀ {ks : List Nat}, (keepT ks tm).lookup t = some s → tm.lookup t = some s
  | [], h => by simp [keepT] at h
  | k :: ks, h => by
    unfold keepT at h
    split at h
    · rename_i s' hs
      simp only [List.lookup_cons] at h
      split at h
      · rename_i he
        have : t = k := by simpa using he
        subst this
        rw [hs]; exact h
      · exact keepT_lookup h
    · exact keepT_lookup h
def St.keep (ks : List Nat) (s : St) : St := ⟨keepT ks s.tm, s.hp, s.nx, s.nt, s.df, s.nb⟩
section
variable {P : Program} {G : Nat → Option (List D)} {ro : Option Nat} {st st' : St} {Q : Exit → St → Prop}
theorem Imp.weak {tm' : List (Nat × SV)} {hp' : HpT} {nx' : Nat} (ht : ∀ t s, tm'.lookup t = some s → st.tm.lookup t = some s) (hh : hp'.Sublist st.hp) (hn : st.nx ≤ nx') : Imp st ⟨tm', hp', nx', st.nt, st.df, st.nb⟩ := by
  intro G O M pb pl a w hR
  obtain ⟨h1, h2⟩ := hR.hs.sub hh
  refine ⟨pl, ⟨{ h1 with fresh := fun id hid => h1.fresh id (by simp only at hid; omega) }, fun t s h => ?_, hR.nt, hR.df, hR.bd⟩, fun B hB => ?_⟩
  · exact (hR.tm t s (ht t s h)).ext h2.ext fun _ _ h => h
  · obtain ⟨p, h1, r⟩ := hB
    exact ⟨p, hh.subset h1, r⟩
theorem Imp.keep (ks : List Nat) : Imp st (st.keep ks) := Imp.weak (fun _ _ h => keepT_lookup h) (List.Sublist.refl _) (Nat.le_refl _)
theorem Tr.post {c : Code} (h : Tr P G ro c st fun x s => ∃ s', Imp s s' ∧ Q x s') : Tr P G ro c st Q := by
  intro O M pb pl a w hR
  refine wpIn_mono (h O M pb pl a w hR) ?_
  rintro x a' w' ⟨pl', s, ⟨s', hi, hq⟩, hR', hst⟩
  obtain ⟨pl₂, hR₂, hown⟩ := hi G O M pb pl' a' w' hR'
  exact ⟨pl₂, s', hq, hR₂, hst.trans (Step.less w' hown)⟩
theorem Tr.reg {id : Nat} {ops : Array Oper} {y : Code} (ks : List Nat) {st' : St} (h : xA P G ops.toList ops.toList st fun s => s.keep ks = st') (hy : Tr P G ro y st' Q) : Tr P G ro (.seq (.region id ops false) y) st Q := by
  refine Tr.seq ((Tr.region (Q := fun x s => match x with | .normal => s.keep ks = st' | _ => False) h).mono ?_)
  intro x s hx
  cases x with
  | normal => exact Tr.imp (hx ▸ Imp.keep ks) hy
  | _ => exact hx.elim
theorem Tr.reg1 {id : Nat} {ops : Array Oper} (ks : List Nat) {st' : St} (h : xA P G ops.toList ops.toList st fun s => s.keep ks = st') (hq : Q .normal st') : Tr P G ro (.region id ops false) st Q := by
  refine Tr.post ((Tr.region (Q := fun x s => match x with | .normal => s.keep ks = st' | _ => False) h).mono ?_)
  intro x s hx
  cases x with
  | normal => exact ⟨st', hx ▸ Imp.keep ks, hq⟩
  | _ => exact hx.elim
theorem CallP.body {f : FuncId} {fn : Func} {c : Code} {args : List SV} {r : SV} (nt : Nat) (rvs : List ResultVar) (hf : P.funcs[f]? = some fn) (hok : okFn P f = true) (hb : fn.body = some c) (hnt : max args.length fn.ntmps = nt) (hrv : fn.results.toList = rvs) (hargs : ∀ s ∈ args, Pure s) (hr : Pure r)
    (h : Tr P G none c ⟨argTm 0 args, [], 0, nt, [], 0⟩ fun x st => (x = .normal ∨ x = .ret) ∧ Res P rvs st r) :
    CallP P G f args r := by
  subst hnt hrv
  exact CallP.of_body hf hb hok hargs hr h
end
end Go.Sy
namespace Go.Sy
def zK (o : Oper) (ρ : Operand → SV) : Option Nat :=
  match o.op with
  | .load _ x => match ρ x with | .ptr id _ _ => some id | _ => none
  | _ => none
def quietKind (o : Oper) : Bool :=
  match o.op with
  | .move _ | .assign _ | .pick .. | .binOp .. | .unOp .. | .convert .. | .extract .. | .makeFunc .. | .nilCheck _ | .fieldAddr .. | .field .. | .indexAddr .. | .slice .. | .load .. | .build .. | .buildSlice .. => true
  | .call ⟨.value _, _, _⟩ => true
  | .call ⟨.builtin .len, _, _⟩ => true
  | .call ⟨.builtin .max, _, _⟩ => true
  | .call ⟨.builtin .min, _, _⟩ => true
  | _ => false
def callV (o : Oper) : Bool := match o.op with | .call ⟨.value _, _, _⟩ => true | .next .. => true | _ => false
abbrev Det (r : SV) (hp : HpT) (nx : Nat) : KT := fun a b c => a = r ∧ b = hp ∧ c = nx
section
variable {P : Program} {G : Nat → Option (List D)} {hp hp' hp2 : HpT} {nx nx' nx2 : Nat}
theorem v1 {op : BinOp} {k : IntKind} {a b : Int} {K : SV → Prop} (h : y9 op k a b K) : ∃ r, K r ∧ y9 op k a b (· = r) := by
  cases op <;> simp only [y9] at h ⊢ <;> first
    | exact h.elim
    | exact ⟨_, h, rfl⟩
    | exact ⟨_, h.2, h.1, rfl⟩
theorem v2 {op : BinOp} {t : TypeId} {x y : SV} {K : SV → Prop} (h : xM P op t x y K) : ∃ r, K r ∧ xM P op t x y (· = r) := by
  unfold xM at h ⊢
  split at h
  · split at h
    · exact ⟨_, h.2, h.1, rfl⟩
    · exact ⟨_, h.2, h.1, rfl⟩
    · obtain ⟨r, h1, h2⟩ := v1 h.2
      exact ⟨r, h1, h.1, h2⟩
  · obtain ⟨h1, h⟩ := h
    split at h
    · exact ⟨_, h, h1, rfl⟩
    · exact ⟨_, h, h1, rfl⟩
    · exact h.elim
  · obtain ⟨aS0, bs, h1, h2, h3, h4, h⟩ := h
    split at h
    · exact ⟨_, h, aS0, bs, h1, h2, h3, h4, rfl⟩
    · exact ⟨_, h, aS0, bs, h1, h2, h3, h4, rfl⟩
    · exact h.elim
  · exact h.elim
theorem v6 {op : UnOp} {x : SV} {K : SV → Prop} (h : zL op x K) : ∃ r, K r ∧ zL op x (· = r) := by
  unfold zL at h ⊢
  split at h <;> first | exact ⟨_, h, rfl⟩ | exact h.elim
theorem vM {s t : TypeId} {x : SV} {K : SV → Prop} (h : xB P s t x K) : ∃ r, K r ∧ xB P s t x (· = r) := by
  unfold xB at h ⊢
  split at h
  · obtain ⟨k, h1, h2, h⟩ := h; exact ⟨_, h, k, h1, h2, rfl⟩
  · exact h.elim
theorem vN {c a b : SV} {K : SV → Prop} (h : zH c a b K) : ∃ r, K r ∧ zH c a b (· = r) := by
  unfold zH at h ⊢
  split at h <;> first | exact ⟨_, h, rfl⟩ | exact ⟨_, h.2, h.1, rfl⟩ | exact h.elim
theorem wP {x : SV} {i : Nat} {K : SV → Prop} (h : zN x i K) : ∃ r, K r ∧ zN x i (· = r) := by
  unfold zN at h ⊢
  split at h <;> first | exact ⟨_, h.2, h.1, rfl⟩ | exact h.elim
theorem v3 {x : SV} {K : SV → Prop} (h : zV x K) : ∃ r, K r ∧ zV x (· = r) := by
  unfold zV at h ⊢
  split at h <;> first | exact ⟨_, h, rfl⟩ | exact h.elim
theorem wE {t : TypeId} {x : SV} {f : Nat} {K : SV → Prop} (h : zA P t x f K) : ∃ r, K r ∧ zA P t x f (· = r) := by
  unfold zA at h ⊢
  split at h
  · obtain ⟨h1, h⟩ := h
    split at h <;> first | exact ⟨_, h, h1, rfl⟩ | exact h.elim
  · exact h.elim
theorem vB {t : TypeId} {x : SV} {f : Nat} {K : SV → Prop} (h : z7 P t x f K) : ∃ r, K r ∧ z7 P t x f (· = r) := by
  unfold z7 at h ⊢
  split at h
  · split at h
    · split at h <;> first | exact ⟨_, h.2, h.1, rfl⟩ | exact h.elim
    · exact h.elim
  · exact h.elim
theorem wF {t : TypeId} {x i : SV} {K : SV → Prop} (h : yW P t x i K) : ∃ r, K r ∧ yW P t x i (· = r) := by
  unfold yW at h ⊢
  split at h
  · split at h
    · split at h
      · exact ⟨_, h.2.2.2, h.1, h.2.1, h.2.2.1, rfl⟩
      · exact ⟨_, h.2.2.2, h.1, h.2.1, h.2.2.1, rfl⟩
      · exact ⟨_, h.2.2.2, h.1, h.2.1, h.2.2.1, rfl⟩
      · exact h.elim
    · split at h
      · obtain ⟨h1, h2, h⟩ := h
        split at h <;> first | exact ⟨_, h, h1, h2, rfl⟩ | exact h.elim
      · exact h.elim
  · exact h.elim
theorem vO {t : TypeId} {x : SV} {K : SV → Prop} (h : zD P t x hp K) : ∃ r, K r ∧ zD P t x hp (· = r) := by
  unfold zD at h ⊢
  split at h
  · split at h
    · split at h
      · obtain ⟨h1, h⟩ := h
        split at h
        · exact ⟨_, h.2, h1, h.1, rfl⟩
        · exact ⟨_, h.2, h1, h.1, rfl⟩
      · exact h.elim
    · split at h
      · exact ⟨_, h.2, h.1, rfl⟩
      · exact ⟨_, h.2, h.1, rfl⟩
    · split at h
      · exact ⟨_, h.2, h.1, rfl⟩
      · exact ⟨_, h.2, h.1, rfl⟩
    · exact h.elim
  · exact h.elim
theorem v4 {t : TypeId} {x : SV} {K : SV → Prop} (h : zJ P t x K) : ∃ r, K r ∧ zJ P t x (· = r) := by
  unfold zJ at h ⊢
  split at h <;> first | exact ⟨_, h, rfl⟩ | exact h.elim
theorem wI {sz : Nat} {es : List (List D)} {b : Option (Int × Int × Option Int)} {K : SV → Prop} (h : xQ sz es b K) : ∃ r, K r ∧ xQ sz es b (· = r) := by
  unfold xQ at h ⊢
  obtain ⟨h0, h⟩ := h
  split at h
  · exact ⟨_, h.2.2.2, h0, h.1, h.2.1, h.2.2.1, rfl⟩
  · exact ⟨_, h.2.2.2.2, h0, h.1, h.2.1, h.2.2.1, h.2.2.2.1, rfl⟩
  · exact h.elim
theorem vC {t : TypeId} {x : SV} {lo hi mx : Option SV} {K : SV → Prop} (h : yC P t x lo hi mx K) : ∃ r, K r ∧ yC P t x lo hi mx (· = r) := by
  unfold yC at h ⊢
  split at h
  · split at h
    · obtain ⟨h0, h⟩ := h
      split at h
      · obtain ⟨h1, h2, h3, h⟩ := h
        split at h
        · rename_i hc
          exact ⟨_, h, h0, h1, h2, h3, by rw [if_pos hc]⟩
        · rename_i hc
          exact ⟨_, h, h0, h1, h2, h3, by rw [if_neg hc]⟩
      · exact ⟨_, h.2.2.2.2.2, h0, h.1, h.2.1, h.2.2.1, h.2.2.2.1, h.2.2.2.2.1, rfl⟩
      · exact h.elim
    · exact wI h
    · exact wI h
    · exact h.elim
  · exact h.elim
theorem vD {mx : Bool} {xs : List SV} {K : SV → Prop} (h : wA mx xs K) : ∃ r, K r ∧ wA mx xs (· = r) := by
  unfold wA at h ⊢
  split at h
  · exact ⟨_, h.2, h.1, rfl⟩
  · exact h.elim
theorem vE {t : TypeId} {ps : List (Nat × SV)} {K : SV → Prop} (h : zO P t ps K) : ∃ r, K r ∧ zO P t ps (· = r) := by
  unfold zO at h ⊢
  split at h
  · split at h
    · exact ⟨_, h, rfl⟩
    · exact h.elim
  · exact h.elim
theorem wB {t : TypeId} {len : Nat} {ps : List (Nat × SV)} {K : KT} (h : zG P t len ps hp nx K) : ∃ r hp' nx', K r hp' nx' ∧ zG P t len ps hp nx (Det r hp' nx') := by
  unfold zG at h ⊢
  split at h
  · obtain ⟨h1, h2, h3, h4, h5, h⟩ := h
    split at h
    · exact ⟨_, _, _, h, h1, h2, h3, h4, h5, rfl, rfl, rfl⟩
    · split at h
      · exact ⟨_, _, _, h, h1, h2, h3, h4, h5, rfl, rfl, rfl⟩
      · exact ⟨_, _, _, h, h1, h2, h3, h4, h5, rfl, rfl, rfl⟩
  · exact h.elim
theorem v5 {v : SV} {K : KT} (h : zI v hp nx K) : ∃ r hp' nx', K r hp' nx' ∧ zI v hp nx (Det r hp' nx') := by
  unfold zI at h ⊢
  exact ⟨_, _, _, h.2.2, h.1, h.2.1, rfl, rfl, rfl⟩
theorem vF {t : TypeId} {K : KT} (h : zM P t hp nx K) : ∃ r hp' nx', K r hp' nx' ∧ zM P t hp nx (Det r hp' nx') := by
  unfold zM at h ⊢
  split at h
  · exact ⟨_, _, _, h.2, h.1, rfl, rfl, rfl⟩
  · exact h.elim
theorem vG {t : TypeId} {x v : SV} {K : HpT → Prop} (h : xN P t x v hp K) : ∃ hp', K hp' ∧ xN P t x v hp (· = hp') := by
  unfold xN at h ⊢
  split at h
  · split at h
    · exact ⟨_, h.2.2.2.2.2, h.1, h.2.1, h.2.2.1, h.2.2.2.1, h.2.2.2.2.1, rfl⟩
    · exact h.elim
  · exact h.elim
theorem wG {t : TypeId} {l c : SV} {K : KT} (h : yZ P t l c hp nx K) : ∃ r hp' nx', K r hp' nx' ∧ yZ P t l c hp nx (Det r hp' nx') := by
  unfold yZ at h ⊢
  split at h
  · split at h
    · exact ⟨_, _, _, h.2.2.2.2.2.2, h.1, h.2.1, h.2.2.1, h.2.2.2.1, h.2.2.2.2.1, h.2.2.2.2.2.1, rfl, rfl, rfl⟩
    · exact h.elim
  · exact h.elim
theorem wV {t t' : TypeId} {s x : SV} {K : KT} (h : zQ P t t' s x hp nx K) : ∃ r hp' nx', K r hp' nx' ∧ zQ P t t' s x hp nx (Det r hp' nx') := by
  unfold zQ at h ⊢
  split at h
  · obtain ⟨h1, h2, h⟩ := h
    split at h
    · obtain ⟨h3, h⟩ := h
      split at h
      · exact ⟨_, _, _, h.2.2.2.2, h1, h2, h3, h.1, h.2.1, h.2.2.1, h.2.2.2.1, rfl, rfl, rfl⟩
      · obtain ⟨h4, h⟩ := h
        split at h
        · split at h
          · rename_i hc
            refine ⟨_, _, _, h.2.2, h1, h2, h3, h4, ?_⟩
            rw [if_pos hc]
            exact ⟨h.1, h.2.1, rfl, rfl, rfl⟩
          · rename_i hc
            refine ⟨_, _, _, h.2.2, h1, h2, h3, h4, ?_⟩
            rw [if_neg hc]
            exact ⟨h.1, h.2.1, rfl, rfl, rfl⟩
        · exact h.elim
      · exact h.elim
    · exact h.elim
  · exact h.elim
theorem vH {t : TypeId} {x : SV} {K : HpT → Prop} (h : yM P t x hp K) : ∃ hp', K hp' ∧ yM P t x hp (· = hp') := by
  unfold yM at h ⊢
  split at h
  · obtain ⟨h0, h⟩ := h
    split at h
    · obtain ⟨h1, h⟩ := h
      split at h
      · obtain ⟨h2, h⟩ := h
        rename_i hl
        exact ⟨_, h, h0, h1, by simp only; exact ⟨h2, trivial⟩⟩
      · exact h.elim
    · exact h.elim
  · exact h.elim
theorem wW {t : TypeId} {x k : SV} {b : Bool} {K : SV → Prop} (h : z0 P t x k b hp K) : ∃ r, K r ∧ z0 P t x k b hp (· = r) := by
  unfold z0 at h ⊢
  split at h
  · obtain ⟨h1, h⟩ := h
    cases b
    · exact ⟨_, h, h1, rfl⟩
    · exact ⟨_, h, h1, rfl⟩
  · exact h.elim
theorem xW {t : TypeId} {m k v : SV} {K : HpT → Prop} (h : zR P t m k v hp K) : ∃ hp', K hp' ∧ zR P t m k v hp (· = hp') := by
  unfold zR at h ⊢
  split at h
  · split at h
    · rename_i hk _ es hl
      exact ⟨_, h.2, by simp only; exact ⟨h.1, trivial⟩⟩
    · exact h.elim
  · exact h.elim
theorem vI {t : TypeId} {x : SV} {K : KT} (h : x4 P t x hp nx K) : ∃ r hp' nx', K r hp' nx' ∧ x4 P t x hp nx (Det r hp' nx') := by
  obtain ⟨h0, h⟩ := h
  split at h
  · exact ⟨_, _, _, h, h0, rfl, rfl, rfl⟩
  · exact h.elim
theorem vJ {x : SV} {K : SV → Prop} (h : xL x hp K) : ∃ r, K r ∧ xL x hp (· = r) := by
  unfold xL at h ⊢
  split at h
  · split at h
    · obtain ⟨k, s, e, hk, h⟩ := h
      rename_i hl
      exact ⟨_, h, k, s, e, hk, rfl⟩
    · exact h.elim
  · exact h.elim
theorem detEq (r : SV) (hp : HpT) (nx : Nat) : (fun a => Det r hp nx a hp nx) = (· = r) := by
  funext a; simp [Det]
theorem lift {p : (SV → Prop) → Prop} {K : KT} (h : ∃ r, K r hp nx ∧ p (· = r)) : ∃ r hp' nx', K r hp' nx' ∧ p (fun a => Det r hp' nx' a hp nx) := by
  obtain ⟨r, h1, h2⟩ := h
  refine ⟨r, hp, nx, h1, ?_⟩
  rw [detEq]; exact h2
theorem vP {c : Call} {ρ : Operand → SV} {K : KT} (hv : ∀ f, c.callee ≠ .value f) (h : zB P G c ρ hp nx K) : ∃ r hp' nx', K r hp' nx' ∧ zB P G c ρ hp nx (Det r hp' nx') := by
  unfold zB at h ⊢
  split at h
  · rename_i f hf; exact absurd hf (hv f)
  · split at h
    · obtain ⟨hp', h1, h2⟩ := vH h
      refine ⟨_, _, _, h1, ?_⟩
      have e : (fun h => Det SV.unk hp' nx SV.unk h nx) = (· = hp') := by funext a; simp [Det]
      rw [e]; exact h2
    · exact h.elim
  · split at h
    · exact lift (p := zJ P _ _) (v4 h)
    · exact h.elim
  · split at h
    · exact wV h
    · exact h.elim
  · exact lift (p := wA _ _) (vD h)
  · exact lift (p := wA _ _) (vD h)
  · exact h.elim
theorem exq_det {o : Oper} {ρ : Operand → SV} {K : KT} (hv : callV o = false) (h : exq P G o ρ hp nx K) : ∃ r hp' nx', K r hp' nx' ∧ exq P G o ρ hp nx (Det r hp' nx') := by
  obtain ⟨dst, op, type, pos, after, guard⟩ := o
  unfold exq at h ⊢
  cases op <;> simp only at h ⊢ <;> try exact h.elim
  case move x => exact ⟨_, _, _, h, rfl, rfl, rfl⟩
  case assign x => exact ⟨_, _, _, h, rfl, rfl, rfl⟩
  case pick c a b => exact lift (p := zH _ _ _) (vN h)
  case binOp op t a b t' => exact lift (p := xM P _ _ _ _) (v2 h)
  case unOp op t a => exact lift (p := zL _ _) (v6 h)
  case convert s t x => exact lift (p := xB P _ _ _) (vM h)
  case extract x i => exact lift (p := zN _ _) (wP h)
  case makeFunc fn a b => exact ⟨_, _, _, h, rfl, rfl, rfl⟩
  case nilCheck x => exact lift (p := zV _) (v3 h)
  case fieldAddr t x f => exact lift (p := zA P _ _ _) (wE h)
  case field t x f => exact lift (p := z7 P _ _ _) (vB h)
  case indexAddr t x i => exact lift (p := yW P _ _ _) (wF h)
  case slice t x a b c => exact lift (p := yC P _ _ _ _ _) (vC h)
  case load t x => exact lift (p := zD P _ _ hp) (vO h)
  case store t x v =>
    obtain ⟨hp', h1, h2⟩ := vG h
    refine ⟨_, _, _, h1, ?_⟩
    have e : (fun h => Det SV.unk hp' nx SV.unk h nx) = (· = hp') := by funext a; simp [Det]
    rw [e]; exact h2
  case alloc t => exact vF h
  case box t v => exact v5 h
  case build t ps => exact lift (p := zO P _ _) (vE h)
  case buildSlice t n ps => exact wB h
  case makeSlice t a b => exact wG h
  case makeMap t r =>
    cases r with
    | none => exact ⟨_, _, _, h, rfl, rfl, rfl⟩
    | some x => exact h.elim
  case lookup t x i b => exact lift (p := z0 P _ _ _ _ hp) (wW h)
  case mapUpdate t m k v =>
    obtain ⟨hp', h1, h2⟩ := xW h
    refine ⟨_, _, _, h1, ?_⟩
    have e : (fun h => Det SV.unk hp' nx SV.unk h nx) = (· = hp') := by funext a; simp [Det]
    rw [e]; exact h2
  case insert t m k v =>
    obtain ⟨hp', h1, h2⟩ := xW h
    refine ⟨_, _, _, h1, ?_⟩
    have e : (fun h => Det SV.unk hp' nx SV.unk h nx) = (· = hp') := by funext a; simp [Det]
    rw [e]; exact h2
  case range t x => exact vI h
  case next x b => simp [callV] at hv
  case entry x => exact lift (p := xL _ hp) (vJ h)
  case call c =>
    obtain ⟨callee, args, ats⟩ := c
    refine vP (fun f hf => ?_) h
    simp only at hf
    subst hf
    simp [callV] at hv
theorem cons_ne_self (x : Nat × Obj) (l : HpT) : x :: l ≠ l := fun h => by
  have := congrArg List.length h
  simp at this
theorem vK {t : TypeId} {x : SV} {K : SV → Prop} (h : zD P t x hp K) (hr : ∀ id i j, x = .ptr id i j → hp2.lookup id = hp.lookup id) : zD P t x hp2 K := by
  unfold zD at h ⊢
  split at h
  · split at h
    · rename_i id i j
      simp only [hr id i j rfl]
      exact h
    · exact h
    · exact h
    · exact h.elim
  · exact h.elim
theorem quiet_stable {o : Oper} {ρ : Operand → SV} {r : SV} (hk : quietKind o = true) (hv : callV o = false) (h : exq P G o ρ hp nx (Det r hp nx)) (hr : ∀ id, zK o ρ = some id → hp2.lookup id = hp.lookup id) :
    exq P G o ρ hp2 nx2 (Det r hp2 nx2) := by
  obtain ⟨dst, op, type, pos, after, guard⟩ := o
  unfold exq at h ⊢
  cases op <;> simp only at h ⊢ <;> try exact h.elim
  case move x => exact ⟨h.1, rfl, rfl⟩
  case assign x => exact ⟨h.1, rfl, rfl⟩
  case makeFunc fn a b => exact ⟨h.1, rfl, rfl⟩
  case store => simp [quietKind] at hk
  case alloc => simp [quietKind] at hk
  case box => simp [quietKind] at hk
  case makeSlice => simp [quietKind] at hk
  case makeMap => simp [quietKind] at hk
  case lookup => simp [quietKind] at hk
  case mapUpdate => simp [quietKind] at hk
  case insert => simp [quietKind] at hk
  case range => simp [quietKind] at hk
  case next => simp [quietKind] at hk
  case entry => simp [quietKind] at hk
  case load t x =>
    rw [detEq] at h ⊢
    refine vK h fun id i j hx => hr id ?_
    simp only [zK, hx]
  case buildSlice t n ps =>
    unfold zG at h ⊢
    split at h
    · obtain ⟨h1, h2, h3, h4, h5, h⟩ := h
      refine ⟨h1, h2, h3, h4, h5, ?_⟩
      split at h
      · exact ⟨h.1, rfl, rfl⟩
      · split at h
        · exact ⟨h.1, rfl, rfl⟩
        · exact absurd h.2.1 (cons_ne_self _ _)
    · exact h.elim
  case call c =>
    obtain ⟨callee, args, ats⟩ := c
    cases callee with
    | value f => simp [callV] at hv
    | invoke => simp [quietKind] at hk
    | builtin b =>
      cases b <;> first | (simp [quietKind] at hk; done) | skip
      all_goals
        unfold zB at h ⊢
        simp only at h ⊢
        first
        | (rw [detEq] at h ⊢; exact h)
        | (split at h
           · rw [detEq] at h ⊢; exact h
           · exact h.elim)
  all_goals (rw [detEq] at h ⊢; exact h)
theorem mapL {ρ ρ' : Operand → SV} {l : Array Operand} (h : ∀ x ∈ l, ρ x = ρ' x) : l.toList.map ρ = l.toList.map ρ' :=
  List.map_congr_left fun x hx => h x (by simpa using hx)
theorem wX {c : Call} {ρ ρ' : Operand → SV} {K : KT} (h : ∀ x ∈ c.operands, ρ x = ρ' x) : zB P G c ρ hp nx K = zB P G c ρ' hp nx K := by
  obtain ⟨callee, args, ats⟩ := c
  have ha : args.toList.map ρ = args.toList.map ρ' := mapL fun x hx => h x (by simp [Call.operands, hx])
  have hb : ∀ x ∈ args.toList, ρ x = ρ' x := fun x hx => h x (by
    have : x ∈ args := by simpa using hx
    simp [Call.operands, this])
  unfold zB
  cases callee with
  | value f =>
    have hf : ρ f = ρ' f := h f (by simp [Call.operands])
    simp only [hf, ha]
  | invoke r m => rfl
  | builtin b =>
    cases b <;> simp only [ha]
    all_goals
      generalize hl : args.toList = l at hb
      split
      · first
        | (rename_i s x h1; simp only [hb s List.mem_cons_self, hb x (by simp)]; done)
        | (rename_i x h1; simp only [hb x List.mem_cons_self])
      · rfl
theorem exq_congr {o : Oper} {ρ ρ' : Operand → SV} {K : KT} (h : ∀ x ∈ o.op.operands, ρ x = ρ' x) : exq P G o ρ hp nx K = exq P G o ρ' hp nx K := by
  obtain ⟨dst, op, type, pos, after, guard⟩ := o
  have pairs : ∀ ps : Array (Nat × Operand), (∀ x ∈ (ps.toList.map (·.2)).toArray, ρ x = ρ' x) → (ps.toList.map fun p => (p.1, ρ p.2)) = (ps.toList.map fun p => (p.1, ρ' p.2)) := fun ps hp =>
    List.map_congr_left fun p hm => by
      rw [hp p.2 (by simpa using ⟨p.1, by simpa using hm⟩)]
  unfold exq
  cases op <;> simp only [Op.operands] at h <;> simp only
  case call c => exact wX h
  case build t ps => rw [pairs ps h]
  case buildSlice t n ps => rw [pairs ps h]
  case makeFunc fn a b => rw [mapL (l := a) fun x hx => h x (by simp [hx]), mapL (l := b) fun x hx => h x (by simp [hx])]
  case slice t x lo hi mx => cases lo <;> cases hi <;> cases mx <;> simp_all
  case makeMap t r => cases r <;> rfl
  case next x b => cases b <;> simp_all
  all_goals (first | rfl | (simp_all; done))
end
end Go.Sy
namespace Go.Sy
def exP (P : Program) (G : Nat → Option (List D)) (o : Oper) (ρ : Operand → SV) (hp : HpT) (nx : Nat) (r : SV) (hp' : HpT) (nx' : Nat) : Prop :=
  match o.op with
  | .call ⟨.value f, args, _⟩ => (match ρ f with | .clo (.func fid) first cap => CallP P G fid (first ++ args.toList.map ρ ++ cap) r | _ => False) ∧ hp' = hp ∧ nx' = nx
  | _ => exq P G o ρ hp nx (Det r hp' nx')
def EvAt (P : Program) (G : Nat → Option (List D)) (ops : Array Oper) (ld : Bool) (o : Oper) (st : St) (r : SV) (hp' : HpT) (nx' : Nat) : Prop :=
  dstOk o.dst st.nt ∧ match o.guard with
  | none => match ld with
    | true => exq P G o (ev G st.tm) st.hp st.nx (Det r hp' nx')
    | false => exP P G o (ev G st.tm) st.hp st.nx r hp' nx'
  | some (j, want) => ∃ g b r0, (ops[j]?).bind (·.dst) = some g ∧ gcond ((st.tm.lookup g).getD .unk) want = some b ∧ r = .whn b r0 ∧ hp' = st.hp ∧ nx' = st.nx ∧
      (b = true → exP P G o (fun x => gstrip (ev G st.tm x)) st.hp st.nx r0 st.hp st.nx)
def rdEv (G : Nat → Option (List D)) (o : Oper) (st : St) : Option Nat :=
  match o.guard with
  | none => zK o (ev G st.tm)
  | some _ => zK o (fun x => gstrip (ev G st.tm x))
section
variable {P : Program} {G : Nat → Option (List D)} {ro : Option Nat} {M : Nat} {O : Nat → Prop} {pb pl pl' : Nat → Option Pl} {w w' : World} {hp hp' hp2 : HpT} {nx nx' nx2 : Nat} {ops : Array Oper}
theorem vU {o : Oper} {ρ : Operand → SV} {r : SV} (h : exP P G o ρ hp nx r hp' nx') : exq P G o ρ hp nx (Det r hp' nx') := by
  unfold exP at h
  split at h
  · rename_i f args ats ho
    obtain ⟨h, rfl, rfl⟩ := h
    unfold exq
    rw [ho]
    simp only [zB]
    split at h
    · rename_i fid first cap hf
      simp only [hf]
      exact h.use ⟨rfl, rfl, rfl⟩
    · exact h.elim
  · exact h
theorem x5 {o : Oper} {ρ : Operand → SV} {r : SV} (hv : callV o = false) : exP P G o ρ hp nx r hp' nx' = exq P G o ρ hp nx (Det r hp' nx') := by
  unfold exP
  split
  · rename_i f args ats ho
    unfold callV at hv
    rw [ho] at hv
    simp at hv
  · rfl
theorem wJ {o : Oper} {ρ : Operand → SV} {r : SV} (hk : quietKind o = true) (h : exP P G o ρ hp nx r hp nx) (hr : ∀ id, zK o ρ = some id → hp2.lookup id = hp.lookup id) :
    exP P G o ρ hp2 nx2 r hp2 nx2 := by
  cases hv : callV o with
  | false =>
    rw [x5 hv] at h ⊢
    exact quiet_stable hk hv h hr
  | true =>
    unfold exP at h ⊢
    split at h
    · exact ⟨h.1, rfl, rfl⟩
    · rename_i hno
      unfold callV at hv
      split at hv
      · exact absurd ‹_› (hno _ _ _)
      · rename_i ho
        unfold quietKind at hk
        rw [ho] at hk
        simp at hk
      · cases hv
theorem wC {o : Oper} {ρ ρ' : Operand → SV} {r : SV} (h : ∀ x ∈ o.op.operands, ρ x = ρ' x) : exP P G o ρ hp nx r hp' nx' = exP P G o ρ' hp nx r hp' nx' := by
  unfold exP
  split
  · rename_i f args ats ho
    rw [ho] at h
    have hf : ρ f = ρ' f := h f (by simp [Op.operands, Call.operands])
    have ha : args.toList.map ρ = args.toList.map ρ' := mapL fun x hx => h x (by simp [Op.operands, Call.operands, hx])
    simp only [hf, ha]
  · exact exq_congr h
theorem ev_look {o : Oper} {tm tm' : List (Nat × SV)} (h : ∀ t ∈ o.looksAt ops, tm.lookup t = tm'.lookup t) : ∀ x ∈ o.op.operands, ev G tm x = ev G tm' x := by
  intro x hx
  cases x with
  | tmp t =>
    simp only [ev]
    rw [h t (List.mem_append_left _ (List.mem_filterMap.2 ⟨.tmp t, by simpa using hx, rfl⟩))]
  | _ => rfl
theorem EvAt.move {ld : Bool} {o : Oper} {st st' : St} {r : SV} (h : EvAt P G ops ld o st r hp' nx') (hl : ∀ t ∈ o.looksAt ops, st'.tm.lookup t = st.tm.lookup t) (hn : st'.nt = st.nt)
    (hh : (st'.hp = st.hp ∧ st'.nx = st.nx ∧ hp2 = hp' ∧ nx2 = nx') ∨ (ld = false ∧ quietKind o = true ∧ hp' = st.hp ∧ nx' = st.nx ∧ hp2 = st'.hp ∧ nx2 = st'.nx ∧ ∀ id, rdEv G o st = some id → st'.hp.lookup id = st.hp.lookup id)) :
    EvAt P G ops ld o st' r hp2 nx2 := by
  obtain ⟨hd, h⟩ := h
  refine ⟨by rw [hn]; exact hd, ?_⟩
  have hops := ev_look (G := G) hl
  cases hg : o.guard with
  | none =>
    rw [hg] at h
    simp only at h ⊢
    rcases hh with ⟨e1, e2, rfl, rfl⟩ | ⟨rfl, hk, rfl, rfl, rfl, rfl, hr⟩
    · cases ld
      · simp only at h ⊢
        rw [wC hops, e1, e2]; exact h
      · simp only at h ⊢
        rw [exq_congr hops, e1, e2]; exact h
    · simp only at h ⊢
      rw [wC hops]
      exact wJ hk h fun id hid => hr id (by simp only [rdEv, hg]; exact hid)
  | some jw =>
    obtain ⟨j, want⟩ := jw
    rw [hg] at h
    simp only at h ⊢
    obtain ⟨g, b, r0, h1, h2, h3, h4, h5, h6⟩ := h
    have hgl : st'.tm.lookup g = st.tm.lookup g := hl g (by simp [Oper.looksAt, hg, h1])
    have hops' : ∀ x ∈ o.op.operands, gstrip (ev G st'.tm x) = gstrip (ev G st.tm x) := fun x hx => by rw [hops x hx]
    refine ⟨g, b, r0, h1, by rw [hgl]; exact h2, h3, ?_, ?_, fun hb => ?_⟩
    · rcases hh with ⟨e1, e2, rfl, rfl⟩ | ⟨_, hk, e1, e2, rfl, rfl, hr⟩
      · rw [h4, e1]
      · rfl
    · rcases hh with ⟨e1, e2, rfl, rfl⟩ | ⟨_, hk, e1, e2, rfl, rfl, hr⟩
      · rw [h5, e2]
      · rfl
    · rw [wC (ρ' := fun x => gstrip (ev G st.tm x)) hops']
      rcases hh with ⟨e1, e2, _, _⟩ | ⟨_, hk, _, _, _, _, hr⟩
      · rw [e1, e2]; exact h6 hb
      · exact wJ hk (h6 hb) fun id hid => hr id (by simp only [rdEv, hg]; exact hid)
theorem EvAt.sound {ld : Bool} {i : Nat} {o : Oper} {st : St} {r : SV} {a : Act} {K : Act → World → Prop} {Q : Exit → Act → World → Prop} (hi : ops[i]? = some o) (h : EvAt P G ops ld o st r hp' nx') (hR : R G O M pb pl st a w)
    (hK : ∀ pl' a' w', R G O M pb pl' ⟨putT o.dst r st.tm, hp', nx', st.nt, st.df, st.nb⟩ a' w' → Step (ownOf pl st.hp) (ownOf pl' hp') w w' → K a' w') : wpOpIn (Fw ro) 0 P ops Q i K a w := by
  unfold wpOpIn
  simp only [hi]
  obtain ⟨hd, h⟩ := h
  have hev := ev_sound hR.hs hR.tm
  cases hg : o.guard with
  | none =>
    rw [hg] at h
    simp only at h
    have hw : Region.wanted o (yielded ops a.tmps) = true := by simp [Region.wanted, hg]
    rw [if_pos hw]
    have h' : exq P G o (ev G st.tm) st.hp st.nx (Det r hp' nx') := by
      cases ld
      · exact vU h
      · exact h
    refine (exq_sound hR.hs hev h').wpIn (exq_defer h') ?_
    rintro v w' ⟨pl', r', hp2, nx2, ⟨rfl, rfl, rfl⟩, hs', hv, hst, hpl⟩
    exact hK pl' _ w' (hR.put hd hs' hst hpl hv) hst
  | some jw =>
    obtain ⟨j, want⟩ := jw
    rw [hg] at h
    simp only at h
    obtain ⟨g, b, r0, h1, h2, rfl, rfl, rfl, h6⟩ := h
    have hgv : SR pl (okOf (Ox O a) pl st.hp) w ((st.tm.lookup g).getD .unk) (a.tmps.getD g undef) := by
      have := hev (.tmp g)
      simpa [ev, Act.eval] using this
    have hgs := gcond_sound hgv h2
    have hwanted : Region.wanted o (yielded ops a.tmps) = b := by
      have hy : yielded ops a.tmps j = bval (a.tmps.getD g undef) := by
        unfold yielded
        rw [h1]
        simp only [Option.bind_some, Array.getD_eq_getD_getElem?]
        cases a.tmps[g]? with
        | none => simp [undef, bval]
        | some v => cases v <;> rfl
      simp only [Region.wanted, hg, hy]
      cases hbb : b
      · cases hv : (bval (a.tmps.getD g undef) == some want)
        · rfl
        · rw [hgs.1 hv] at hbb; cases hbb
      · exact hgs.2 hbb
    rw [hwanted]
    cases b
    · simp only [Bool.false_eq_true, if_false]
      refine ⟨fun _ _ => trivial, ?_⟩
      exact hK pl _ w (hR.put hd hR.hs (.refl _ _) (fun _ _ h => h) (.whn false r0 undef (fun h => by cases h) (fun _ => rfl))) (.refl _ _)
    · simp only [if_true]
      have hex' := vU (h6 rfl)
      refine (exq_sound hR.hs (fun x => gstrip_sound (hev x)) hex').wpIn (exq_defer hex') ?_
      rintro v w' ⟨pl', r', hp', nx', ⟨rfl, rfl, rfl⟩, hs', hv, hst, hpl⟩
      exact hK pl' _ w' (hR.put hd hs' hst hpl (.whn true _ v (fun _ => hv) (fun h => by cases h))) hst
end
end Go.Sy
