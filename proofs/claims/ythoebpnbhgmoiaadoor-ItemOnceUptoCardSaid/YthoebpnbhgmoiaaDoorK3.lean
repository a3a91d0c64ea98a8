/-
  Code of functions in the plain world.
-/
import Derived.Test.YthoebpnbhgmoiaaDoorProg
import Derived.Test.YthoebpnbhgmoiaaDoorA20
import Derived.KernelRfl
import Derived.Test.YthoebpnbhgmoiaaDoorK2
namespace Go.Proofs.YthoebpnbhgmoiaaDoor
open Go.RowKit
set_option maxRecDepth 100000
set_option linter.unusedVariables false
set_option linter.unusedSimpArgs false
def c3 : Cd := .seq (.ops [oM 3 (.box 26 (.t 1)), oM 4 (.mv kF)] [0, 3]) (.seq (.seq (.ops [oV 9 0, oM 10 (.call 4 [.t 9]), oM 11 (.un .not (.t 10)), oV 12 11, ⟨some 13, .load 4 true (.t 3), (some (12, false))⟩,
 ⟨some 14, .call 5 [.t 13], (some (12, false))⟩, ⟨some 15, .un .not (.t 14), (some (12, false))⟩, oM 16 (.pick (.t 12) kT (.t 15))] [0, 3, 16]) (.cond (.t 16) (.seq (.ops [oM 17 (.call 6 []), oV 4 17] [4]) (
 .ret)) (.skip))) (.seq (.ops [oV 19 0, oM 20 (.load 4 true (.t 3)), oM 21 (.call 7 [.t 19, .t 20]), oV 18 21, oM 22 (.ext (.t 18) 0), oM 23 (.ext (.t 18) 1), oV 5 22, oV 6 23] [3, 5, 6]) (.seq (.seq (
 .ops [oV 24 6, oM 25 (.bin .neq (.t 24) (kI 0)), oV 26 25, ⟨some 27, .mv (.t 5), (some (26, false))⟩, ⟨some 28, .call 8 [.t 27], (some (26, false))⟩, ⟨some 29, .bin .gtr (.t 28) (kI 64), (some (26, false))⟩,
 oM 30 (.pick (.t 26) kT (.t 29))] [3, 5, 6, 30]) (.cond (.t 30) (.seq (.ops [oV 31 6, oM 32 (.bin .eql (.t 31) (kI 0)), oV 33 32, ⟨some 34, .mv (.t 5), (some (33, false))⟩, ⟨some 35, .len false (.t 34), (some (33, false))⟩,
 ⟨some 36, .bin .eql (.t 35) (kI 0), (some (33, false))⟩, oM 37 (.pick (.t 33) kT (.t 36)), oV 38 37, ⟨some 39, .call 6 [], (some (38, true))⟩, oM 40 (.pick (.t 38) (.t 39) kF), oV 4 40] [4]) (.ret)) (
 .skip))) (.seq (.ops [oV 42 5, oM 43 (.load 4 true (.t 3)), oM 44 (.call 7 [.t 42, .t 43]), oV 41 44, oM 45 (.ext (.t 41) 0), oM 46 (.ext (.t 41) 1), oV 7 45, oV 8 46] [3, 5, 7, 8]) (.seq (.ops [oV 47 5,
 oM 48 (.load 4 true (.t 3)), oM 49 (.call 9 [.t 47, .t 48]), oM 50 (.bin .eql (.t 49) (kI 0)), oV 51 50, ⟨some 52, .mv (.t 8), (some (51, true))⟩, ⟨some 53, .bin .eql (.t 52) (kI 0), (some (51, true))⟩,
 oM 54 (.pick (.t 51) (.t 53) kF), oV 55 54, ⟨some 56, .mv (.t 7), (some (55, true))⟩, ⟨some 57, .mv (.t 5), (some (55, true))⟩, ⟨some 58, .call 10 [.t 56, .t 57], (some (55, true))⟩, oM 59 (.pick (.t 55) (.t 58) kF),
 oV 60 59, ⟨some 61, .call 6 [], (some (60, true))⟩, oM 62 (.pick (.t 60) (.t 61) kF), oV 4 62] [4]) (.ret))))))
def rs3 : List RV := [.t 4 false]
theorem k3 : okFn G.tab Tryd.f3 2 c3 rs3 = true := by kernel_rfl
def c4 : Cd := .seq (.ops [oM 2 (.mv kF)] [0]) (.seq (.ops [oV 3 0, oM 4 (.call 11 [.t 3, .k (.d (.lit (.int .i64 70)))]), oM 5 (.bin .leq (.t 4) (kI 70)), oV 2 5] [2]) (.ret))
def rs4 : List RV := [.t 2 false]
theorem k4 : okFn G.tab Tryd.f4 1 c4 rs4 = true := by kernel_rfl
def c11 : Cd := .seq (.ops [oM 4 (.mv (kI 0))] [0, 1]) (.seq (.ops [oV 8 0, oM 9 (.len false (.t 8)), oV 5 9] [0, 1, 5]) (.seq (.seq (.ops [oM 6 (.mv (kI 0))] [0, 1, 5, 6]) (.block 0 (.loop (.seq (.seq (
 .ops [oV 10 6, oV 11 0, oM 12 (.len false (.t 11)), oM 13 (.bin .lss (.t 10) (.t 12)), oV 14 13, ⟨some 15, .mv (.t 5), (some (14, true))⟩, ⟨some 16, .mv (.t 1), (some (14, true))⟩, ⟨some 17, .bin .leq (.t 15) (.t 16), (some (14, true))⟩,
 oM 18 (.pick (.t 14) (.t 17) kF)] [0, 1, 5, 6, 18]) (.cond (.t 18) (.skip) (.exit 0))) (.seq (.block 1 (.seq (.ops [oV 21 0, oV 22 6, oM 23 (.ia 12 (.t 21) (.t 22)), oM 24 (.load 12 true (.t 23)), oM 7 (.new 47 [.d (.lit (.int .i64 0)), .d (.lit (.int .i64 0)), .d (.lit (.int .i64 0)), .d (.lit (.string ⟨#[]⟩)), .nil, .d (.lit (.string ⟨#[]⟩)), .d (.lit (.string ⟨#[]⟩)), .nil, .nil, .nil, .nil, .nil]),
 ⟨none, .sto 12 (.t 7) (.t 24), none⟩] [0, 1, 5, 6, 7]) (.seq (.seq (.ops [oM 25 (.fa 1 (.t 7)), oM 26 (.load 4 true (.t 25)), oM 27 (.call 25 [.t 26, .k (.d (.lit (.int .i64 60)))]), oM 28 (.un .not (.t 27)),
 oV 29 28, ⟨some 30, .fa 7 (.t 7), (some (29, false))⟩, ⟨some 31, .load 1 false (.t 30), (some (29, false))⟩, ⟨some 32, .len false (.t 31), (some (29, false))⟩, ⟨some 33, .bin .gtr (.t 32) (kI 20), (some (29, false))⟩,
 oM 34 (.pick (.t 29) kT (.t 33)), oV 35 34, ⟨some 36, .fa 10 (.t 7), (some (35, false))⟩, ⟨some 37, .load 1 false (.t 36), (some (35, false))⟩, ⟨some 38, .len false (.t 37), (some (35, false))⟩, ⟨some 39, .bin .gtr (.t 38) (kI 20), (some (35, false))⟩,
 oM 40 (.pick (.t 35) kT (.t 39)), oV 41 40, ⟨some 42, .fa 11 (.t 7), (some (41, false))⟩, ⟨some 43, .load 1 false (.t 42), (some (41, false))⟩, ⟨some 44, .len false (.t 43), (some (41, false))⟩, ⟨some 45, .bin .gtr (.t 44) (kI 20), (some (41, false))⟩,
 oM 46 (.pick (.t 41) kT (.t 45)), oV 47 46, ⟨some 48, .fa 5 (.t 7), (some (47, false))⟩, ⟨some 49, .load 1 false (.t 48), (some (47, false))⟩, ⟨some 50, .len true (.t 49), (some (47, false))⟩, ⟨some 51, .bin .gtr (.t 50) (kI 40), (some (47, false))⟩,
 oM 52 (.pick (.t 47) kT (.t 51)), oV 53 52, ⟨some 54, .fa 6 (.t 7), (some (53, false))⟩, ⟨some 55, .load 1 false (.t 54), (some (53, false))⟩, ⟨some 56, .len true (.t 55), (some (53, false))⟩, ⟨some 57, .bin .gtr (.t 56) (kI 40), (some (53, false))⟩,
 oM 58 (.pick (.t 53) kT (.t 57))] [0, 1, 5, 6, 7, 58]) (.cond (.t 58) (.seq (.ops [oV 59 1, oM 60 (.bin .add (.t 59) (kI 1)), oV 4 60] [4]) (.ret)) (.skip))) (.draw [oV 61 5, oM 62 (.fa 8 (.t 7)), oM 63 (.load 1 false (.t 62)),
 oV 64 1, oV 65 5, oM 66 (.bin .sub (.t 64) (.t 65)), oM 67 (.call 11 [.t 63, .t 66]), oM 68 (.bin .add (.t 61) (.t 67)), oM 69 (.fa 9 (.t 7)), oM 70 (.load 1 false (.t 69)), oV 71 1, oV 72 5, oM 73 (.bin .sub (.t 71) (.t 72)),
 oM 74 (.call 11 [.t 70, .t 73]), oM 75 (.bin .add (.t 68) (.t 74)), oV 5 75] [0, 1, 5, 6])))) (.ops [oV 19 6, oM 20 (.bin .add (.t 19) (kI 1)), oV 6 20] [0, 1, 5, 6])))))) (.seq (.ops [oV 76 5, oV 4 76] [4]) (
 .ret))))
def rs11 : List RV := [.t 4 false]
theorem k11 : okFn G.tab Tryd.f11 2 c11 rs11 = true := by kernel_rfl
def c5 : Cd := .seq (.ops [oM 1 (.box 26 (.t 0)), oM 2 (.mv kF)] [1]) (.seq (.seq (.ops [oM 5 (.fa 2 (.t 1)), oM 6 (.load 1 false (.t 5)), oM 7 (.len false (.t 6)), oM 8 (.bin .gtr (.t 7) (kI 20))] [1, 8]) (
 .cond (.t 8) (.seq (.ops [oM 2 (.mv kF)] [2]) (.ret)) (.skip))) (.seq (.seq (.ops [oM 3 (.mv (kI 0))] [1, 3]) (.block 0 (.loop (.seq (.seq (.ops [oV 9 3, oM 10 (.fa 2 (.t 1)), oM 11 (.load 1 false (.t 10)),
 oM 12 (.len false (.t 11)), oM 13 (.bin .lss (.t 9) (.t 12))] [1, 3, 13]) (.cond (.t 13) (.skip) (.exit 0))) (.seq (.block 1 (.seq (.seq (.ops [oM 16 (.fa 2 (.t 1)), oM 17 (.load 1 false (.t 16)), oV 18 3,
 oM 19 (.ia 5 (.t 17) (.t 18)), oM 20 (.fa 2 (.t 19)), oM 21 (.load 1 false (.t 20)), oM 22 (.bin .lss (.t 21) (kI 0)), oV 23 22, ⟨some 24, .fa 2 (.t 1), (some (23, false))⟩, ⟨some 25, .load 1 false (.t 24), (some (23, false))⟩,
 ⟨some 26, .mv (.t 3), (some (23, false))⟩, ⟨some 27, .ia 5 (.t 25) (.t 26), (some (23, false))⟩, ⟨some 28, .fa 2 (.t 27), (some (23, false))⟩, ⟨some 29, .load 1 false (.t 28), (some (23, false))⟩, ⟨some 30, .bin .gtr (.t 29) (kI 8), (some (23, false))⟩,
 oM 31 (.pick (.t 23) kT (.t 30)), oV 32 31, ⟨some 33, .fa 2 (.t 1), (some (32, false))⟩, ⟨some 34, .load 1 false (.t 33), (some (32, false))⟩, ⟨some 35, .mv (.t 3), (some (32, false))⟩, ⟨some 36, .ia 5 (.t 34) (.t 35), (some (32, false))⟩,
 ⟨some 37, .fa 0 (.t 36), (some (32, false))⟩, ⟨some 38, .load 1 false (.t 37), (some (32, false))⟩, ⟨some 39, .call 12 [.t 38], (some (32, false))⟩, ⟨some 40, .un .not (.t 39), (some (32, false))⟩, oM 41 (.pick (.t 32) kT (.t 40))] [1, 3, 41]) (
 .cond (.t 41) (.seq (.ops [oM 2 (.mv kF)] [2]) (.ret)) (.skip))) (.seq (.ops [oM 4 (.mv (kI 0))] [1, 3, 4]) (.block 2 (.loop (.seq (.seq (.ops [oV 42 4, oV 43 3, oM 44 (.bin .lss (.t 42) (.t 43))] [1, 3, 4, 44]) (
 .cond (.t 44) (.skip) (.exit 2))) (.seq (.block 3 (.seq (.draw [oM 47 (.fa 2 (.t 1)), oM 48 (.load 1 false (.t 47)), oV 49 4, oM 50 (.ia 5 (.t 48) (.t 49)), oM 51 (.fa 0 (.t 50)), oM 52 (.load 1 false (.t 51)),
 oM 53 (.fa 2 (.t 1)), oM 54 (.load 1 false (.t 53)), oV 55 3, oM 56 (.ia 5 (.t 54) (.t 55)), oM 57 (.fa 0 (.t 56)), oM 58 (.load 1 false (.t 57)), oM 59 (.bin .eql (.t 52) (.t 58))] [1, 3, 4, 59]) (
 .cond (.t 59) (.seq (.ops [oM 2 (.mv kF)] [2]) (.ret)) (.skip)))) (.ops [oV 45 4, oM 46 (.bin .add (.t 45) (kI 1)), oV 4 46] [1, 3, 4])))))))) (.ops [oV 14 3, oM 15 (.bin .add (.t 14) (kI 1)), oV 3 15] [1, 3])))))) (
 .seq (.ops [oM 2 (.mv kT)] [2]) (.ret))))
def rs5 : List RV := [.t 2 false]
theorem k5 : okFn G.tab Tryd.f5 1 c5 rs5 = true := by kernel_rfl
def c6 : Cd := .seq (.ops [oM 0 (.mv kF)] []) (.seq (.ops [oM 7 (.bld [.d (.lit (.int .i64 0)), .d (.lit (.int .i64 0)), .d (.lit (.string ⟨#[]⟩)), .nil] [(0, 1, .k (.d (.lit (.int .i64 2)))), (2, 1, .k (.d (.lit (.string ⟨#[105]⟩))))]),
 oM 8 (.mks 43 4 [.t 7]), oM 9 (.bld [.d (.lit (.int .i64 0)), .d (.lit (.int .i64 0)), .d (.lit (.string ⟨#[]⟩)), .nil] [(0, 1, .k (.d (.lit (.int .i64 3)))), (2, 1, .k (.d (.lit (.string ⟨#[100]⟩)))), (3, 1, .t 8)]),
 oM 10 (.bld [.d (.lit (.int .i64 0)), .d (.lit (.int .i64 0)), .d (.lit (.string ⟨#[]⟩)), .nil] [(0, 1, .k (.d (.lit (.int .i64 1)))), (1, 1, .k (.d (.lit (.int .i64 3))))]), oM 11 (.mks 43 4 [.t 9, .t 10]),
 oM 12 (.bld [.d (.lit (.int .i64 0)), .d (.lit (.int .i64 0)), .d (.lit (.string ⟨#[]⟩)), .nil] [(0, 1, .k (.d (.lit (.int .i64 17)))), (3, 1, .t 11)]), oM 1 (.new 43 [.d (.lit (.int .i64 0)), .d (.lit (.int .i64 0)), .d (.lit (.string ⟨#[]⟩)), .nil]),
 ⟨none, .sto 4 (.t 1) (.t 12), none⟩] [1]) (.seq (.ops [oM 13 (.load 4 true (.t 1)), oM 14 (.bld [.d (.lit (.int .i64 0)), .d (.lit (.int .i64 0)), .d (.lit (.int .i64 0)), .d (.lit (.string ⟨#[]⟩)), .nil, .d (.lit (.string ⟨#[]⟩)), .d (.lit (.string ⟨#[]⟩)), .nil, .nil, .nil, .nil, .nil] [(0, 1, .k (.d (.lit (.int .i64 1)))), (1, 4, .t 13)]),
 oM 15 (.mks 47 12 [.t 14]), oM 16 (.bld [.d (.lit (.int .i64 0)), .d (.lit (.int .i64 0)), .d (.lit (.int .i64 0)), .d (.lit (.string ⟨#[]⟩)), .nil, .d (.lit (.string ⟨#[]⟩)), .d (.lit (.string ⟨#[]⟩)), .nil, .nil, .nil, .nil, .nil] [(0, 1, .k (.d (.lit (.int .i64 5)))), (5, 1, .k (.d (.lit (.string ⟨#[100]⟩)))), (6, 1, .k (.d (.lit (.string ⟨#[105]⟩)))), (8, 1, .t 15)]),
 oM 17 (.mks 47 12 [.t 16]), oV 2 17] [2]) (.seq (.ops [oV 19 2, oM 20 (.call 13 []), oM 21 (.call 7 [.t 19, .t 20]), oV 18 21, oM 22 (.ext (.t 18) 0), oM 23 (.ext (.t 18) 1), oV 3 22, oV 4 23] [2, 3, 4]) (
 .seq (.ops [oM 25 (.bld [.d (.lit (.int .i64 0)), .d (.lit (.int .i64 0)), .d (.lit (.string ⟨#[]⟩)), .nil] [(0, 1, .k (.d (.lit (.int .i64 24)))), (2, 1, .k (.d (.lit (.string ⟨#[100]⟩))))]), oM 26 (.call 13 []),
 oM 27 (.call 14 [.t 25, .t 26]), oV 24 27, oM 28 (.ext (.t 24) 0), oM 29 (.ext (.t 24) 1), oM 5 (.new 43 [.d (.lit (.int .i64 0)), .d (.lit (.int .i64 0)), .d (.lit (.string ⟨#[]⟩)), .nil]), ⟨none, .sto 4 (.t 5) (.t 28), none⟩,
 oV 6 29] [2, 3, 4, 5, 6]) (.seq (.ops [oV 30 2, oM 31 (.call 13 []), oM 32 (.call 9 [.t 30, .t 31]), oM 33 (.bin .eql (.t 32) (kI 0)), oV 34 33, ⟨some 35, .mv (.t 4), (some (34, true))⟩, ⟨some 36, .bin .eql (.t 35) (kI 0), (some (34, true))⟩,
 oM 37 (.pick (.t 34) (.t 36) kF), oV 38 37, ⟨some 39, .mv (.t 3), (some (38, true))⟩, ⟨some 40, .len false (.t 39), (some (38, true))⟩, ⟨some 41, .bin .eql (.t 40) (kI 2), (some (38, true))⟩, oM 42 (.pick (.t 38) (.t 41) kF),
 oV 43 42, ⟨some 44, .mv (.t 3), (some (43, true))⟩, ⟨some 45, .ia 12 (.t 44) (kI 1), (some (43, true))⟩, ⟨some 46, .fa 0 (.t 45), (some (43, true))⟩, ⟨some 47, .load 1 false (.t 46), (some (43, true))⟩,
 ⟨some 48, .bin .eql (.t 47) (kI 1), (some (43, true))⟩, oM 49 (.pick (.t 43) (.t 48) kF), oV 50 49, ⟨some 51, .mv (.t 6), (some (50, true))⟩, ⟨some 52, .bin .eql (.t 51) (kI 0), (some (50, true))⟩, oM 53 (.pick (.t 50) (.t 52) kF),
 oV 54 53, ⟨some 55, .fa 0 (.t 5), (some (54, true))⟩, ⟨some 56, .load 1 false (.t 55), (some (54, true))⟩, ⟨some 57, .bin .eql (.t 56) (kI 7), (some (54, true))⟩, oM 58 (.pick (.t 54) (.t 57) kF), oV 59 58,
 ⟨some 60, .mv (.t 2), (some (59, true))⟩, ⟨some 61, .call 15 [.t 60], (some (59, true))⟩, ⟨some 62, .bin .eql (.t 61) (kI 2), (some (59, true))⟩, oM 63 (.pick (.t 59) (.t 62) kF), oV 0 63] [0]) (.ret))))))
def rs6 : List RV := [.t 0 false]
theorem k6 : okFn G.tab Tryd.f6 0 c6 rs6 = true := by kernel_rfl
def c13 : Cd := .seq (.ops [oM 0 (.new 26 [.d (.lit (.string ⟨#[]⟩)), .d (.lit (.string ⟨#[]⟩)), .nil, .nil])] [0]) (.seq (.ops [oM 1 (.bld [.d (.lit (.string ⟨#[]⟩)), .d (.lit (.int .i64 0)), .d (.lit (.int .i64 0)), .d (.lit (.int .i64 0)), .d (.lit (.int .i64 0))] [(0, 1, .k (.d (.lit (.string ⟨#[97]⟩)))), (1, 1, .k (.d (.lit (.int .i64 2)))), (3, 1, .k (.d (.lit (.int .i64 1))))]),
 oM 2 (.bld [.d (.lit (.string ⟨#[]⟩)), .d (.lit (.int .i64 0)), .d (.lit (.int .i64 0)), .d (.lit (.int .i64 0)), .d (.lit (.int .i64 0))] [(0, 1, .k (.d (.lit (.string ⟨#[100]⟩)))), (1, 1, .k (.d (.lit (.int .i64 3)))), (2, 1, .k (.d (.lit (.int .i64 2)))), (3, 1, .k (.d (.lit (.int .i64 1))))]),
 oM 3 (.mks 39 5 [.t 1, .t 2]), oM 4 (.bld [.d (.lit (.string ⟨#[]⟩)), .d (.lit (.string ⟨#[]⟩)), .nil, .nil] [(0, 1, .k (.d (.lit (.string ⟨#[112]⟩)))), (2, 1, .t 3)]), ⟨none, .sto 4 (.t 0) (.t 4), none⟩] [0]) (
 .ret))
def rs13 : List RV := [.c 0 4 true]
theorem k13 : okFn G.tab Tryd.f13 0 c13 rs13 = true := by kernel_rfl
def c8 : Cd := .seq (.ops [oM 2 (.mv (kI 0))] [0]) (.seq (.ops [oV 5 0, oM 6 (.len false (.t 5)), oV 3 6] [0, 3]) (.seq (.seq (.ops [oM 4 (.mv (kI 0))] [0, 3, 4]) (.block 0 (.loop (.seq (.seq (.ops [
 oV 7 4, oV 8 0, oM 9 (.len false (.t 8)), oM 10 (.bin .lss (.t 7) (.t 9))] [0, 3, 4, 10]) (.cond (.t 10) (.skip) (.exit 0))) (.seq (.block 1 (.draw [oV 13 3, oV 14 0, oV 15 4, oM 16 (.ia 12 (.t 14) (.t 15)),
 oM 17 (.fa 8 (.t 16)), oM 18 (.load 1 false (.t 17)), oM 19 (.call 8 [.t 18]), oM 20 (.bin .add (.t 13) (.t 19)), oV 21 0, oV 22 4, oM 23 (.ia 12 (.t 21) (.t 22)), oM 24 (.fa 9 (.t 23)), oM 25 (.load 1 false (.t 24)),
 oM 26 (.call 8 [.t 25]), oM 27 (.bin .add (.t 20) (.t 26)), oV 3 27] [0, 3, 4])) (.ops [oV 11 4, oM 12 (.bin .add (.t 11) (kI 1)), oV 4 12] [0, 3, 4])))))) (.seq (.ops [oV 28 3, oV 2 28] [2]) (.ret))))
def rs8 : List RV := [.t 2 false]
theorem k8 : okFn G.tab Tryd.f8 1 c8 rs8 = true := by kernel_rfl
def c23 : Cd := .seq (.ops [oM 4 (.mv kF)] [0, 1]) (.seq (.seq (.ops [oV 6 0, oM 7 (.len false (.t 6)), oV 8 1, oM 9 (.len false (.t 8)), oM 10 (.bin .neq (.t 7) (.t 9))] [0, 1, 10]) (.cond (.t 10) (
 .seq (.ops [oM 4 (.mv kF)] [4]) (.ret)) (.skip))) (.seq (.seq (.ops [oM 5 (.mv (kI 0))] [0, 1, 5]) (.block 0 (.loop (.seq (.seq (.ops [oV 11 5, oV 12 0, oM 13 (.len false (.t 12)), oM 14 (.bin .lss (.t 11) (.t 13))] [0, 1, 5, 14]) (
 .cond (.t 14) (.skip) (.exit 0))) (.seq (.block 1 (.seq (.draw [oV 17 0, oV 18 5, oM 19 (.ia 4 (.t 17) (.t 18)), oM 20 (.load 4 true (.t 19)), oV 21 1, oV 22 5, oM 23 (.ia 4 (.t 21) (.t 22)), oM 24 (.load 4 true (.t 23)),
 oM 25 (.eqa true 82 [.i .i64, .i .i64, .i .i64, .b] (.t 20) (.t 24))] [0, 1, 5, 25]) (.cond (.t 25) (.seq (.ops [oM 4 (.mv kF)] [4]) (.ret)) (.skip)))) (.ops [oV 15 5, oM 16 (.bin .add (.t 15) (kI 1)),
 oV 5 16] [0, 1, 5])))))) (.seq (.ops [oM 4 (.mv kT)] [4]) (.ret))))
def rs23 : List RV := [.t 4 false]
theorem k23 : okFn G.tab Tryd.f23 2 c23 rs23 = true := by kernel_rfl
def c24 : Cd := .seq (.ops [oM 4 (.mv kF)] [0, 1]) (.seq (.seq (.ops [oV 6 0, oM 7 (.len false (.t 6)), oV 8 1, oM 9 (.len false (.t 8)), oM 10 (.bin .neq (.t 7) (.t 9))] [0, 1, 10]) (.cond (.t 10) (
 .seq (.ops [oM 4 (.mv kF)] [4]) (.ret)) (.skip))) (.seq (.seq (.ops [oM 5 (.mv (kI 0))] [0, 1, 5]) (.block 0 (.loop (.seq (.seq (.ops [oV 11 5, oV 12 0, oM 13 (.len false (.t 12)), oM 14 (.bin .lss (.t 11) (.t 13))] [0, 1, 5, 14]) (
 .cond (.t 14) (.skip) (.exit 0))) (.seq (.block 1 (.seq (.draw [oV 17 0, oV 18 5, oM 19 (.ia 1 (.t 17) (.t 18)), oM 20 (.load 1 false (.t 19)), oV 21 1, oV 22 5, oM 23 (.ia 1 (.t 21) (.t 22)), oM 24 (.load 1 false (.t 23)),
 oM 25 (.bin .neq (.t 20) (.t 24))] [0, 1, 5, 25]) (.cond (.t 25) (.seq (.ops [oM 4 (.mv kF)] [4]) (.ret)) (.skip)))) (.ops [oV 15 5, oM 16 (.bin .add (.t 15) (kI 1)), oV 5 16] [0, 1, 5])))))) (.seq (
 .ops [oM 4 (.mv kT)] [4]) (.ret))))
def rs24 : List RV := [.t 4 false]
theorem k24 : okFn G.tab Tryd.f24 2 c24 rs24 = true := by kernel_rfl
end Go.Proofs.YthoebpnbhgmoiaaDoor
