/-
  Code of functions in the plain world.
-/
import Derived.Test.YteopfpebdalcoaaGreatDoorProg
import Derived.Test.YteopfpebdalcoaaGreatDoorA20
import Derived.KernelRfl
import Derived.Lib.ItoaNum
import Derived.Lib.LaidTab
import Derived.Test.YteopfpebdalcoaaGreatDoorBs
namespace Go.Proofs.YteopfpebdalcoaaGreatDoor
open Go.RowKit
set_option maxRecDepth 100000
set_option linter.unusedVariables false
set_option linter.unusedSimpArgs false
noncomputable def G : Cx := cxk Tryz.prog (fun g => if g = 1 then some [.sl (kwList.map fun s => [.lit (.string s)])] else if g = 0 then some [.sl (markList.map fun s => [.lit (.string (bs s))])] else none) (fun g => if g = 3 then some (fun cs => cs = (Lib.pow10Tab.map fun z => Value.int .u64 z).toArray) else if g = 5 then some (fun cs => ∃ t x, cs[0]? = some (.iface t x)) else none) (by kernel_rfl)
def oM (n : Nat) (o : OP) : O := ⟨some n, o, none⟩
def oV (n t : Nat) : O := ⟨some n, .mv (.t t), none⟩
def kI (z : Int) : X := .k (.d (.lit (.int .i64 z)))
def kS (s : ByteArray) : X := .k (.d (.lit (.string s)))
def kT : X := .k (.d (.lit (.bool true)))
def kF : X := .k (.d (.lit (.bool false)))
def c3 : Cd := .seq (.ops [oM 1 (.box 24 (.t 0)), oM 2 (.mv kF)] [1]) (.seq (.draw [oM 3 (.load 4 true (.t 1)), oM 4 (.call 7 [.t 3]), oM 5 (.load 4 true (.t 1)), oM 6 (.call 8 [.t 5]), oM 7 (.bin .eql (.t 4) (.t 6)),
 oV 8 7, ⟨some 9, .call 9 [], (some (8, true))⟩, oM 10 (.pick (.t 8) (.t 9) kF), oV 2 10] [2]) (.ret))
def rs3 : List RV := [.t 2 false]
theorem k3 : okFn G.tab Tryz.f3 1 c3 rs3 = true := by kernel_rfl
def c4 : Cd := .seq (.ops [oM 1 (.box 24 (.t 0)), oM 2 (.mv kF)] [1]) (.seq (.seq (.ops [oM 7 (.load 4 true (.t 1)), oM 8 (.call 10 [.t 7]), oM 9 (.bin .neq (.t 8) (kI 0))] [1, 9]) (.cond (.t 9) (.seq (
 .ops [oM 10 (.load 4 true (.t 1)), oM 11 (.call 7 [.t 10]), oM 12 (.bin .eql (.t 11) (kS ⟨#[]⟩)), oV 13 12, ⟨some 14, .call 9 [], (some (13, true))⟩, oM 15 (.pick (.t 13) (.t 14) kF), oV 2 15] [2]) (
 .ret)) (.skip))) (.seq (.ops [oM 16 (.load 4 true (.t 1)), oM 17 (.call 7 [.t 16]), oV 3 17] [1, 3]) (.seq (.ops [oV 19 3, oM 20 (.call 11 [.t 19]), oV 18 20, oM 21 (.ext (.t 18) 0), oM 22 (.ext (.t 18) 1),
 oM 23 (.ext (.t 18) 2), oM 4 (.new 24 [.d (.lit (.int .i64 0)), .d (.lit (.int .i64 0)), .d (.lit (.string ⟨#[]⟩)), .nil]), ⟨none, .sto 4 (.t 4) (.t 21), none⟩, oV 5 22, oV 6 23] [1, 3, 4, 5, 6]) (.seq (
 .ops [oV 24 3, oM 25 (.len true (.t 24)), oM 26 (.bin .gtr (.t 25) (kI 16384)), oV 27 26, ⟨some 28, .mv (.t 6), (some (27, false))⟩, ⟨some 29, .bin .eql (.t 28) (kI 0), (some (27, false))⟩, ⟨some 30, .mv (.t 29), (some (27, false))⟩,
 ⟨some 31, .mv (.t 5), (some (30, true))⟩, ⟨some 32, .bin .eql (.t 31) (kI 0), (some (30, true))⟩, ⟨some 33, .pick (.t 30) (.t 32) kF, (some (27, false))⟩, ⟨some 34, .mv (.t 33), (some (27, false))⟩,
 ⟨some 35, .load 4 true (.t 4), (some (34, true))⟩, ⟨some 36, .load 4 true (.t 1), (some (34, true))⟩, ⟨some 37, .call 12 [.t 35, .t 36], (some (34, true))⟩, ⟨some 38, .pick (.t 34) (.t 37) kF, (some (27, false))⟩,
 oM 39 (.pick (.t 27) kT (.t 38)), oV 40 39, ⟨some 41, .call 9 [], (some (40, true))⟩, oM 42 (.pick (.t 40) (.t 41) kF), oV 2 42] [2]) (.ret)))))
def rs4 : List RV := [.t 2 false]
theorem k4 : okFn G.tab Tryz.f4 1 c4 rs4 = true := by kernel_rfl
def c5 : Cd := .seq (.ops [oM 2 (.mv kF)] [0]) (.seq (.ops [oV 14 0, oM 15 (.call 11 [.t 14]), oV 13 15, oM 16 (.ext (.t 13) 0), oM 17 (.ext (.t 13) 1), oM 18 (.ext (.t 13) 2), oM 3 (.new 24 [.d (.lit (.int .i64 0)), .d (.lit (.int .i64 0)), .d (.lit (.string ⟨#[]⟩)), .nil]),
 ⟨none, .sto 4 (.t 3) (.t 16), none⟩, oV 4 17, oV 5 18] [0, 3, 5]) (.seq (.seq (.ops [oV 19 5, oM 20 (.bin .neq (.t 19) (kI 0))] [0, 3, 20]) (.cond (.t 20) (.seq (.ops [oM 21 (.call 9 []), oV 2 21] [2]) (
 .ret)) (.skip))) (.seq (.ops [oM 22 (.load 4 true (.t 3)), oM 23 (.call 7 [.t 22]), oV 6 23] [0, 3, 6]) (.seq (.ops [oV 25 6, oM 26 (.call 11 [.t 25]), oV 24 26, oM 27 (.ext (.t 24) 0), oM 28 (.ext (.t 24) 1),
 oM 29 (.ext (.t 24) 2), oM 7 (.new 24 [.d (.lit (.int .i64 0)), .d (.lit (.int .i64 0)), .d (.lit (.string ⟨#[]⟩)), .nil]), ⟨none, .sto 4 (.t 7) (.t 27), none⟩, oV 8 28, oV 9 29] [0, 3, 6, 7, 9]) (.seq (
 .ops [oV 31 0, oM 32 (.bin .add (kS ⟨#[40]⟩) (.t 31)), oM 33 (.bin .add (.t 32) (kS ⟨#[10, 41]⟩)), oM 34 (.call 11 [.t 33]), oV 30 34, oM 35 (.ext (.t 30) 0), oM 36 (.ext (.t 30) 1), oM 37 (.ext (.t 30) 2),
 oM 10 (.new 24 [.d (.lit (.int .i64 0)), .d (.lit (.int .i64 0)), .d (.lit (.string ⟨#[]⟩)), .nil]), ⟨none, .sto 4 (.t 10) (.t 35), none⟩, oV 11 36, oV 12 37] [0, 3, 6, 7, 9, 10, 12]) (.seq (.ops [oV 38 6,
 oM 39 (.len true (.t 38)), oM 40 (.bin .gtr (.t 39) (kI 16384)), oV 41 40, ⟨some 42, .mv (.t 9), (some (41, false))⟩, ⟨some 43, .bin .eql (.t 42) (kI 0), (some (41, false))⟩, ⟨some 44, .mv (.t 43), (some (41, false))⟩,
 ⟨some 45, .load 4 true (.t 7), (some (44, true))⟩, ⟨some 46, .load 4 true (.t 3), (some (44, true))⟩, ⟨some 47, .call 12 [.t 45, .t 46], (some (44, true))⟩, ⟨some 48, .pick (.t 44) (.t 47) kF, (some (41, false))⟩,
 ⟨some 49, .mv (.t 48), (some (41, false))⟩, ⟨some 50, .load 4 true (.t 7), (some (49, true))⟩, ⟨some 51, .call 7 [.t 50], (some (49, true))⟩, ⟨some 52, .mv (.t 6), (some (49, true))⟩, ⟨some 53, .bin .eql (.t 51) (.t 52), (some (49, true))⟩,
 ⟨some 54, .pick (.t 49) (.t 53) kF, (some (41, false))⟩, oM 55 (.pick (.t 41) kT (.t 54)), oV 56 55, ⟨some 57, .mv (.t 0), (some (56, true))⟩, ⟨some 58, .len true (.t 57), (some (56, true))⟩, ⟨some 59, .bin .add (.t 58) (kI 3), (some (56, true))⟩,
 ⟨some 60, .bin .gtr (.t 59) (kI 16384), (some (56, true))⟩, ⟨some 61, .mv (.t 60), (some (56, true))⟩, ⟨some 62, .mv (.t 12), (some (61, false))⟩, ⟨some 63, .bin .eql (.t 62) (kI 0), (some (61, false))⟩,
 ⟨some 64, .mv (.t 63), (some (61, false))⟩, ⟨some 65, .load 4 true (.t 10), (some (64, true))⟩, ⟨some 66, .load 4 true (.t 3), (some (64, true))⟩, ⟨some 67, .call 12 [.t 65, .t 66], (some (64, true))⟩,
 ⟨some 68, .pick (.t 64) (.t 67) kF, (some (61, false))⟩, ⟨some 69, .pick (.t 61) kT (.t 68), (some (56, true))⟩, oM 70 (.pick (.t 56) (.t 69) kF), oV 71 70, ⟨some 72, .call 9 [], (some (71, true))⟩,
 oM 73 (.pick (.t 71) (.t 72) kF), oV 2 73] [2]) (.ret)))))))
def c9 : Cd := .seq (.ops [oM 0 (.mv kF)] []) (.seq (.ops [oM 14 (.bld [.d (.lit (.int .i64 0)), .d (.lit (.int .i64 0)), .d (.lit (.string ⟨#[]⟩)), .nil] [(0, 1, .k (.d (.lit (.int .i64 2)))), (2, 1, .k (.d (.lit (.string ⟨#[97]⟩))))]),
 oM 15 (.bld [.d (.lit (.int .i64 0)), .d (.lit (.int .i64 0)), .d (.lit (.string ⟨#[]⟩)), .nil] [(0, 1, .k (.d (.lit (.int .i64 2)))), (2, 1, .k (.d (.lit (.string ⟨#[98]⟩))))]), oM 16 (.bld [.d (.lit (.int .i64 0)), .d (.lit (.int .i64 0)), .d (.lit (.string ⟨#[]⟩)), .nil] [(0, 1, .k (.d (.lit (.int .i64 2)))), (2, 1, .k (.d (.lit (.string ⟨#[99]⟩))))]),
 oM 1 (.new 24 [.d (.lit (.int .i64 0)), .d (.lit (.int .i64 0)), .d (.lit (.string ⟨#[]⟩)), .nil]), oM 2 (.new 24 [.d (.lit (.int .i64 0)), .d (.lit (.int .i64 0)), .d (.lit (.string ⟨#[]⟩)), .nil]),
 oM 3 (.new 24 [.d (.lit (.int .i64 0)), .d (.lit (.int .i64 0)), .d (.lit (.string ⟨#[]⟩)), .nil]), ⟨none, .sto 4 (.t 1) (.t 14), none⟩, ⟨none, .sto 4 (.t 2) (.t 15), none⟩, ⟨none, .sto 4 (.t 3) (.t 16), none⟩] [1, 2, 3]) (
 .seq (.ops [oM 17 (.load 4 true (.t 1)), oM 18 (.load 4 true (.t 2)), oM 19 (.mks 24 4 [.t 17, .t 18]), oM 20 (.bld [.d (.lit (.int .i64 0)), .d (.lit (.int .i64 0)), .d (.lit (.string ⟨#[]⟩)), .nil] [(0, 1, .k (.d (.lit (.int .i64 7)))), (3, 1, .t 19)]),
 oM 21 (.load 4 true (.t 3)), oM 22 (.mks 24 4 [.t 20, .t 21]), oM 23 (.bld [.d (.lit (.int .i64 0)), .d (.lit (.int .i64 0)), .d (.lit (.string ⟨#[]⟩)), .nil] [(0, 1, .k (.d (.lit (.int .i64 9)))), (3, 1, .t 22)]),
 oM 24 (.call 7 [.t 23]), oV 4 24] [1, 2, 3, 4]) (.seq (.ops [oM 26 (.call 11 [.k (.d (.lit (.string ⟨#[97, 32, 43, 32, 98, 32, 42, 32, 99]⟩)))]), oV 25 26, oM 27 (.ext (.t 25) 0), oM 28 (.ext (.t 25) 1),
 oM 29 (.ext (.t 25) 2), oM 5 (.new 24 [.d (.lit (.int .i64 0)), .d (.lit (.int .i64 0)), .d (.lit (.string ⟨#[]⟩)), .nil]), ⟨none, .sto 4 (.t 5) (.t 27), none⟩, oV 6 28, oV 7 29] [1, 2, 3, 4, 5, 6, 7]) (
 .seq (.ops [oM 31 (.call 11 [.k (.d (.lit (.string ⟨#[97, 32, 43]⟩)))]), oV 30 31, oM 32 (.ext (.t 30) 0), oM 33 (.ext (.t 30) 1), oM 34 (.ext (.t 30) 2), oM 8 (.new 24 [.d (.lit (.int .i64 0)), .d (.lit (.int .i64 0)), .d (.lit (.string ⟨#[]⟩)), .nil]),
 ⟨none, .sto 4 (.t 8) (.t 32), none⟩, oV 9 33, oV 10 34] [1, 2, 3, 4, 5, 6, 7, 9, 10]) (.seq (.ops [oM 36 (.call 11 [.k (.d (.lit (.string ⟨#[97, 32, 98]⟩)))]), oV 35 36, oM 37 (.ext (.t 35) 0), oM 38 (.ext (.t 35) 1),
 oM 39 (.ext (.t 35) 2), oM 11 (.new 24 [.d (.lit (.int .i64 0)), .d (.lit (.int .i64 0)), .d (.lit (.string ⟨#[]⟩)), .nil]), ⟨none, .sto 4 (.t 11) (.t 37), none⟩, oV 12 38, oV 13 39] [1, 2, 3, 4, 5, 6, 7, 9, 10, 12, 13]) (
 .seq (.ops [oV 40 4, oM 41 (.bin .eql (.t 40) (kS ⟨#[40, 97, 32, 43, 32, 98, 41, 32, 42, 32, 99]⟩)), oV 42 41, ⟨some 43, .load 4 true (.t 5), (some (42, true))⟩, ⟨some 44, .load 4 true (.t 1), (some (42, true))⟩,
 ⟨some 45, .load 4 true (.t 2), (some (42, true))⟩, ⟨some 46, .load 4 true (.t 3), (some (42, true))⟩, ⟨some 47, .mks 24 4 [.t 45, .t 46], (some (42, true))⟩, ⟨some 48, .bld [.d (.lit (.int .i64 0)), .d (.lit (.int .i64 0)), .d (.lit (.string ⟨#[]⟩)), .nil] [(0, 1, .k (.d (.lit (.int .i64 9)))), (3, 1, .t 47)], (some (42, true))⟩,
 ⟨some 49, .mks 24 4 [.t 44, .t 48], (some (42, true))⟩, ⟨some 50, .bld [.d (.lit (.int .i64 0)), .d (.lit (.int .i64 0)), .d (.lit (.string ⟨#[]⟩)), .nil] [(0, 1, .k (.d (.lit (.int .i64 7)))), (3, 1, .t 49)], (some (42, true))⟩,
 ⟨some 51, .call 12 [.t 43, .t 50], (some (42, true))⟩, oM 52 (.pick (.t 42) (.t 51) kF), oV 53 52, ⟨some 54, .mv (.t 6), (some (53, true))⟩, ⟨some 55, .bin .eql (.t 54) (kI 0), (some (53, true))⟩, oM 56 (.pick (.t 53) (.t 55) kF),
 oV 57 56, ⟨some 58, .mv (.t 7), (some (57, true))⟩, ⟨some 59, .bin .eql (.t 58) (kI 0), (some (57, true))⟩, oM 60 (.pick (.t 57) (.t 59) kF), oV 61 60, ⟨some 62, .mv (.t 9), (some (61, true))⟩, ⟨some 63, .bin .eql (.t 62) (kI 1), (some (61, true))⟩,
 oM 64 (.pick (.t 61) (.t 63) kF), oV 65 64, ⟨some 66, .mv (.t 10), (some (65, true))⟩, ⟨some 67, .bin .eql (.t 66) (kI 6), (some (65, true))⟩, oM 68 (.pick (.t 65) (.t 67) kF), oV 69 68, ⟨some 70, .mv (.t 12), (some (69, true))⟩,
 ⟨some 71, .bin .eql (.t 70) (kI 1), (some (69, true))⟩, oM 72 (.pick (.t 69) (.t 71) kF), oV 73 72, ⟨some 74, .mv (.t 13), (some (73, true))⟩, ⟨some 75, .bin .eql (.t 74) (kI 5), (some (73, true))⟩,
 oM 76 (.pick (.t 73) (.t 75) kF), oV 0 76] [0]) (.ret)))))))
def rs9 : List RV := [.t 0 false]
theorem k9 : okFn G.tab Tryz.f9 0 c9 rs9 = true := by kernel_rfl
def c8 : Cd := .seq (.ops [oM 1 (.box 24 (.t 0)), oM 2 (.mv (kS ⟨#[]⟩))] [1]) (.seq (.seq (.ops [oM 3 (.load 4 true (.t 1)), oM 4 (.call 10 [.t 3]), oM 5 (.bin .neq (.t 4) (kI 0))] [1, 5]) (.cond (.t 5) (
 .seq (.ops [oM 2 (.mv (kS ⟨#[]⟩))] [2]) (.ret)) (.skip))) (.seq (.ops [oM 6 (.load 4 true (.t 1)), oM 7 (.call 18 [.t 6]), oV 2 7] [2]) (.ret)))
def rs8 : List RV := [.t 2 false]
theorem k8 : okFn G.tab Tryz.f8 1 c8 rs8 = true := by kernel_rfl
def c18 : Cd := .seq (.ops [oM 1 (.box 24 (.t 0)), oM 2 (.mv (kS ⟨#[]⟩))] [1]) (.seq (.ops [oM 11 (.fa 0 (.t 1)), oM 12 (.load 1 false (.t 11)), oM 13 (.call 39 [.t 12]), oV 10 13, oM 14 (.ext (.t 10) 0),
 oM 15 (.ext (.t 10) 1), oV 3 14, oV 4 15] [1, 3, 4]) (.seq (.seq (.ops [oV 16 4, oM 17 (.bin .gtr (.t 16) (kI 0))] [1, 3, 4, 17]) (.cond (.t 17) (.seq (.draw [oM 18 (.fa 3 (.t 1)), oM 19 (.load 1 false (.t 18)),
 oM 20 (.ia 4 (.t 19) (kI 0)), oM 21 (.load 4 true (.t 20)), oV 22 4, oM 23 (.call 40 [.t 21, .t 22]), oM 24 (.bin .add (.t 23) (kS ⟨#[32]⟩)), oV 25 3, oM 26 (.bin .add (.t 24) (.t 25)), oM 27 (.bin .add (.t 26) (kS ⟨#[32]⟩)),
 oM 28 (.fa 3 (.t 1)), oM 29 (.load 1 false (.t 28)), oM 30 (.ia 4 (.t 29) (kI 1)), oM 31 (.load 4 true (.t 30)), oV 32 4, oM 33 (.bin .add (.t 32) (kI 1)), oM 34 (.call 40 [.t 31, .t 33]), oM 35 (.bin .add (.t 27) (.t 34)),
 oV 2 35] [2]) (.ret)) (.skip))) (.seq (.seq (.ops [oM 36 (.fa 0 (.t 1)), oM 37 (.load 1 false (.t 36)), oM 38 (.call 41 [.t 37]), oM 39 (.bin .neq (.t 38) (kS ⟨#[]⟩))] [1, 39]) (.cond (.t 39) (.seq (
 .draw [oM 40 (.fa 0 (.t 1)), oM 41 (.load 1 false (.t 40)), oM 42 (.call 41 [.t 41]), oM 43 (.fa 3 (.t 1)), oM 44 (.load 1 false (.t 43)), oM 45 (.ia 4 (.t 44) (kI 0)), oM 46 (.load 4 true (.t 45)),
 oM 47 (.call 40 [.t 46, .k (.d (.lit (.int .i64 13)))]), oM 48 (.bin .add (.t 42) (.t 47)), oV 2 48] [2]) (.ret)) (.skip))) (.seq (.seq (.ops [oM 49 (.fa 0 (.t 1)), oM 50 (.load 1 false (.t 49))] [1, 50]) (
 .block 0 (.seq (.ops [oM 52 (.bin .eql (.t 50) (kI 22)), oV 51 52] [1, 50, 51]) (.cond (.t 51) (.seq (.draw [oM 53 (.fa 3 (.t 1)), oM 54 (.load 1 false (.t 53)), oM 55 (.ia 4 (.t 54) (kI 0)), oM 56 (.load 4 true (.t 55)),
 oM 57 (.call 40 [.t 56, .k (.d (.lit (.int .i64 2)))]), oM 58 (.bin .add (.t 57) (kS ⟨#[32, 63, 32]⟩)), oM 59 (.fa 3 (.t 1)), oM 60 (.load 1 false (.t 59)), oM 61 (.ia 4 (.t 60) (kI 1)), oM 62 (.load 4 true (.t 61)),
 oM 63 (.call 40 [.t 62, .k (.d (.lit (.int .i64 1)))]), oM 64 (.bin .add (.t 58) (.t 63)), oM 65 (.bin .add (.t 64) (kS ⟨#[32, 58, 32]⟩)), oM 66 (.fa 3 (.t 1)), oM 67 (.load 1 false (.t 66)), oM 68 (.ia 4 (.t 67) (kI 2)),
 oM 69 (.load 4 true (.t 68)), oM 70 (.call 40 [.t 69, .k (.d (.lit (.int .i64 1)))]), oM 71 (.bin .add (.t 65) (.t 70)), oV 2 71] [2]) (.ret)) (.seq (.ops [oM 73 (.bin .eql (.t 50) (kI 21)), oV 72 73] [1, 50, 72]) (
 .cond (.t 72) (.seq (.draw [oM 74 (.fa 3 (.t 1)), oM 75 (.load 1 false (.t 74)), oM 76 (.ia 4 (.t 75) (kI 0)), oM 77 (.load 4 true (.t 76)), oM 78 (.call 40 [.t 77, .k (.d (.lit (.int .i64 3)))]), oM 79 (.bin .add (.t 78) (kS ⟨#[32, 61, 62, 32]⟩)),
 oM 80 (.fa 3 (.t 1)), oM 81 (.load 1 false (.t 80)), oM 82 (.ia 4 (.t 81) (kI 1)), oM 83 (.load 4 true (.t 82)), oM 84 (.call 40 [.t 83, .k (.d (.lit (.int .i64 2)))]), oM 85 (.bin .add (.t 79) (.t 84)),
 oV 2 85] [2]) (.ret)) (.seq (.ops [oM 87 (.bin .eql (.t 50) (kI 23)), oV 86 87] [1, 50, 86]) (.cond (.t 86) (.seq (.ops [oM 88 (.fa 3 (.t 1)), oM 89 (.load 1 false (.t 88)), oM 90 (.ia 4 (.t 89) (kI 0)),
 oM 91 (.load 4 true (.t 90)), oM 92 (.call 40 [.t 91, .k (.d (.lit (.int .i64 9)))]), oM 93 (.bin .add (.t 92) (kS ⟨#[32, 105, 110, 115, 105, 100, 101, 32, 123, 32]⟩)), oV 5 93] [1, 5]) (.seq (.seq (
 .ops [oM 6 (.mv (kI 1))] [1, 5, 6]) (.block 1 (.loop (.seq (.seq (.ops [oV 94 6, oM 95 (.bin .add (.t 94) (kI 1)), oM 96 (.fa 3 (.t 1)), oM 97 (.load 1 false (.t 96)), oM 98 (.len false (.t 97)), oM 99 (.bin .lss (.t 95) (.t 98))] [1, 5, 6, 99]) (
 .cond (.t 99) (.skip) (.exit 1))) (.seq (.block 2 (.seq (.seq (.ops [oV 102 6, oM 103 (.bin .gtr (.t 102) (kI 1))] [1, 5, 6, 103]) (.cond (.t 103) (.ops [oV 104 5, oM 105 (.bin .add (.t 104) (kS ⟨#[44, 32]⟩)),
 oV 5 105] [1, 5, 6]) (.skip))) (.draw [oV 106 5, oM 107 (.fa 3 (.t 1)), oM 108 (.load 1 false (.t 107)), oV 109 6, oM 110 (.ia 4 (.t 108) (.t 109)), oM 111 (.load 4 true (.t 110)), oM 112 (.call 40 [.t 111, .k (.d (.lit (.int .i64 1)))]),
 oM 113 (.bin .add (.t 106) (.t 112)), oM 114 (.bin .add (.t 113) (kS ⟨#[32, 46, 46, 32]⟩)), oM 115 (.fa 3 (.t 1)), oM 116 (.load 1 false (.t 115)), oV 117 6, oM 118 (.bin .add (.t 117) (kI 1)), oM 119 (.ia 4 (.t 116) (.t 118)),
 oM 120 (.load 4 true (.t 119)), oM 121 (.call 40 [.t 120, .k (.d (.lit (.int .i64 1)))]), oM 122 (.bin .add (.t 114) (.t 121)), oV 5 122] [1, 5, 6]))) (.ops [oV 100 6, oM 101 (.bin .add (.t 100) (kI 2)),
 oV 6 101] [1, 5, 6])))))) (.seq (.ops [oV 123 5, oM 124 (.bin .add (.t 123) (kS ⟨#[32, 125]⟩)), oV 2 124] [2]) (.ret)))) (.seq (.ops [oM 126 (.bin .eql (.t 50) (kI 3)), oV 125 126] [1, 50, 125]) (.cond (.t 125) (
 .seq (.draw [oM 127 (.fa 2 (.t 1)), oM 128 (.load 1 false (.t 127)), oM 129 (.bin .add (.t 128) (kS ⟨#[91]⟩)), oM 130 (.fa 3 (.t 1)), oM 131 (.load 1 false (.t 130)), oM 132 (.ia 4 (.t 131) (kI 0)),
 oM 133 (.load 4 true (.t 132)), oM 134 (.call 40 [.t 133, .k (.d (.lit (.int .i64 1)))]), oM 135 (.bin .add (.t 129) (.t 134)), oM 136 (.bin .add (.t 135) (kS ⟨#[93]⟩)), oV 2 136] [2]) (.ret)) (.seq (
 .ops [oM 138 (.bin .eql (.t 50) (kI 24)), oV 137 138] [1, 50, 137]) (.cond (.t 137) (.seq (.ops [oM 139 (.fa 2 (.t 1)), oM 140 (.load 1 false (.t 139)), oM 141 (.bin .add (kS ⟨#[115, 117, 109, 40]⟩) (.t 140)),
 oM 142 (.bin .add (.t 141) (kS ⟨#[41]⟩)), oV 2 142] [2]) (.ret)) (.seq (.ops [oM 144 (.bin .eql (.t 50) (kI 25)), oV 143 144] [1, 50, 143]) (.cond (.t 143) (.seq (.ops [oM 145 (.fa 3 (.t 1)), oM 146 (.load 1 false (.t 145)),
 oM 147 (.ia 4 (.t 146) (kI 0)), oM 148 (.load 4 true (.t 147)), oM 149 (.call 40 [.t 148, .k (.d (.lit (.int .i64 1)))]), oM 150 (.bin .add (kS ⟨#[111, 110, 101, 115, 40]⟩) (.t 149)), oM 151 (.bin .add (.t 150) (kS ⟨#[41]⟩)),
 oV 2 151] [2]) (.ret)) (.seq (.ops [oM 153 (.bin .eql (.t 50) (kI 2)), oV 152 153] [1, 152]) (.cond (.t 152) (.seq (.ops [oM 155 (.fa 2 (.t 1)), oM 156 (.load 1 false (.t 155)), oM 157 (.call 42 [.t 156]),
 oV 154 157, oM 158 (.ext (.t 154) 0), oM 159 (.ext (.t 154) 1), oM 160 (.ext (.t 154) 2), oV 7 158, oV 8 159, oV 9 160] [1, 7, 8, 9]) (.seq (.seq (.ops [oV 161 9] [1, 7, 8, 161]) (.cond (.t 161) (.seq (
 .ops [oV 162 7, oM 163 (.bin .add (.t 162) (kS ⟨#[64]⟩)), oV 164 8, oM 165 (.call 43 [.t 164]), oM 166 (.bin .add (.t 163) (.t 165)), oV 2 166] [2]) (.ret)) (.skip))) (.seq (.ops [oM 167 (.fa 2 (.t 1)),
 oM 168 (.load 1 false (.t 167)), oV 2 168] [2]) (.ret)))) (.skip))))))))))))))))) (.seq (.ops [oM 169 (.fa 1 (.t 1)), oM 170 (.load 1 false (.t 169)), oM 171 (.call 43 [.t 170]), oV 2 171] [2]) (.ret))))))
def rs18 : List RV := [.t 2 false]
theorem k18 : okFn G.tab Tryz.f18 1 c18 rs18 = true := by kernel_rfl
def c40 : Cd := .seq (.ops [oM 2 (.box 24 (.t 0)), oM 4 (.mv (kS ⟨#[]⟩))] [1, 2]) (.seq (.ops [oM 6 (.load 4 true (.t 2)), oM 7 (.call 18 [.t 6]), oV 5 7] [1, 2, 5]) (.seq (.seq (.ops [oM 8 (.fa 0 (.t 2)),
 oM 9 (.load 1 false (.t 8)), oM 10 (.call 72 [.t 9]), oV 11 1, oM 12 (.bin .lss (.t 10) (.t 11))] [5, 12]) (.cond (.t 12) (.seq (.ops [oV 13 5, oM 14 (.bin .add (kS ⟨#[40]⟩) (.t 13)), oM 15 (.bin .add (.t 14) (kS ⟨#[41]⟩)),
 oV 4 15] [4]) (.ret)) (.skip))) (.seq (.ops [oV 16 5, oV 4 16] [4]) (.ret))))
def rs40 : List RV := [.t 4 false]
theorem k40 : okFn G.tab Tryz.f40 2 c40 rs40 = true := by kernel_rfl
def c39 : Cd := .seq (.ops [oM 2 (.mv (kS ⟨#[]⟩)), oM 3 (.mv (kI 0))] [0]) (.seq (.seq (.ops [oV 4 0] [4]) (.block 0 (.seq (.ops [oM 6 (.bin .eql (.t 4) (kI 20)), oV 5 6] [4, 5]) (.cond (.t 5) (.seq (
 .ops [oM 2 (.mv (kS ⟨#[124, 124]⟩)), oM 3 (.mv (kI 3))] [2, 3]) (.ret)) (.seq (.ops [oM 8 (.bin .eql (.t 4) (kI 19)), oV 7 8] [4, 7]) (.cond (.t 7) (.seq (.ops [oM 2 (.mv (kS ⟨#[38, 38]⟩)), oM 3 (.mv (kI 4))] [2, 3]) (
 .ret)) (.seq (.ops [oM 10 (.bin .eql (.t 4) (kI 11)), oV 9 10] [4, 9]) (.cond (.t 9) (.seq (.ops [oM 2 (.mv (kS ⟨#[124]⟩)), oM 3 (.mv (kI 5))] [2, 3]) (.ret)) (.seq (.ops [oM 12 (.bin .eql (.t 4) (kI 12)),
 oV 11 12] [4, 11]) (.cond (.t 11) (.seq (.ops [oM 2 (.mv (kS ⟨#[94]⟩)), oM 3 (.mv (kI 6))] [2, 3]) (.ret)) (.seq (.ops [oM 14 (.bin .eql (.t 4) (kI 10)), oV 13 14] [4, 13]) (.cond (.t 13) (.seq (.ops [
 oM 2 (.mv (kS ⟨#[38]⟩)), oM 3 (.mv (kI 7))] [2, 3]) (.ret)) (.seq (.ops [oM 16 (.bin .eql (.t 4) (kI 15)), oV 15 16] [4, 15]) (.cond (.t 15) (.seq (.ops [oM 2 (.mv (kS ⟨#[61, 61]⟩)), oM 3 (.mv (kI 8))] [2, 3]) (
 .ret)) (.seq (.ops [oM 18 (.bin .eql (.t 4) (kI 16)), oV 17 18] [4, 17]) (.cond (.t 17) (.seq (.ops [oM 2 (.mv (kS ⟨#[33, 61]⟩)), oM 3 (.mv (kI 8))] [2, 3]) (.ret)) (.seq (.ops [oM 20 (.bin .eql (.t 4) (kI 17)),
 oV 19 20] [4, 19]) (.cond (.t 19) (.seq (.ops [oM 2 (.mv (kS ⟨#[60]⟩)), oM 3 (.mv (kI 9))] [2, 3]) (.ret)) (.seq (.ops [oM 22 (.bin .eql (.t 4) (kI 18)), oV 21 22] [4, 21]) (.cond (.t 21) (.seq (.ops [
 oM 2 (.mv (kS ⟨#[60, 61]⟩)), oM 3 (.mv (kI 9))] [2, 3]) (.ret)) (.seq (.ops [oM 24 (.bin .eql (.t 4) (kI 13)), oV 23 24] [4, 23]) (.cond (.t 23) (.seq (.ops [oM 2 (.mv (kS ⟨#[60, 60]⟩)), oM 3 (.mv (kI 10))] [2, 3]) (
 .ret)) (.seq (.ops [oM 26 (.bin .eql (.t 4) (kI 14)), oV 25 26] [4, 25]) (.cond (.t 25) (.seq (.ops [oM 2 (.mv (kS ⟨#[62, 62]⟩)), oM 3 (.mv (kI 10))] [2, 3]) (.ret)) (.seq (.ops [oM 28 (.bin .eql (.t 4) (kI 7)),
 oV 27 28] [4, 27]) (.cond (.t 27) (.seq (.ops [oM 2 (.mv (kS ⟨#[43]⟩)), oM 3 (.mv (kI 11))] [2, 3]) (.ret)) (.seq (.ops [oM 30 (.bin .eql (.t 4) (kI 8)), oV 29 30] [4, 29]) (.cond (.t 29) (.seq (.ops [
 oM 2 (.mv (kS ⟨#[45]⟩)), oM 3 (.mv (kI 11))] [2, 3]) (.ret)) (.seq (.ops [oM 32 (.bin .eql (.t 4) (kI 9)), oV 31 32] [31]) (.cond (.t 31) (.seq (.ops [oM 2 (.mv (kS ⟨#[42]⟩)), oM 3 (.mv (kI 12))] [2, 3]) (
 .ret)) (.skip))))))))))))))))))))))))))))))) (.seq (.ops [oM 2 (.mv (kS ⟨#[]⟩)), oM 3 (.mv (kI 0))] [2, 3]) (.ret)))
def rs39 : List RV := [.t 2 false, .t 3 false]
theorem k39 : okFn G.tab Tryz.f39 1 c39 rs39 = true := by kernel_rfl
def c41 : Cd := .seq (.ops [oM 2 (.mv (kS ⟨#[]⟩))] [0]) (.seq (.seq (.ops [oV 3 0] [3]) (.block 0 (.seq (.ops [oM 5 (.bin .eql (.t 3) (kI 4)), oV 4 5] [3, 4]) (.cond (.t 4) (.seq (.ops [oM 2 (.mv (kS ⟨#[33]⟩))] [2]) (
 .ret)) (.seq (.ops [oM 7 (.bin .eql (.t 3) (kI 5)), oV 6 7] [3, 6]) (.cond (.t 6) (.seq (.ops [oM 2 (.mv (kS ⟨#[126]⟩))] [2]) (.ret)) (.seq (.ops [oM 9 (.bin .eql (.t 3) (kI 6)), oV 8 9] [8]) (.cond (.t 8) (
 .seq (.ops [oM 2 (.mv (kS ⟨#[45]⟩))] [2]) (.ret)) (.skip))))))))) (.seq (.ops [oM 2 (.mv (kS ⟨#[]⟩))] [2]) (.ret)))
def rs41 : List RV := [.t 2 false]
theorem k41 : okFn G.tab Tryz.f41 1 c41 rs41 = true := by kernel_rfl
def c72 : Cd := .seq (.ops [oM 2 (.mv (kI 0))] [0]) (.seq (.ops [oV 6 0, oM 7 (.call 39 [.t 6]), oV 5 7, oM 8 (.ext (.t 5) 0), oM 9 (.ext (.t 5) 1), oV 3 8, oV 4 9] [0, 4]) (.seq (.seq (.ops [oV 10 4,
 oM 11 (.bin .gtr (.t 10) (kI 0))] [0, 4, 11]) (.cond (.t 11) (.seq (.ops [oV 12 4, oV 2 12] [2]) (.ret)) (.skip))) (.seq (.seq (.ops [oV 13 0, oM 14 (.bin .eql (.t 13) (kI 22))] [0, 14]) (.cond (.t 14) (
 .seq (.ops [oM 2 (.mv (kI 1))] [2]) (.ret)) (.skip))) (.seq (.seq (.ops [oV 15 0, oM 16 (.bin .eql (.t 15) (kI 21))] [0, 16]) (.cond (.t 16) (.seq (.ops [oM 2 (.mv (kI 2))] [2]) (.ret)) (.skip))) (.seq (
 .seq (.ops [oV 17 0, oM 18 (.bin .eql (.t 17) (kI 23))] [0, 18]) (.cond (.t 18) (.seq (.ops [oM 2 (.mv (kI 9))] [2]) (.ret)) (.skip))) (.seq (.seq (.ops [oV 19 0, oM 20 (.call 41 [.t 19]), oM 21 (.bin .neq (.t 20) (kS ⟨#[]⟩))] [21]) (
 .cond (.t 21) (.seq (.ops [oM 2 (.mv (kI 13))] [2]) (.ret)) (.skip))) (.seq (.ops [oM 2 (.mv (kI 14))] [2]) (.ret))))))))
def rs72 : List RV := [.t 2 false]
theorem k72 : okFn G.tab Tryz.f72 1 c72 rs72 = true := by kernel_rfl
def c43 : Cd := .seq (.ops [oM 2 (.mv (kS ⟨#[]⟩))] [0]) (.seq (.ops [oV 4 0, oM 5 (.call 73 [.t 4]), oV 3 5] [3]) (.seq (.ops [oV 6 3, oV 7 3, oM 8 (.len true (.t 7)), oM 9 (.bin .sub (.t 8) (kI 1)),
 oM 10 (.sub true 0 (.t 6) none (some (.t 9))), oV 2 10] [2]) (.ret)))
def rs43 : List RV := [.t 2 false]
theorem k43 : okFn G.tab Tryz.f43 1 c43 rs43 = true := by kernel_rfl
def c42 : Cd := .seq (.ops [oM 2 (.mv (kS ⟨#[]⟩)), oM 3 (.mv (kI 0)), oM 4 (.mv kF)] [0]) (.seq (.seq (.ops [oV 7 0, oM 8 (.len true (.t 7)), oM 9 (.bin .lss (.t 8) (kI 4)), oV 10 9, ⟨some 11, .mv (.t 0), (some (10, false))⟩,
 ⟨some 12, .mv (.t 0), (some (10, false))⟩, ⟨some 13, .len true (.t 12), (some (10, false))⟩, ⟨some 14, .bin .sub (.t 13) (kI 1), (some (10, false))⟩, ⟨some 15, .ix (.t 11) (.t 14), (some (10, false))⟩,
 ⟨some 16, .bin .neq (.t 15) (.k (.d (.lit (.int .u8 93)))), (some (10, false))⟩, oM 17 (.pick (.t 10) kT (.t 16)), oV 18 17, ⟨some 19, .mv (.t 0), (some (18, false))⟩, ⟨some 20, .mv (.t 0), (some (18, false))⟩,
 ⟨some 21, .len true (.t 20), (some (18, false))⟩, ⟨some 22, .bin .sub (.t 21) (kI 3), (some (18, false))⟩, ⟨some 23, .ix (.t 19) (.t 22), (some (18, false))⟩, ⟨some 24, .bin .neq (.t 23) (.k (.d (.lit (.int .u8 91)))), (some (18, false))⟩,
 oM 25 (.pick (.t 18) kT (.t 24))] [0, 25]) (.cond (.t 25) (.seq (.ops [oM 2 (.mv (kS ⟨#[]⟩)), oM 3 (.mv (kI 0)), oM 4 (.mv kF)] [2, 3, 4]) (.ret)) (.skip))) (.seq (.ops [oV 26 0, oV 27 0, oM 28 (.len true (.t 27)),
 oM 29 (.bin .sub (.t 28) (kI 2)), oM 30 (.ix (.t 26) (.t 29)), oM 31 (.conv .i64 (.t 30)), oM 32 (.bin .sub (.t 31) (kI 48)), oV 5 32] [0, 5]) (.seq (.ops [oV 33 0, oV 34 0, oM 35 (.len true (.t 34)),
 oM 36 (.bin .sub (.t 35) (kI 3)), oM 37 (.sub true 0 (.t 33) none (some (.t 36))), oV 6 37] [5, 6]) (.seq (.seq (.ops [oV 38 5, oM 39 (.bin .lss (.t 38) (kI 0)), oV 40 39, ⟨some 41, .mv (.t 5), (some (40, false))⟩,
 ⟨some 42, .bin .geq (.t 41) (kI 8), (some (40, false))⟩, oM 43 (.pick (.t 40) kT (.t 42)), oV 44 43, ⟨some 45, .mv (.t 6), (some (44, false))⟩, ⟨some 46, .call 56 [.t 45], (some (44, false))⟩, ⟨some 47, .un .not (.t 46), (some (44, false))⟩,
 oM 48 (.pick (.t 44) kT (.t 47))] [5, 6, 48]) (.cond (.t 48) (.seq (.ops [oM 2 (.mv (kS ⟨#[]⟩)), oM 3 (.mv (kI 0)), oM 4 (.mv kF)] [2, 3, 4]) (.ret)) (.skip))) (.seq (.ops [oV 49 6, oV 50 5, oV 2 49,
 oV 3 50, oM 4 (.mv kT)] [2, 3, 4]) (.ret))))))
def rs42 : List RV := [.t 2 false, .t 3 false, .t 4 false]
theorem k42 : okFn G.tab Tryz.f42 1 c42 rs42 = true := by kernel_rfl
def c12 : Cd := .seq (.ops [oM 2 (.box 24 (.t 0)), oM 3 (.box 24 (.t 1)), oM 4 (.mv kF)] [2, 3]) (.seq (.seq (.ops [oM 6 (.fa 0 (.t 2)), oM 7 (.load 1 false (.t 6)), oM 8 (.fa 0 (.t 3)), oM 9 (.load 1 false (.t 8)),
 oM 10 (.bin .neq (.t 7) (.t 9)), oV 11 10, ⟨some 12, .fa 1 (.t 2), (some (11, false))⟩, ⟨some 13, .load 1 false (.t 12), (some (11, false))⟩, ⟨some 14, .fa 1 (.t 3), (some (11, false))⟩, ⟨some 15, .load 1 false (.t 14), (some (11, false))⟩,
 ⟨some 16, .bin .neq (.t 13) (.t 15), (some (11, false))⟩, oM 17 (.pick (.t 11) kT (.t 16)), oV 18 17, ⟨some 19, .fa 2 (.t 2), (some (18, false))⟩, ⟨some 20, .load 1 false (.t 19), (some (18, false))⟩,
 ⟨some 21, .fa 2 (.t 3), (some (18, false))⟩, ⟨some 22, .load 1 false (.t 21), (some (18, false))⟩, ⟨some 23, .bin .neq (.t 20) (.t 22), (some (18, false))⟩, oM 24 (.pick (.t 18) kT (.t 23)), oV 25 24,
 ⟨some 26, .fa 3 (.t 2), (some (25, false))⟩, ⟨some 27, .load 1 false (.t 26), (some (25, false))⟩, ⟨some 28, .len false (.t 27), (some (25, false))⟩, ⟨some 29, .fa 3 (.t 3), (some (25, false))⟩, ⟨some 30, .load 1 false (.t 29), (some (25, false))⟩,
 ⟨some 31, .len false (.t 30), (some (25, false))⟩, ⟨some 32, .bin .neq (.t 28) (.t 31), (some (25, false))⟩, oM 33 (.pick (.t 25) kT (.t 32))] [2, 3, 33]) (.cond (.t 33) (.seq (.ops [oM 4 (.mv kF)] [4]) (
 .ret)) (.skip))) (.seq (.seq (.ops [oM 5 (.mv (kI 0))] [2, 3, 5]) (.block 0 (.loop (.seq (.seq (.ops [oV 34 5, oM 35 (.fa 3 (.t 2)), oM 36 (.load 1 false (.t 35)), oM 37 (.len false (.t 36)), oM 38 (.bin .lss (.t 34) (.t 37))] [2, 3, 5, 38]) (
 .cond (.t 38) (.skip) (.exit 0))) (.seq (.block 1 (.seq (.draw [oM 41 (.fa 3 (.t 2)), oM 42 (.load 1 false (.t 41)), oV 43 5, oM 44 (.ia 4 (.t 42) (.t 43)), oM 45 (.load 4 true (.t 44)), oM 46 (.fa 3 (.t 3)),
 oM 47 (.load 1 false (.t 46)), oV 48 5, oM 49 (.ia 4 (.t 47) (.t 48)), oM 50 (.load 4 true (.t 49)), oM 51 (.call 12 [.t 45, .t 50]), oM 52 (.un .not (.t 51))] [2, 3, 5, 52]) (.cond (.t 52) (.seq (.ops [
 oM 4 (.mv kF)] [4]) (.ret)) (.skip)))) (.ops [oV 39 5, oM 40 (.bin .add (.t 39) (kI 1)), oV 5 40] [2, 3, 5])))))) (.seq (.ops [oM 4 (.mv kT)] [4]) (.ret))))
def rs12 : List RV := [.t 4 false]
theorem k12 : okFn G.tab Tryz.f12 2 c12 rs12 = true := by kernel_rfl
def c73 : Cd := .seq (.ops [oM 2 (.mv (kS ⟨#[]⟩))] [0]) (.seq (.ops [oV 3 0, oM 4 (.call 107 [.t 3]), oM 5 (.bin .add (.t 4) (kS ⟨#[59]⟩)), oV 2 5] [2]) (.ret))
def rs73 : List RV := [.t 2 false]
theorem k73 : okFn G.tab Tryz.f73 1 c73 rs73 = true := by kernel_rfl
def c107 : Cd := .seq (.ops [oM 2 (.mv (kS ⟨#[]⟩))] [0]) (.seq (.seq (.ops [oV 3 0, oM 4 (.bin .lss (.t 3) (kI 0))] [0, 4]) (.cond (.t 4) (.seq (.ops [oV 5 0, oM 6 (.call 127 [.t 5]), oM 7 (.bin .add (kS ⟨#[45]⟩) (.t 6)),
 oV 2 7] [2]) (.ret)) (.skip))) (.seq (.ops [oV 8 0, oM 9 (.un .neg (.t 8)), oM 10 (.call 127 [.t 9]), oV 2 10] [2]) (.ret)))
def rs107 : List RV := [.t 2 false]
theorem k107 : okFn G.tab Tryz.f107 1 c107 rs107 = true := by kernel_rfl
def c127 : Cd := .seq (.ops [oM 2 (.mv (kS ⟨#[]⟩))] [0]) (.seq (.seq (.ops [oV 3 0, oM 4 (.bin .gtr (.t 3) (kI (-10)))] [0, 4]) (.cond (.t 4) (.seq (.ops [oV 5 0, oM 6 (.bin .sub (kI 48) (.t 5)), oM 7 (.conv .u8 (.t 6)),
 oM 8 (.mks 5 1 [.t 7]), oM 9 (.cbs (.t 8)), oV 2 9] [2]) (.ret)) (.skip))) (.seq (.draw [oV 10 0, oM 11 (.bin .quo (.t 10) (kI 10)), oM 12 (.call 127 [.t 11]), oV 13 0, oM 14 (.bin .rem (.t 13) (kI 10)),
 oM 15 (.bin .sub (kI 48) (.t 14)), oM 16 (.conv .u8 (.t 15)), oM 17 (.mks 5 1 [.t 16]), oM 18 (.cbs (.t 17)), oM 19 (.bin .add (.t 12) (.t 18)), oV 2 19] [2]) (.ret)))
def rs127 : List RV := [.t 2 false]
theorem k127 : okFn G.tab Tryz.f127 1 c127 rs127 = true := by kernel_rfl
def c7 : Cd := .seq (.ops [oM 1 (.box 24 (.t 0)), oM 2 (.mv (kS ⟨#[]⟩))] [1]) (.seq (.seq (.ops [oM 3 (.load 4 true (.t 1)), oM 4 (.call 16 [.t 3]), oM 5 (.bin .neq (.t 4) (kI 0))] [1, 5]) (.cond (.t 5) (
 .seq (.ops [oM 2 (.mv (kS ⟨#[]⟩))] [2]) (.ret)) (.skip))) (.seq (.ops [oM 6 (.load 4 true (.t 1)), oM 7 (.call 17 [.t 6]), oV 2 7] [2]) (.ret)))
def rs7 : List RV := [.t 2 false]
theorem k7 : okFn G.tab Tryz.f7 1 c7 rs7 = true := by kernel_rfl
def c17 : Cd := .seq (.ops [oM 1 (.box 24 (.t 0)), oM 2 (.mv (kS ⟨#[]⟩))] [1]) (.seq (.seq (.ops [oM 11 (.fa 0 (.t 1)), oM 12 (.load 1 false (.t 11)), oM 13 (.call 33 [.t 12]), oV 10 13, oM 14 (.ext (.t 10) 0),
 oM 15 (.ext (.t 10) 1), oM 3 (.new 56 [.d (.lit (.string ⟨#[]⟩)), .d (.lit (.int .i64 0)), .d (.lit (.int .i64 0))]), ⟨none, .sto 3 (.t 3) (.t 14), none⟩, oV 4 15] [1, 3, 4]) (.seq (.ops [oV 16 4] [1, 3, 16]) (
 .cond (.t 16) (.seq (.draw [oM 17 (.fa 2 (.t 3)), oM 18 (.load 1 false (.t 17)), oM 19 (.fa 2 (.t 3)), oM 20 (.load 1 false (.t 19)), oM 21 (.bin .add (.t 20) (kI 1)), oV 5 18, oV 6 21] [1, 3, 5, 6]) (
 .seq (.seq (.ops [oM 22 (.fa 2 (.t 3)), oM 23 (.load 1 false (.t 22)), oM 24 (.bin .eql (.t 23) (kI 2))] [1, 3, 5, 6, 24]) (.cond (.t 24) (.ops [oM 5 (.mv (kI 3)), oM 6 (.mv (kI 2))] [1, 3, 5, 6]) (
 .skip))) (.seq (.draw [oM 25 (.fa 3 (.t 1)), oM 26 (.load 1 false (.t 25)), oM 27 (.ia 4 (.t 26) (kI 0)), oM 28 (.load 4 true (.t 27)), oV 29 5, oM 30 (.call 34 [.t 28, .t 29]), oM 31 (.bin .add (.t 30) (kS ⟨#[32]⟩)),
 oM 32 (.fa 0 (.t 3)), oM 33 (.load 1 false (.t 32)), oM 34 (.bin .add (.t 31) (.t 33)), oM 35 (.bin .add (.t 34) (kS ⟨#[32]⟩)), oM 36 (.fa 3 (.t 1)), oM 37 (.load 1 false (.t 36)), oM 38 (.ia 4 (.t 37) (kI 1)),
 oM 39 (.load 4 true (.t 38)), oV 40 6, oM 41 (.call 34 [.t 39, .t 40]), oM 42 (.bin .add (.t 35) (.t 41)), oV 2 42] [2]) (.ret)))) (.skip)))) (.seq (.seq (.ops [oM 43 (.fa 0 (.t 1)), oM 44 (.load 1 false (.t 43)),
 oM 45 (.call 35 [.t 44]), oV 7 45] [1, 7]) (.seq (.ops [oV 46 7, oM 47 (.bin .neq (.t 46) (kS ⟨#[]⟩))] [1, 7, 47]) (.cond (.t 47) (.seq (.ops [oV 48 7, oM 49 (.fa 3 (.t 1)), oM 50 (.load 1 false (.t 49)),
 oM 51 (.ia 4 (.t 50) (kI 0)), oM 52 (.load 4 true (.t 51)), oM 53 (.call 34 [.t 52, .k (.d (.lit (.int .i64 13)))]), oM 54 (.bin .add (.t 48) (.t 53)), oV 2 54] [2]) (.ret)) (.skip)))) (.seq (.seq (
 .ops [oM 55 (.fa 0 (.t 1)), oM 56 (.load 1 false (.t 55))] [1, 56]) (.block 0 (.seq (.ops [oM 58 (.bin .eql (.t 56) (kI 22)), oV 57 58] [1, 56, 57]) (.cond (.t 57) (.seq (.draw [oM 59 (.fa 3 (.t 1)),
 oM 60 (.load 1 false (.t 59)), oM 61 (.ia 4 (.t 60) (kI 0)), oM 62 (.load 4 true (.t 61)), oM 63 (.call 34 [.t 62, .k (.d (.lit (.int .i64 2)))]), oM 64 (.bin .add (.t 63) (kS ⟨#[32, 63, 32]⟩)), oM 65 (.fa 3 (.t 1)),
 oM 66 (.load 1 false (.t 65)), oM 67 (.ia 4 (.t 66) (kI 1)), oM 68 (.load 4 true (.t 67)), oM 69 (.call 34 [.t 68, .k (.d (.lit (.int .i64 1)))]), oM 70 (.bin .add (.t 64) (.t 69)), oM 71 (.bin .add (.t 70) (kS ⟨#[32, 58, 32]⟩)),
 oM 72 (.fa 3 (.t 1)), oM 73 (.load 1 false (.t 72)), oM 74 (.ia 4 (.t 73) (kI 2)), oM 75 (.load 4 true (.t 74)), oM 76 (.call 34 [.t 75, .k (.d (.lit (.int .i64 1)))]), oM 77 (.bin .add (.t 71) (.t 76)),
 oV 2 77] [2]) (.ret)) (.seq (.ops [oM 79 (.bin .eql (.t 56) (kI 23)), oV 78 79] [1, 56, 78]) (.cond (.t 78) (.seq (.ops [oM 8 (.nilo 9 1)] [1, 8]) (.seq (.seq (.ops [oM 9 (.mv (kI 1))] [1, 8, 9]) (.block 1 (
 .loop (.seq (.seq (.ops [oV 80 9, oM 81 (.bin .add (.t 80) (kI 1)), oM 82 (.fa 3 (.t 1)), oM 83 (.load 1 false (.t 82)), oM 84 (.len false (.t 83)), oM 85 (.bin .lss (.t 81) (.t 84))] [1, 8, 9, 85]) (
 .cond (.t 85) (.skip) (.exit 1))) (.seq (.block 2 (.drawb 8 88 105 9 1 16 (.t 104) [oM 89 (.fa 3 (.t 1)), oM 90 (.load 1 false (.t 89)), oV 91 9, oM 92 (.ia 4 (.t 90) (.t 91)), oM 93 (.load 4 true (.t 92)),
 oM 94 (.call 17 [.t 93]), oM 95 (.bin .add (.t 94) (kS ⟨#[32, 46, 46, 32]⟩)), oM 96 (.fa 3 (.t 1)), oM 97 (.load 1 false (.t 96)), oV 98 9, oM 99 (.bin .add (.t 98) (kI 1)), oM 100 (.ia 4 (.t 97) (.t 99)),
 oM 101 (.load 4 true (.t 100)), oM 102 (.call 17 [.t 101]), oM 103 (.bin .add (.t 95) (.t 102)), oM 104 (.mks 9 1 [.t 103])] [1, 8, 9])) (.ops [oV 86 9, oM 87 (.bin .add (.t 86) (kI 2)), oV 9 87] [1, 8, 9])))))) (
 .seq (.ops [oM 106 (.fa 3 (.t 1)), oM 107 (.load 1 false (.t 106)), oM 108 (.ia 4 (.t 107) (kI 0)), oM 109 (.load 4 true (.t 108)), oM 110 (.call 34 [.t 109, .k (.d (.lit (.int .i64 9)))]), oM 111 (.bin .add (.t 110) (kS ⟨#[32, 105, 110, 115, 105, 100, 101, 32, 123, 32]⟩)),
 oV 112 8, oM 113 (.call 36 [.t 112, .k (.d (.lit (.string ⟨#[44, 32]⟩)))]), oM 114 (.bin .add (.t 111) (.t 113)), oM 115 (.bin .add (.t 114) (kS ⟨#[32, 125]⟩)), oV 2 115] [2]) (.ret)))) (.seq (.ops [
 oM 117 (.bin .eql (.t 56) (kI 1)), oV 116 117] [1, 56, 116]) (.cond (.t 116) (.seq (.ops [oM 118 (.fa 1 (.t 1)), oM 119 (.load 1 false (.t 118)), oM 120 (.call 37 [.t 119]), oV 2 120] [2]) (.ret)) (
 .seq (.ops [oM 122 (.bin .eql (.t 56) (kI 3)), oV 121 122] [1, 56, 121]) (.cond (.t 121) (.seq (.draw [oM 123 (.fa 2 (.t 1)), oM 124 (.load 1 false (.t 123)), oM 125 (.bin .add (.t 124) (kS ⟨#[91]⟩)),
 oM 126 (.fa 3 (.t 1)), oM 127 (.load 1 false (.t 126)), oM 128 (.ia 4 (.t 127) (kI 0)), oM 129 (.load 4 true (.t 128)), oM 130 (.call 17 [.t 129]), oM 131 (.bin .add (.t 125) (.t 130)), oM 132 (.bin .add (.t 131) (kS ⟨#[93]⟩)),
 oV 2 132] [2]) (.ret)) (.seq (.ops [oM 134 (.bin .eql (.t 56) (kI 24)), oV 133 134] [1, 56, 133]) (.cond (.t 133) (.seq (.ops [oM 135 (.fa 2 (.t 1)), oM 136 (.load 1 false (.t 135)), oM 137 (.bin .add (kS ⟨#[115, 117, 109, 40]⟩) (.t 136)),
 oM 138 (.bin .add (.t 137) (kS ⟨#[41]⟩)), oV 2 138] [2]) (.ret)) (.seq (.ops [oM 140 (.bin .eql (.t 56) (kI 25)), oV 139 140] [1, 139]) (.cond (.t 139) (.seq (.ops [oM 141 (.fa 3 (.t 1)), oM 142 (.load 1 false (.t 141)),
 oM 143 (.ia 4 (.t 142) (kI 0)), oM 144 (.load 4 true (.t 143)), oM 145 (.call 17 [.t 144]), oM 146 (.bin .add (kS ⟨#[111, 110, 101, 115, 40]⟩) (.t 145)), oM 147 (.bin .add (.t 146) (kS ⟨#[41]⟩)), oV 2 147] [2]) (
 .ret)) (.skip))))))))))))))) (.seq (.ops [oM 148 (.fa 2 (.t 1)), oM 149 (.load 1 false (.t 148)), oM 150 (.call 38 [.t 149]), oV 2 150] [2]) (.ret)))))
def rs17 : List RV := [.t 2 false]
theorem k17 : okFn G.tab Tryz.f17 1 c17 rs17 = true := by kernel_rfl
def c34 : Cd := .seq (.ops [oM 2 (.box 24 (.t 0)), oM 4 (.mv (kS ⟨#[]⟩))] [1, 2]) (.seq (.seq (.ops [oM 5 (.load 4 true (.t 2)), oM 6 (.call 65 [.t 5]), oV 7 1, oM 8 (.bin .lss (.t 6) (.t 7))] [2, 8]) (
 .cond (.t 8) (.seq (.ops [oM 9 (.load 4 true (.t 2)), oM 10 (.call 17 [.t 9]), oM 11 (.bin .add (kS ⟨#[40]⟩) (.t 10)), oM 12 (.bin .add (.t 11) (kS ⟨#[41]⟩)), oV 4 12] [4]) (.ret)) (.skip))) (.seq (
 .ops [oM 13 (.load 4 true (.t 2)), oM 14 (.call 17 [.t 13]), oV 4 14] [4]) (.ret)))
def rs34 : List RV := [.t 4 false]
theorem k34 : okFn G.tab Tryz.f34 2 c34 rs34 = true := by kernel_rfl
def c33 : Cd := .seq (.ops [oM 2 (.new 56 [.d (.lit (.string ⟨#[]⟩)), .d (.lit (.int .i64 0)), .d (.lit (.int .i64 0))]), oM 3 (.mv kF)] [0, 2]) (.seq (.seq (.ops [oM 6 (.call 64 []), oM 7 (.len false (.t 6)),
 oM 8 (.mv (kI 0))] [0, 2, 6, 7, 8]) (.block 0 (.loop (.seq (.ops [oM 9 (.bin .lss (.t 8) (.t 7))] [0, 2, 6, 7, 8, 9]) (.seq (.cond (.t 9) (.skip) (.exit 0)) (.seq (.block 1 (.seq (.ops [oM 10 (.ia 3 (.t 6) (.t 8)),
 oM 11 (.load 3 true (.t 10)), oM 5 (.new 56 [.d (.lit (.string ⟨#[]⟩)), .d (.lit (.int .i64 0)), .d (.lit (.int .i64 0))]), ⟨none, .sto 3 (.t 5) (.t 11), none⟩] [0, 2, 5, 6, 7, 8]) (.seq (.ops [oM 12 (.fa 1 (.t 5)),
 oM 13 (.load 1 false (.t 12)), oV 14 0, oM 15 (.bin .eql (.t 13) (.t 14))] [0, 2, 5, 6, 7, 8, 15]) (.cond (.t 15) (.seq (.ops [oM 16 (.load 3 true (.t 5)), ⟨none, .sto 3 (.t 2) (.t 16), none⟩, oM 3 (.mv kT)] [2, 3]) (
 .ret)) (.skip))))) (.ops [oM 17 (.bin .add (.t 8) (kI 1)), oV 8 17] [0, 2, 6, 7, 8]))))))) (.seq (.ops [oM 18 (.bld [.d (.lit (.string ⟨#[]⟩)), .d (.lit (.int .i64 0)), .d (.lit (.int .i64 0))] []),
 ⟨none, .sto 3 (.t 2) (.t 18), none⟩, oM 3 (.mv kF)] [2, 3]) (.ret)))
def rs33 : List RV := [.c 2 3 true, .t 3 false]
theorem k33 : okFn G.tab Tryz.f33 1 c33 rs33 = true := by kernel_rfl
def c35 : Cd := .seq (.ops [oM 2 (.mv (kS ⟨#[]⟩))] [0]) (.seq (.seq (.ops [oV 3 0] [3]) (.block 0 (.seq (.ops [oM 5 (.bin .eql (.t 3) (kI 4)), oV 4 5] [3, 4]) (.cond (.t 4) (.seq (.ops [oM 2 (.mv (kS ⟨#[33]⟩))] [2]) (
 .ret)) (.seq (.ops [oM 7 (.bin .eql (.t 3) (kI 5)), oV 6 7] [3, 6]) (.cond (.t 6) (.seq (.ops [oM 2 (.mv (kS ⟨#[126]⟩))] [2]) (.ret)) (.seq (.ops [oM 9 (.bin .eql (.t 3) (kI 6)), oV 8 9] [8]) (.cond (.t 8) (
 .seq (.ops [oM 2 (.mv (kS ⟨#[45]⟩))] [2]) (.ret)) (.skip))))))))) (.seq (.ops [oM 2 (.mv (kS ⟨#[]⟩))] [2]) (.ret)))
def rs35 : List RV := [.t 2 false]
theorem k35 : okFn G.tab Tryz.f35 1 c35 rs35 = true := by kernel_rfl
def c38 : Cd := .seq (.ops [oM 2 (.mv (kS ⟨#[]⟩))] [0]) (.seq (.seq (.ops [oV 4 0, oM 5 (.call 70 [.t 4, .k (.d (.lit (.int .u8 91)))]), oV 3 5] [0, 3]) (.seq (.ops [oV 6 3, oM 7 (.bin .geq (.t 6) (kI 0))] [0, 3, 7]) (
 .cond (.t 7) (.seq (.draw [oV 8 0, oV 9 3, oM 10 (.sub true 0 (.t 8) none (some (.t 9))), oM 11 (.bin .add (.t 10) (kS ⟨#[64]⟩)), oV 12 0, oV 13 3, oM 14 (.bin .add (.t 13) (kI 1)), oM 15 (.sub true 0 (.t 12) (some (.t 14)) none),
 oM 16 (.call 71 [.t 15, .k (.d (.lit (.string ⟨#[93]⟩)))]), oM 17 (.bin .add (.t 11) (.t 16)), oV 2 17] [2]) (.ret)) (.skip)))) (.seq (.ops [oV 18 0, oV 2 18] [2]) (.ret)))
def rs38 : List RV := [.t 2 false]
theorem k38 : okFn G.tab Tryz.f38 1 c38 rs38 = true := by kernel_rfl
def c64 : Cd := .seq (.ops [oM 0 (.mv (.k (.nil)))] []) (.seq (.ops [oM 1 (.bld [.d (.lit (.string ⟨#[]⟩)), .d (.lit (.int .i64 0)), .d (.lit (.int .i64 0))] [(0, 1, .k (.d (.lit (.string ⟨#[61, 62]⟩)))), (1, 1, .k (.d (.lit (.int .i64 21)))), (2, 1, .k (.d (.lit (.int .i64 2))))]),
 oM 2 (.bld [.d (.lit (.string ⟨#[]⟩)), .d (.lit (.int .i64 0)), .d (.lit (.int .i64 0))] [(0, 1, .k (.d (.lit (.string ⟨#[124, 124]⟩)))), (1, 1, .k (.d (.lit (.int .i64 20)))), (2, 1, .k (.d (.lit (.int .i64 3))))]),
 oM 3 (.bld [.d (.lit (.string ⟨#[]⟩)), .d (.lit (.int .i64 0)), .d (.lit (.int .i64 0))] [(0, 1, .k (.d (.lit (.string ⟨#[38, 38]⟩)))), (1, 1, .k (.d (.lit (.int .i64 19)))), (2, 1, .k (.d (.lit (.int .i64 4))))]),
 oM 4 (.bld [.d (.lit (.string ⟨#[]⟩)), .d (.lit (.int .i64 0)), .d (.lit (.int .i64 0))] [(0, 1, .k (.d (.lit (.string ⟨#[124]⟩)))), (1, 1, .k (.d (.lit (.int .i64 11)))), (2, 1, .k (.d (.lit (.int .i64 5))))]),
 oM 5 (.bld [.d (.lit (.string ⟨#[]⟩)), .d (.lit (.int .i64 0)), .d (.lit (.int .i64 0))] [(0, 1, .k (.d (.lit (.string ⟨#[94]⟩)))), (1, 1, .k (.d (.lit (.int .i64 12)))), (2, 1, .k (.d (.lit (.int .i64 6))))]),
 oM 6 (.bld [.d (.lit (.string ⟨#[]⟩)), .d (.lit (.int .i64 0)), .d (.lit (.int .i64 0))] [(0, 1, .k (.d (.lit (.string ⟨#[38]⟩)))), (1, 1, .k (.d (.lit (.int .i64 10)))), (2, 1, .k (.d (.lit (.int .i64 7))))]),
 oM 7 (.bld [.d (.lit (.string ⟨#[]⟩)), .d (.lit (.int .i64 0)), .d (.lit (.int .i64 0))] [(0, 1, .k (.d (.lit (.string ⟨#[61, 61]⟩)))), (1, 1, .k (.d (.lit (.int .i64 15)))), (2, 1, .k (.d (.lit (.int .i64 8))))]),
 oM 8 (.bld [.d (.lit (.string ⟨#[]⟩)), .d (.lit (.int .i64 0)), .d (.lit (.int .i64 0))] [(0, 1, .k (.d (.lit (.string ⟨#[33, 61]⟩)))), (1, 1, .k (.d (.lit (.int .i64 16)))), (2, 1, .k (.d (.lit (.int .i64 8))))]),
 oM 9 (.bld [.d (.lit (.string ⟨#[]⟩)), .d (.lit (.int .i64 0)), .d (.lit (.int .i64 0))] [(0, 1, .k (.d (.lit (.string ⟨#[60]⟩)))), (1, 1, .k (.d (.lit (.int .i64 17)))), (2, 1, .k (.d (.lit (.int .i64 9))))]),
 oM 10 (.bld [.d (.lit (.string ⟨#[]⟩)), .d (.lit (.int .i64 0)), .d (.lit (.int .i64 0))] [(0, 1, .k (.d (.lit (.string ⟨#[60, 61]⟩)))), (1, 1, .k (.d (.lit (.int .i64 18)))), (2, 1, .k (.d (.lit (.int .i64 9))))]),
 oM 11 (.bld [.d (.lit (.string ⟨#[]⟩)), .d (.lit (.int .i64 0)), .d (.lit (.int .i64 0))] [(0, 1, .k (.d (.lit (.string ⟨#[60, 60]⟩)))), (1, 1, .k (.d (.lit (.int .i64 13)))), (2, 1, .k (.d (.lit (.int .i64 10))))]),
 oM 12 (.bld [.d (.lit (.string ⟨#[]⟩)), .d (.lit (.int .i64 0)), .d (.lit (.int .i64 0))] [(0, 1, .k (.d (.lit (.string ⟨#[62, 62]⟩)))), (1, 1, .k (.d (.lit (.int .i64 14)))), (2, 1, .k (.d (.lit (.int .i64 10))))]),
 oM 13 (.bld [.d (.lit (.string ⟨#[]⟩)), .d (.lit (.int .i64 0)), .d (.lit (.int .i64 0))] [(0, 1, .k (.d (.lit (.string ⟨#[43]⟩)))), (1, 1, .k (.d (.lit (.int .i64 7)))), (2, 1, .k (.d (.lit (.int .i64 11))))]),
 oM 14 (.bld [.d (.lit (.string ⟨#[]⟩)), .d (.lit (.int .i64 0)), .d (.lit (.int .i64 0))] [(0, 1, .k (.d (.lit (.string ⟨#[45]⟩)))), (1, 1, .k (.d (.lit (.int .i64 8)))), (2, 1, .k (.d (.lit (.int .i64 11))))]),
 oM 15 (.bld [.d (.lit (.string ⟨#[]⟩)), .d (.lit (.int .i64 0)), .d (.lit (.int .i64 0))] [(0, 1, .k (.d (.lit (.string ⟨#[42]⟩)))), (1, 1, .k (.d (.lit (.int .i64 9)))), (2, 1, .k (.d (.lit (.int .i64 12))))]),
 oM 16 (.mks 56 3 [.t 1, .t 2, .t 3, .t 4, .t 5, .t 6, .t 7, .t 8, .t 9, .t 10, .t 11, .t 12, .t 13, .t 14, .t 15]), oV 0 16] [0]) (.ret))
def rs64 : List RV := [.t 0 false]
theorem k64 : okFn G.tab Tryz.f64 0 c64 rs64 = true := by kernel_rfl
def c65 : Cd := .seq (.ops [oM 1 (.box 24 (.t 0)), oM 2 (.mv (kI 0))] [1]) (.seq (.seq (.ops [oM 6 (.fa 0 (.t 1)), oM 7 (.load 1 false (.t 6)), oM 8 (.call 33 [.t 7]), oV 5 8, oM 9 (.ext (.t 5) 0), oM 10 (.ext (.t 5) 1),
 oM 3 (.new 56 [.d (.lit (.string ⟨#[]⟩)), .d (.lit (.int .i64 0)), .d (.lit (.int .i64 0))]), ⟨none, .sto 3 (.t 3) (.t 9), none⟩, oV 4 10] [1, 3, 4]) (.seq (.ops [oV 11 4] [1, 3, 11]) (.cond (.t 11) (
 .seq (.ops [oM 12 (.fa 2 (.t 3)), oM 13 (.load 1 false (.t 12)), oV 2 13] [2]) (.ret)) (.skip)))) (.seq (.block 0 (.seq (.ops [oM 15 (.fa 0 (.t 1)), oM 16 (.load 1 false (.t 15)), oM 17 (.bin .eql (.t 16) (kI 22)),
 oV 14 17] [1, 14]) (.cond (.t 14) (.seq (.ops [oM 2 (.mv (kI 1))] [2]) (.ret)) (.seq (.ops [oM 19 (.fa 0 (.t 1)), oM 20 (.load 1 false (.t 19)), oM 21 (.bin .eql (.t 20) (kI 23)), oV 18 21] [1, 18]) (
 .cond (.t 18) (.seq (.ops [oM 2 (.mv (kI 9))] [2]) (.ret)) (.seq (.ops [oM 23 (.fa 0 (.t 1)), oM 24 (.load 1 false (.t 23)), oM 25 (.call 35 [.t 24]), oM 26 (.bin .neq (.t 25) (kS ⟨#[]⟩)), oV 22 26] [22]) (
 .cond (.t 22) (.seq (.ops [oM 2 (.mv (kI 13))] [2]) (.ret)) (.skip)))))))) (.seq (.ops [oM 2 (.mv (kI 14))] [2]) (.ret))))
def rs65 : List RV := [.t 2 false]
theorem k65 : okFn G.tab Tryz.f65 1 c65 rs65 = true := by kernel_rfl
def c37 : Cd := .seq (.ops [oM 2 (.mv (kS ⟨#[]⟩))] [0]) (.seq (.ops [oV 3 0, oM 4 (.call 69 [.t 3]), oV 2 4] [2]) (.ret))
def rs37 : List RV := [.t 2 false]
theorem k37 : okFn G.tab Tryz.f37 1 c37 rs37 = true := by kernel_rfl
def c11 : Cd := .seq (.ops [oM 2 (.new 24 [.d (.lit (.int .i64 0)), .d (.lit (.int .i64 0)), .d (.lit (.string ⟨#[]⟩)), .nil]), oM 3 (.mv (kI 0)), oM 4 (.mv (kI 0))] [0, 2]) (.seq (.ops [oV 12 0, oM 13 (.call 20 [.t 12]),
 oV 11 13, oM 14 (.ext (.t 11) 0), oM 15 (.ext (.t 11) 1), oM 16 (.ext (.t 11) 2), oV 5 14, oV 6 15, oV 7 16] [2, 5, 6, 7]) (.seq (.seq (.ops [oV 17 7, oM 18 (.bin .neq (.t 17) (kI 0))] [2, 5, 6, 7, 18]) (
 .cond (.t 18) (.seq (.ops [oM 19 (.bld [.d (.lit (.int .i64 0)), .d (.lit (.int .i64 0)), .d (.lit (.string ⟨#[]⟩)), .nil] []), oV 20 6, oV 21 7, ⟨none, .sto 4 (.t 2) (.t 19), none⟩, oV 3 20, oV 4 21] [2, 3, 4]) (
 .ret)) (.skip))) (.seq (.ops [oV 23 5, oM 24 (.call 22 [.t 23]), oM 25 (.call 21 [.t 24, .k (.d (.lit (.int .i64 0)))]), oV 22 25, oM 26 (.ext (.t 22) 0), oM 27 (.ext (.t 22) 1), oM 28 (.ext (.t 22) 2),
 oM 8 (.new 24 [.d (.lit (.int .i64 0)), .d (.lit (.int .i64 0)), .d (.lit (.string ⟨#[]⟩)), .nil]), ⟨none, .sto 4 (.t 8) (.t 26), none⟩, oV 9 27, oV 7 28] [2, 5, 7, 8, 9]) (.seq (.block 0 (.seq (.ops [
 oV 30 7, oM 31 (.bin .neq (.t 30) (kI 0)), oV 29 31] [2, 5, 7, 8, 9, 29]) (.cond (.t 29) (.seq (.ops [oM 32 (.bld [.d (.lit (.int .i64 0)), .d (.lit (.int .i64 0)), .d (.lit (.string ⟨#[]⟩)), .nil] []),
 oV 33 5, oV 34 9, oM 35 (.call 23 [.t 33, .t 34]), oV 36 7, ⟨none, .sto 4 (.t 2) (.t 32), none⟩, oV 3 35, oV 4 36] [2, 3, 4]) (.ret)) (.seq (.ops [oV 38 9, oV 39 5, oM 40 (.len false (.t 39)), oM 41 (.bin .lss (.t 38) (.t 40)),
 oV 37 41] [2, 5, 8, 9, 37]) (.cond (.t 37) (.seq (.drawg [(oM 42 (.bld [.d (.lit (.int .i64 0)), .d (.lit (.int .i64 0)), .d (.lit (.string ⟨#[]⟩)), .nil] []), .free 0), (oV 43 5, .free 0), (oV 44 9, .free 0),
 (oM 45 (.ia 4 (.t 43) (.t 44)), .free 0), (oM 46 (.fa 3 (.t 45)), .free 0), (oM 47 (.load 1 false (.t 46)), .calm 0 1), (⟨none, .sto 4 (.t 2) (.t 42), none⟩, .act), (oV 3 47, .free 1), (oM 4 (.mv (kI 5)), .free 1)] [2, 3, 4]) (
 .ret)) (.skip)))))) (.seq (.seq (.ops [oM 48 (.load 4 true (.t 8)), oM 49 (.call 16 [.t 48]), oV 10 49] [2, 8, 10]) (.seq (.ops [oV 50 10, oM 51 (.bin .neq (.t 50) (kI 0))] [2, 8, 10, 51]) (.cond (.t 51) (
 .seq (.ops [oM 52 (.bld [.d (.lit (.int .i64 0)), .d (.lit (.int .i64 0)), .d (.lit (.string ⟨#[]⟩)), .nil] []), oV 53 10, ⟨none, .sto 4 (.t 2) (.t 52), none⟩, oM 3 (.mv (kI 0)), oV 4 53] [2, 3, 4]) (
 .ret)) (.skip)))) (.seq (.ops [oM 54 (.load 4 true (.t 8)), ⟨none, .sto 4 (.t 2) (.t 54), none⟩, oM 3 (.mv (kI 0)), oM 4 (.mv (kI 0))] [2, 3, 4]) (.ret)))))))
def rs11 : List RV := [.c 2 4 true, .t 3 false, .t 4 false]
theorem k11 : okFn G.tab Tryz.f11 1 c11 rs11 = true := by kernel_rfl
def c23 : Cd := .seq (.ops [oM 4 (.mv (kI 0))] [0, 1]) (.seq (.seq (.ops [oV 5 0, oM 6 (.len false (.t 5)), oM 7 (.bin .eql (.t 6) (kI 0))] [0, 1, 7]) (.cond (.t 7) (.seq (.ops [oM 4 (.mv (kI 1))] [4]) (
 .ret)) (.skip))) (.seq (.ops [oV 8 0, oV 9 1, oV 10 0, oM 11 (.len false (.t 10)), oM 12 (.bin .sub (.t 11) (kI 1)), oM 13 (.mx false (.t 9) (.t 12)), oM 14 (.ia 4 (.t 8) (.t 13)), oM 15 (.fa 3 (.t 14)),
 oM 16 (.load 1 false (.t 15)), oV 4 16] [4]) (.ret)))
def rs23 : List RV := [.t 4 false]
theorem k23 : okFn G.tab Tryz.f23 2 c23 rs23 = true := by kernel_rfl
def c89 : Cd := .seq (.ops [oM 4 (.new 24 [.d (.lit (.int .i64 0)), .d (.lit (.int .i64 0)), .d (.lit (.string ⟨#[]⟩)), .nil])] [0, 1, 4]) (.seq (.ops [oV 5 0, oV 6 1, oM 7 (.bld [.d (.lit (.int .i64 0)), .d (.lit (.int .i64 0)), .d (.lit (.string ⟨#[]⟩)), .nil] [(0, 1, .t 5), (3, 1, .t 6)]),
 ⟨none, .sto 4 (.t 4) (.t 7), none⟩] [4]) (.ret))
def rs89 : List RV := [.c 4 4 true]
theorem k89 : okFn G.tab Tryz.f89 2 c89 rs89 = true := by kernel_rfl
def c48 : Cd := .seq (.ops [oM 2 (.new 24 [.d (.lit (.int .i64 0)), .d (.lit (.int .i64 0)), .d (.lit (.string ⟨#[]⟩)), .nil])] [0, 2]) (.seq (.ops [oV 5 0, oM 6 (.call 86 [.t 5]), oM 3 (.new 24 [.d (.lit (.int .i64 0)), .d (.lit (.int .i64 0)), .d (.lit (.string ⟨#[]⟩)), .nil]),
 ⟨none, .sto 4 (.t 3) (.t 6), none⟩] [0, 2, 3]) (.seq (.seq (.ops [oV 7 0, oM 8 (.call 87 [.t 7, .k (.d (.lit (.string ⟨#[63]⟩)))]), oM 9 (.un .not (.t 8))] [0, 2, 3, 9]) (.cond (.t 9) (.seq (.ops [oM 10 (.load 4 true (.t 3)),
 ⟨none, .sto 4 (.t 2) (.t 10), none⟩] [2]) (.ret)) (.skip))) (.seq (.ops [oV 11 0, oM 12 (.call 48 [.t 11]), oM 4 (.new 24 [.d (.lit (.int .i64 0)), .d (.lit (.int .i64 0)), .d (.lit (.string ⟨#[]⟩)), .nil]),
 ⟨none, .sto 4 (.t 4) (.t 12), none⟩] [0, 2, 3, 4]) (.seq (.ops [oV 13 0, oM 14 (.call 88 [.t 13, .k (.d (.lit (.string ⟨#[58]⟩)))])] [0, 2, 3, 4]) (.seq (.drawx [oM 15 (.load 4 true (.t 3)), oM 16 (.load 4 true (.t 4)),
 oV 17 0] (some 18) 48 [.t 17] [oM 19 (.mks 24 4 [.t 15, .t 16, .t 18]), oM 20 (.call 89 [.k (.d (.lit (.int .i64 22))), .t 19])] 4 (.t 2) (.t 20) [2]) (.ret))))))
def rs48 : List RV := [.c 2 4 true]
theorem k48 : okFn G.tab Tryz.f48 1 c48 rs48 = true := by kernel_rfl
def c86 : Cd := .seq (.ops [oM 2 (.new 24 [.d (.lit (.int .i64 0)), .d (.lit (.int .i64 0)), .d (.lit (.string ⟨#[]⟩)), .nil])] [0, 2]) (.seq (.ops [oV 4 0, oM 5 (.call 116 [.t 4, .k (.d (.lit (.int .i64 3)))]),
 oM 3 (.new 24 [.d (.lit (.int .i64 0)), .d (.lit (.int .i64 0)), .d (.lit (.string ⟨#[]⟩)), .nil]), ⟨none, .sto 4 (.t 3) (.t 5), none⟩] [0, 2, 3]) (.seq (.seq (.ops [oV 6 0, oM 7 (.call 87 [.t 6, .k (.d (.lit (.string ⟨#[61, 62]⟩)))]),
 oM 8 (.un .not (.t 7))] [0, 2, 3, 8]) (.cond (.t 8) (.seq (.ops [oM 9 (.load 4 true (.t 3)), ⟨none, .sto 4 (.t 2) (.t 9), none⟩] [2]) (.ret)) (.skip))) (.seq (.drawx [oM 10 (.load 4 true (.t 3)), oV 11 0] (some 12) 86 [.t 11] [
 oM 13 (.mks 24 4 [.t 10, .t 12]), oM 14 (.call 89 [.k (.d (.lit (.int .i64 21))), .t 13])] 4 (.t 2) (.t 14) [2]) (.ret))))
def rs86 : List RV := [.c 2 4 true]
theorem k86 : okFn G.tab Tryz.f86 1 c86 rs86 = true := by kernel_rfl
def c116 : Cd := .seq (.ops [oM 4 (.new 24 [.d (.lit (.int .i64 0)), .d (.lit (.int .i64 0)), .d (.lit (.string ⟨#[]⟩)), .nil])] [0, 1, 4]) (.seq (.seq (.ops [oV 10 1, oM 11 (.bin .gtr (.t 10) (kI 12))] [0, 1, 4, 11]) (
 .cond (.t 11) (.seq (.ops [oV 12 0, oM 13 (.call 136 [.t 12]), ⟨none, .sto 4 (.t 4) (.t 13), none⟩] [4]) (.ret)) (.skip))) (.seq (.ops [oV 14 0, oV 15 1, oM 16 (.bin .add (.t 15) (kI 1)), oM 17 (.call 116 [.t 14, .t 16]),
 oM 5 (.new 24 [.d (.lit (.int .i64 0)), .d (.lit (.int .i64 0)), .d (.lit (.string ⟨#[]⟩)), .nil]), ⟨none, .sto 4 (.t 5) (.t 17), none⟩] [0, 1, 4, 5]) (.block 0 (.loop (.block 1 (.seq (.seq (.ops [oV 18 1,
 oM 19 (.bin .eql (.t 18) (kI 9)), oV 20 19, ⟨some 21, .mv (.t 0), (some (20, true))⟩, ⟨some 22, .call 87 [.t 21, .k (.d (.lit (.string ⟨#[105, 110, 115, 105, 100, 101]⟩)))], (some (20, true))⟩, oM 23 (.pick (.t 20) (.t 22) kF)] [0, 1, 4, 5, 23]) (
 .cond (.t 23) (.seq (.ops [oV 24 0, oM 25 (.load 4 true (.t 5)), oM 26 (.call 137 [.t 24, .t 25]), ⟨none, .sto 4 (.t 5) (.t 26), none⟩] [0, 1, 4, 5]) (.exit 1)) (.skip))) (.seq (.ops [oV 28 0, oV 29 1,
 oM 30 (.call 138 [.t 28, .t 29]), oV 27 30, oM 31 (.ext (.t 27) 0), oM 32 (.ext (.t 27) 1), oM 33 (.ext (.t 27) 2), oM 6 (.new 56 [.d (.lit (.string ⟨#[]⟩)), .d (.lit (.int .i64 0)), .d (.lit (.int .i64 0))]),
 ⟨none, .sto 3 (.t 6) (.t 31), none⟩, oV 7 32, oV 8 33] [0, 1, 4, 5, 6, 7, 8]) (.seq (.seq (.ops [oV 34 8, oM 35 (.un .not (.t 34))] [0, 1, 4, 5, 6, 7, 35]) (.cond (.t 35) (.seq (.ops [oM 36 (.load 4 true (.t 5)),
 ⟨none, .sto 4 (.t 4) (.t 36), none⟩] [4]) (.ret)) (.skip))) (.seq (.ops [oV 37 0, oV 38 1, oM 39 (.bin .add (.t 38) (kI 1)), oM 40 (.call 116 [.t 37, .t 39]), oM 9 (.new 24 [.d (.lit (.int .i64 0)), .d (.lit (.int .i64 0)), .d (.lit (.string ⟨#[]⟩)), .nil]),
 ⟨none, .sto 4 (.t 9) (.t 40), none⟩] [0, 1, 4, 5, 6, 7, 9]) (.seq (.seq (.ops [oV 41 7] [0, 1, 4, 5, 6, 9, 41]) (.cond (.t 41) (.ops [oM 42 (.load 4 true (.t 9)), oM 43 (.load 4 true (.t 5)), ⟨none, .sto 4 (.t 5) (.t 42), none⟩,
 ⟨none, .sto 4 (.t 9) (.t 43), none⟩] [0, 1, 4, 5, 6, 9]) (.skip))) (.ops [oM 44 (.fa 1 (.t 6)), oM 45 (.load 1 false (.t 44)), oM 46 (.load 4 true (.t 5)), oM 47 (.load 4 true (.t 9)), oM 48 (.mks 24 4 [.t 46, .t 47]),
 oM 49 (.call 89 [.t 45, .t 48]), ⟨none, .sto 4 (.t 5) (.t 49), none⟩] [0, 1, 4, 5])))))))))))
def rs116 : List RV := [.c 4 4 true]
theorem k116 : okFn G.tab Tryz.f116 2 c116 rs116 = true := by kernel_rfl
def c136 : Cd := .seq (.ops [oM 2 (.new 24 [.d (.lit (.int .i64 0)), .d (.lit (.int .i64 0)), .d (.lit (.string ⟨#[]⟩)), .nil])] [0, 2]) (.seq (.seq (.ops [oM 5 (.mks 3 1 [.k (.d (.lit (.int .i64 4))), .k (.d (.lit (.int .i64 5))), .k (.d (.lit (.int .i64 6)))]),
 oM 6 (.len false (.t 5)), oM 7 (.mv (kI 0))] [0, 2, 5, 6, 7]) (.block 0 (.loop (.seq (.ops [oM 8 (.bin .lss (.t 7) (.t 6))] [0, 2, 5, 6, 7, 8]) (.seq (.cond (.t 8) (.skip) (.exit 0)) (.seq (.block 1 (
 .seq (.ops [oM 9 (.ia 1 (.t 5) (.t 7)), oM 10 (.load 1 false (.t 9)), oV 4 10] [0, 2, 4, 5, 6, 7]) (.seq (.ops [oV 11 0, oV 12 4, oM 13 (.call 35 [.t 12]), oM 14 (.call 87 [.t 11, .t 13])] [0, 2, 4, 5, 6, 7, 14]) (
 .cond (.t 14) (.seq (.ops [oV 15 4, oV 16 0, oM 17 (.call 136 [.t 16]), oM 18 (.mks 24 4 [.t 17]), oM 19 (.call 89 [.t 15, .t 18]), ⟨none, .sto 4 (.t 2) (.t 19), none⟩] [2]) (.ret)) (.skip))))) (.ops [
 oM 20 (.bin .add (.t 7) (kI 1)), oV 7 20] [0, 2, 5, 6, 7]))))))) (.seq (.ops [oV 21 0, oM 22 (.call 152 [.t 21]), ⟨none, .sto 4 (.t 2) (.t 22), none⟩] [2]) (.ret)))
def rs136 : List RV := [.c 2 4 true]
theorem k136 : okFn G.tab Tryz.f136 1 c136 rs136 = true := by kernel_rfl
def c137 : Cd := .seq (.ops [oM 3 (.box 24 (.t 1)), oM 4 (.new 24 [.d (.lit (.int .i64 0)), .d (.lit (.int .i64 0)), .d (.lit (.string ⟨#[]⟩)), .nil])] [0, 3, 4]) (.seq (.ops [oM 7 (.load 4 true (.t 3)),
 oM 8 (.mkso 24 4 [.t 7]), oM 5 (.mvo 8)] [0, 4, 5]) (.seq (.ops [oV 9 0, oM 10 (.call 88 [.t 9, .k (.d (.lit (.string ⟨#[123]⟩)))])] [0, 4, 5]) (.seq (.block 0 (.loop (.block 1 (.seq (.ops [oV 11 0,
 oM 12 (.call 48 [.t 11]), oM 6 (.new 24 [.d (.lit (.int .i64 0)), .d (.lit (.int .i64 0)), .d (.lit (.string ⟨#[]⟩)), .nil]), ⟨none, .sto 4 (.t 6) (.t 12), none⟩] [0, 4, 5, 6]) (.seq (.ops [oV 13 0,
 oM 14 (.call 88 [.t 13, .k (.d (.lit (.string ⟨#[46, 46]⟩)))])] [0, 4, 5, 6]) (.seq (.drawg [(oM 15 (.mvo 5), .slot 0), (oM 16 (.load 4 true (.t 6)), .calm 0 1), (oV 17 0, .free 0), (oM 18 (.call 48 [.t 17]), .act),
 (oM 19 (.mks 24 4 [.t 16, .t 18]), .free 1), (oM 20 (.app 24 4 56 15 (.t 19)), .slot 1), (oM 5 (.mvo 20), .slot 1)] [0, 4, 5]) (.seq (.ops [oV 21 0, oM 22 (.call 87 [.t 21, .k (.d (.lit (.string ⟨#[44]⟩)))]),
 oM 23 (.un .not (.t 22))] [0, 4, 5, 23]) (.cond (.t 23) (.exit 0) (.skip))))))))) (.seq (.ops [oV 24 0, oM 25 (.call 88 [.t 24, .k (.d (.lit (.string ⟨#[125]⟩)))])] [4, 5]) (.seq (.ops [oV 26 5, oM 27 (.call 89 [.k (.d (.lit (.int .i64 23))), .t 26]),
 ⟨none, .sto 4 (.t 4) (.t 27), none⟩] [4]) (.ret))))))
def rs137 : List RV := [.c 4 4 true]
theorem k137 : okFn G.tab Tryz.f137 2 c137 rs137 = true := by kernel_rfl
def c138 : Cd := .seq (.ops [oM 4 (.new 56 [.d (.lit (.string ⟨#[]⟩)), .d (.lit (.int .i64 0)), .d (.lit (.int .i64 0))]), oM 5 (.mv kF), oM 6 (.mv kF)] [0, 1, 4]) (.seq (.seq (.ops [oM 9 (.call 64 []),
 oM 10 (.len false (.t 9)), oM 11 (.mv (kI 0))] [0, 1, 4, 9, 10, 11]) (.block 0 (.loop (.seq (.ops [oM 12 (.bin .lss (.t 11) (.t 10))] [0, 1, 4, 9, 10, 11, 12]) (.seq (.cond (.t 12) (.skip) (.exit 0)) (
 .seq (.block 1 (.seq (.ops [oM 13 (.ia 3 (.t 9) (.t 11)), oM 14 (.load 3 true (.t 13)), oM 8 (.new 56 [.d (.lit (.string ⟨#[]⟩)), .d (.lit (.int .i64 0)), .d (.lit (.int .i64 0))]), ⟨none, .sto 3 (.t 8) (.t 14), none⟩] [0, 1, 4, 8, 9, 10, 11]) (
 .seq (.ops [oM 15 (.fa 2 (.t 8)), oM 16 (.load 1 false (.t 15)), oV 17 1, oM 18 (.bin .eql (.t 16) (.t 17)), oV 19 18, ⟨some 20, .mv (.t 0), (some (19, true))⟩, ⟨some 21, .fa 0 (.t 8), (some (19, true))⟩,
 ⟨some 22, .load 1 false (.t 21), (some (19, true))⟩, ⟨some 23, .call 87 [.t 20, .t 22], (some (19, true))⟩, oM 24 (.pick (.t 19) (.t 23) kF)] [0, 1, 4, 8, 9, 10, 11, 24]) (.cond (.t 24) (.seq (.ops [
 oM 25 (.load 3 true (.t 8)), ⟨none, .sto 3 (.t 4) (.t 25), none⟩, oM 5 (.mv kF), oM 6 (.mv kT)] [4, 5, 6]) (.ret)) (.skip))))) (.ops [oM 26 (.bin .add (.t 11) (kI 1)), oV 11 26] [0, 1, 4, 9, 10, 11]))))))) (
 .seq (.seq (.ops [oV 27 1, oM 28 (.bin .neq (.t 27) (kI 9))] [0, 4, 28]) (.cond (.t 28) (.seq (.ops [oM 29 (.bld [.d (.lit (.string ⟨#[]⟩)), .d (.lit (.int .i64 0)), .d (.lit (.int .i64 0))] []), ⟨none, .sto 3 (.t 4) (.t 29), none⟩,
 oM 5 (.mv kF), oM 6 (.mv kF)] [4, 5, 6]) (.ret)) (.skip))) (.seq (.seq (.ops [oV 30 0, oM 31 (.call 87 [.t 30, .k (.d (.lit (.string ⟨#[62]⟩)))])] [0, 4, 31]) (.cond (.t 31) (.seq (.ops [oM 32 (.bld [.d (.lit (.string ⟨#[]⟩)), .d (.lit (.int .i64 0)), .d (.lit (.int .i64 0))] [(1, 1, .k (.d (.lit (.int .i64 17))))]),
 ⟨none, .sto 3 (.t 4) (.t 32), none⟩, oM 5 (.mv kT), oM 6 (.mv kT)] [4, 5, 6]) (.ret)) (.skip))) (.seq (.seq (.ops [oV 33 0, oM 34 (.call 87 [.t 33, .k (.d (.lit (.string ⟨#[62, 61]⟩)))])] [4, 34]) (
 .cond (.t 34) (.seq (.ops [oM 35 (.bld [.d (.lit (.string ⟨#[]⟩)), .d (.lit (.int .i64 0)), .d (.lit (.int .i64 0))] [(1, 1, .k (.d (.lit (.int .i64 18))))]), ⟨none, .sto 3 (.t 4) (.t 35), none⟩, oM 5 (.mv kT),
 oM 6 (.mv kT)] [4, 5, 6]) (.ret)) (.skip))) (.seq (.ops [oM 36 (.bld [.d (.lit (.string ⟨#[]⟩)), .d (.lit (.int .i64 0)), .d (.lit (.int .i64 0))] []), ⟨none, .sto 3 (.t 4) (.t 36), none⟩, oM 5 (.mv kF),
 oM 6 (.mv kF)] [4, 5, 6]) (.ret))))))
def rs138 : List RV := [.c 4 3 true, .t 5 false, .t 6 false]
theorem k138 : okFn G.tab Tryz.f138 2 c138 rs138 = true := by kernel_rfl
def c152 : Cd := .seq (.ops [oM 2 (.new 24 [.d (.lit (.int .i64 0)), .d (.lit (.int .i64 0)), .d (.lit (.string ⟨#[]⟩)), .nil])] [0, 2]) (.seq (.seq (.ops [oV 10 0, oM 11 (.call 87 [.t 10, .k (.d (.lit (.string ⟨#[40]⟩)))])] [0, 2, 11]) (
 .cond (.t 11) (.seq (.ops [oV 12 0, oM 13 (.call 48 [.t 12]), oM 3 (.new 24 [.d (.lit (.int .i64 0)), .d (.lit (.int .i64 0)), .d (.lit (.string ⟨#[]⟩)), .nil]), ⟨none, .sto 4 (.t 3) (.t 13), none⟩] [0, 2, 3]) (
 .seq (.ops [oV 14 0, oM 15 (.call 88 [.t 14, .k (.d (.lit (.string ⟨#[41]⟩)))])] [2, 3]) (.seq (.ops [oM 16 (.load 4 true (.t 3)), ⟨none, .sto 4 (.t 2) (.t 16), none⟩] [2]) (.ret)))) (.skip))) (.seq (
 .seq (.ops [oV 18 0, oM 19 (.call 139 [.t 18]), oV 17 19, oM 20 (.ext (.t 17) 0), oM 21 (.ext (.t 17) 1), oM 4 (.new 41 [.d (.lit (.int .i64 0)), .d (.lit (.int .i64 0)), .d (.lit (.string ⟨#[]⟩)), .d (.lit (.int .i64 0))]),
 ⟨none, .sto 4 (.t 4) (.t 20), none⟩, oV 5 21] [0, 2, 4, 5]) (.seq (.ops [oV 22 5, oV 23 22, ⟨some 24, .fa 0 (.t 4), (some (23, true))⟩, ⟨some 25, .load 1 false (.t 24), (some (23, true))⟩, ⟨some 26, .bin .eql (.t 25) (kI 3), (some (23, true))⟩,
 oM 27 (.pick (.t 23) (.t 26) kF)] [0, 2, 27]) (.cond (.t 27) (.seq (.ops [oV 28 0, oM 29 (.call 164 [.t 28]), oM 30 (.bld [.d (.lit (.int .i64 0)), .d (.lit (.int .i64 0)), .d (.lit (.string ⟨#[]⟩)), .nil] [(0, 1, .k (.d (.lit (.int .i64 1)))), (1, 1, .t 29)]),
 ⟨none, .sto 4 (.t 2) (.t 30), none⟩] [2]) (.ret)) (.skip)))) (.seq (.ops [oV 31 0, oM 32 (.call 165 [.t 31]), oV 6 32] [0, 2, 6]) (.seq (.block 0 (.seq (.ops [oV 34 6, oM 35 (.bin .eql (.t 34) (kS ⟨#[115, 117, 109]⟩)),
 oV 36 35, ⟨some 37, .mv (.t 0), (some (36, true))⟩, ⟨some 38, .call 87 [.t 37, .k (.d (.lit (.string ⟨#[40]⟩)))], (some (36, true))⟩, oM 39 (.pick (.t 36) (.t 38) kF), oV 33 39] [0, 2, 6, 33]) (.cond (.t 33) (
 .seq (.ops [oV 40 0, oM 41 (.call 165 [.t 40]), oV 7 41] [0, 2, 7]) (.seq (.ops [oV 42 0, oM 43 (.call 88 [.t 42, .k (.d (.lit (.string ⟨#[41]⟩)))])] [2, 7]) (.seq (.ops [oV 44 7, oM 45 (.bld [.d (.lit (.int .i64 0)), .d (.lit (.int .i64 0)), .d (.lit (.string ⟨#[]⟩)), .nil] [(0, 1, .k (.d (.lit (.int .i64 24)))), (2, 1, .t 44)]),
 ⟨none, .sto 4 (.t 2) (.t 45), none⟩] [2]) (.ret)))) (.seq (.ops [oV 47 6, oM 48 (.bin .eql (.t 47) (kS ⟨#[111, 110, 101, 115]⟩)), oV 49 48, ⟨some 50, .mv (.t 0), (some (49, true))⟩, ⟨some 51, .call 87 [.t 50, .k (.d (.lit (.string ⟨#[40]⟩)))], (some (49, true))⟩,
 oM 52 (.pick (.t 49) (.t 51) kF), oV 46 52] [0, 2, 6, 46]) (.cond (.t 46) (.seq (.ops [oV 53 0, oM 54 (.call 48 [.t 53]), oM 8 (.new 24 [.d (.lit (.int .i64 0)), .d (.lit (.int .i64 0)), .d (.lit (.string ⟨#[]⟩)), .nil]),
 ⟨none, .sto 4 (.t 8) (.t 54), none⟩] [0, 2, 8]) (.seq (.ops [oV 55 0, oM 56 (.call 88 [.t 55, .k (.d (.lit (.string ⟨#[41]⟩)))])] [2, 8]) (.seq (.ops [oM 57 (.load 4 true (.t 8)), oM 58 (.mks 24 4 [.t 57]),
 oM 59 (.call 89 [.k (.d (.lit (.int .i64 25))), .t 58]), ⟨none, .sto 4 (.t 2) (.t 59), none⟩] [2]) (.ret)))) (.seq (.ops [oV 61 0, oM 62 (.call 87 [.t 61, .k (.d (.lit (.string ⟨#[91]⟩)))]), oV 60 62] [0, 2, 6, 60]) (
 .cond (.t 60) (.seq (.ops [oV 63 0, oM 64 (.call 48 [.t 63]), oM 9 (.new 24 [.d (.lit (.int .i64 0)), .d (.lit (.int .i64 0)), .d (.lit (.string ⟨#[]⟩)), .nil]), ⟨none, .sto 4 (.t 9) (.t 64), none⟩] [0, 2, 6, 9]) (
 .seq (.ops [oV 65 0, oM 66 (.call 88 [.t 65, .k (.d (.lit (.string ⟨#[93]⟩)))])] [2, 6, 9]) (.seq (.ops [oV 67 6, oM 68 (.load 4 true (.t 9)), oM 69 (.mks 24 4 [.t 68]), oM 70 (.bld [.d (.lit (.int .i64 0)), .d (.lit (.int .i64 0)), .d (.lit (.string ⟨#[]⟩)), .nil] [(0, 1, .k (.d (.lit (.int .i64 3)))), (2, 1, .t 67), (3, 1, .t 69)]),
 ⟨none, .sto 4 (.t 2) (.t 70), none⟩] [2]) (.ret)))) (.seq (.ops [oV 72 0, oM 73 (.call 87 [.t 72, .k (.d (.lit (.string ⟨#[64]⟩)))]), oV 71 73] [0, 2, 6, 71]) (.cond (.t 71) (.seq (.ops [oV 74 6, oM 75 (.bin .add (.t 74) (kS ⟨#[91]⟩)),
 oV 76 0, oM 77 (.call 164 [.t 76]), oM 78 (.call 37 [.t 77]), oM 79 (.bin .add (.t 75) (.t 78)), oM 80 (.bin .add (.t 79) (kS ⟨#[93]⟩)), oM 81 (.bld [.d (.lit (.int .i64 0)), .d (.lit (.int .i64 0)), .d (.lit (.string ⟨#[]⟩)), .nil] [(0, 1, .k (.d (.lit (.int .i64 2)))), (2, 1, .t 80)]),
 ⟨none, .sto 4 (.t 2) (.t 81), none⟩] [2]) (.ret)) (.skip)))))))))) (.seq (.ops [oV 82 6, oM 83 (.bld [.d (.lit (.int .i64 0)), .d (.lit (.int .i64 0)), .d (.lit (.string ⟨#[]⟩)), .nil] [(0, 1, .k (.d (.lit (.int .i64 2)))), (2, 1, .t 82)]),
 ⟨none, .sto 4 (.t 2) (.t 83), none⟩] [2]) (.ret))))))
def rs152 : List RV := [.c 2 4 true]
theorem k152 : okFn G.tab Tryz.f152 1 c152 rs152 = true := by kernel_rfl
def c164 : Cd := .seq (.ops [oM 2 (.mv (kI 0))] [0]) (.seq (.ops [oV 6 0, oM 7 (.call 139 [.t 6]), oV 5 7, oM 8 (.ext (.t 5) 0), oM 9 (.ext (.t 5) 1), oM 3 (.new 41 [.d (.lit (.int .i64 0)), .d (.lit (.int .i64 0)), .d (.lit (.string ⟨#[]⟩)), .d (.lit (.int .i64 0))]),
 ⟨none, .sto 4 (.t 3) (.t 8), none⟩, oV 4 9] [0, 3, 4]) (.seq (.seq (.ops [oV 10 4, oM 11 (.un .not (.t 10)), oV 12 11, ⟨some 13, .fa 0 (.t 3), (some (12, false))⟩, ⟨some 14, .load 1 false (.t 13), (some (12, false))⟩,
 ⟨some 15, .bin .neq (.t 14) (kI 3), (some (12, false))⟩, oM 16 (.pick (.t 12) kT (.t 15))] [0, 3, 16]) (.cond (.t 16) (.ops [oV 17 0, oM 18 (.call 118 [.t 17])] [0, 3]) (.skip))) (.seq (.seq (.ops [
 oM 19 (.fa 1 (.t 3)), oM 20 (.load 1 false (.t 19)), oM 21 (.bin .gtr (.t 20) (kI 65535))] [0, 3, 21]) (.cond (.t 21) (.ops [oV 22 0, oM 23 (.nilck (.t 22)), oM 24 (.fa 1 (.t 23)), oM 25 (.load 1 false (.t 24)),
 oM 26 (.bld [.d (.lit (.int .i64 0)), .d (.lit (.int .i64 0))] [(0, 1, .k (.d (.lit (.int .i64 3)))), (1, 1, .t 25)]), oM 27 (.mki 73 (.t 26)), ⟨none, .pan (.t 27), none⟩] [0, 3]) (.skip))) (.seq (.ops [
 oV 28 0, oM 29 (.nilck (.t 28)), oM 30 (.fa 1 (.t 29)), oM 31 (.load 1 false (.t 30)), oM 32 (.bin .add (.t 31) (kI 1)), oM 33 (.nilck (.t 28)), oM 34 (.fa 1 (.t 33)), ⟨none, .sto 1 (.t 34) (.t 32), none⟩] [3]) (
 .seq (.ops [oM 35 (.fa 1 (.t 3)), oM 36 (.load 1 false (.t 35)), oV 2 36] [2]) (.ret))))))
def rs164 : List RV := [.t 2 false]
theorem k164 : okFn G.tab Tryz.f164 1 c164 rs164 = true := by kernel_rfl
def c165 : Cd := .seq (.ops [oM 2 (.mv (kS ⟨#[]⟩))] [0]) (.seq (.ops [oV 6 0, oM 7 (.call 139 [.t 6]), oV 5 7, oM 8 (.ext (.t 5) 0), oM 9 (.ext (.t 5) 1), oM 3 (.new 41 [.d (.lit (.int .i64 0)), .d (.lit (.int .i64 0)), .d (.lit (.string ⟨#[]⟩)), .d (.lit (.int .i64 0))]),
 ⟨none, .sto 4 (.t 3) (.t 8), none⟩, oV 4 9] [0, 3, 4]) (.seq (.seq (.ops [oV 10 4, oM 11 (.un .not (.t 10)), oV 12 11, ⟨some 13, .fa 0 (.t 3), (some (12, false))⟩, ⟨some 14, .load 1 false (.t 13), (some (12, false))⟩,
 ⟨some 15, .bin .neq (.t 14) (kI 1), (some (12, false))⟩, oM 16 (.pick (.t 12) kT (.t 15))] [0, 3, 16]) (.cond (.t 16) (.ops [oV 17 0, oM 18 (.call 118 [.t 17])] [0, 3]) (.skip))) (.seq (.ops [oV 19 0,
 oM 20 (.nilck (.t 19)), oM 21 (.fa 1 (.t 20)), oM 22 (.load 1 false (.t 21)), oM 23 (.bin .add (.t 22) (kI 1)), oM 24 (.nilck (.t 19)), oM 25 (.fa 1 (.t 24)), ⟨none, .sto 1 (.t 25) (.t 23), none⟩] [3]) (
 .seq (.ops [oM 26 (.fa 2 (.t 3)), oM 27 (.load 1 false (.t 26)), oV 2 27] [2]) (.ret)))))
def rs165 : List RV := [.t 2 false]
theorem k165 : okFn G.tab Tryz.f165 1 c165 rs165 = true := by kernel_rfl
def c139 : Cd := .seq (.ops [oM 2 (.new 41 [.d (.lit (.int .i64 0)), .d (.lit (.int .i64 0)), .d (.lit (.string ⟨#[]⟩)), .d (.lit (.int .i64 0))]), oM 3 (.mv kF)] [0, 2]) (.seq (.seq (.draw [oV 4 0, oM 5 (.nilck (.t 4)),
 oM 6 (.fa 1 (.t 5)), oM 7 (.load 1 false (.t 6)), oV 8 0, oM 9 (.nilck (.t 8)), oM 10 (.fa 0 (.t 9)), oM 11 (.load 1 false (.t 10)), oM 12 (.len false (.t 11)), oM 13 (.bin .geq (.t 7) (.t 12)), oV 14 13,
 ⟨some 15, .mv (.t 0), (some (14, false))⟩, ⟨some 16, .nilck (.t 15), (some (14, false))⟩, ⟨some 17, .fa 0 (.t 16), (some (14, false))⟩, ⟨some 18, .load 1 false (.t 17), (some (14, false))⟩, ⟨some 19, .mv (.t 0), (some (14, false))⟩,
 ⟨some 20, .nilck (.t 19), (some (14, false))⟩, ⟨some 21, .fa 1 (.t 20), (some (14, false))⟩, ⟨some 22, .load 1 false (.t 21), (some (14, false))⟩, ⟨some 23, .ia 4 (.t 18) (.t 22), (some (14, false))⟩,
 ⟨some 24, .load 4 true (.t 23), (some (14, false))⟩, ⟨some 25, .call 153 [.t 24], (some (14, false))⟩, ⟨some 26, .un .not (.t 25), (some (14, false))⟩, oM 27 (.pick (.t 14) kT (.t 26))] [0, 2, 27]) (
 .cond (.t 27) (.seq (.ops [oM 28 (.bld [.d (.lit (.int .i64 0)), .d (.lit (.int .i64 0)), .d (.lit (.string ⟨#[]⟩)), .d (.lit (.int .i64 0))] []), ⟨none, .sto 4 (.t 2) (.t 28), none⟩, oM 3 (.mv kF)] [2, 3]) (
 .ret)) (.skip))) (.seq (.draws [oV 29 0, oM 30 (.nilck (.t 29)), oM 31 (.fa 0 (.t 30)), oM 32 (.load 1 false (.t 31)), oV 33 0, oM 34 (.nilck (.t 33)), oM 35 (.fa 1 (.t 34)), oM 36 (.load 1 false (.t 35)),
 oM 37 (.ia 4 (.t 32) (.t 36)), oM 38 (.load 4 true (.t 37)), ⟨none, .sto 4 (.t 2) (.t 38), none⟩, oM 3 (.mv kT)] [2, 3]) (.ret)))
def rs139 : List RV := [.c 2 4 true, .t 3 false]
theorem k139 : okFn G.tab Tryz.f139 1 c139 rs139 = true := by kernel_rfl
def c118 : Cd := .seq (.seq (.draw [oV 2 0, oM 3 (.nilck (.t 2)), oM 4 (.fa 1 (.t 3)), oM 5 (.load 1 false (.t 4)), oV 6 0, oM 7 (.nilck (.t 6)), oM 8 (.fa 0 (.t 7)), oM 9 (.load 1 false (.t 8)), oM 10 (.len false (.t 9)),
 oM 11 (.bin .geq (.t 5) (.t 10))] [0, 11]) (.cond (.t 11) (.ops [oV 12 0, oM 13 (.nilck (.t 12)), oM 14 (.fa 0 (.t 13)), oM 15 (.load 1 false (.t 14)), oM 16 (.len false (.t 15)), oM 17 (.bld [.d (.lit (.int .i64 0)), .d (.lit (.int .i64 0))] [(0, 1, .k (.d (.lit (.int .i64 6)))), (1, 1, .t 16)]),
 oM 18 (.mki 73 (.t 17)), ⟨none, .pan (.t 18), none⟩] [0]) (.skip))) (.ops [oV 19 0, oM 20 (.nilck (.t 19)), oM 21 (.fa 1 (.t 20)), oM 22 (.load 1 false (.t 21)), oM 23 (.bld [.d (.lit (.int .i64 0)), .d (.lit (.int .i64 0))] [(0, 1, .k (.d (.lit (.int .i64 5)))), (1, 1, .t 22)]),
 oM 24 (.mki 73 (.t 23)), ⟨none, .pan (.t 24), none⟩] [])
def rs118 : List RV := []
theorem k118 : okFn G.tab Tryz.f118 1 c118 rs118 = true := by kernel_rfl
def c117 : Cd := .seq (.ops [oM 4 (.mv kF)] [0, 1]) (.seq (.ops [oV 8 0, oM 9 (.call 139 [.t 8]), oV 7 9, oM 10 (.ext (.t 7) 0), oM 11 (.ext (.t 7) 1), oM 5 (.new 41 [.d (.lit (.int .i64 0)), .d (.lit (.int .i64 0)), .d (.lit (.string ⟨#[]⟩)), .d (.lit (.int .i64 0))]),
 ⟨none, .sto 4 (.t 5) (.t 10), none⟩, oV 6 11] [1, 5, 6]) (.seq (.ops [oV 12 6, oV 13 12, ⟨some 14, .fa 0 (.t 5), (some (13, true))⟩, ⟨some 15, .load 1 false (.t 14), (some (13, true))⟩, ⟨some 16, .bin .eql (.t 15) (kI 4), (some (13, true))⟩,
 ⟨some 17, .mv (.t 16), (some (13, true))⟩, ⟨some 18, .fa 0 (.t 5), (some (17, false))⟩, ⟨some 19, .load 1 false (.t 18), (some (17, false))⟩, ⟨some 20, .bin .eql (.t 19) (kI 2), (some (17, false))⟩,
 ⟨some 21, .pick (.t 17) kT (.t 20), (some (13, true))⟩, oM 22 (.pick (.t 13) (.t 21) kF), oV 23 22, ⟨some 24, .fa 2 (.t 5), (some (23, true))⟩, ⟨some 25, .load 1 false (.t 24), (some (23, true))⟩, ⟨some 26, .mv (.t 1), (some (23, true))⟩,
 ⟨some 27, .bin .eql (.t 25) (.t 26), (some (23, true))⟩, oM 28 (.pick (.t 23) (.t 27) kF), oV 4 28] [4]) (.ret)))
def rs117 : List RV := [.t 4 false]
theorem k117 : okFn G.tab Tryz.f117 2 c117 rs117 = true := by kernel_rfl
def c87 : Cd := .seq (.ops [oM 4 (.mv kF)] [0, 1]) (.seq (.seq (.ops [oV 5 0, oV 6 1, oM 7 (.call 117 [.t 5, .t 6]), oM 8 (.un .not (.t 7))] [0, 8]) (.cond (.t 8) (.seq (.ops [oM 4 (.mv kF)] [4]) (.ret)) (
 .skip))) (.seq (.ops [oV 9 0, oM 10 (.nilck (.t 9)), oM 11 (.fa 1 (.t 10)), oM 12 (.load 1 false (.t 11)), oM 13 (.bin .add (.t 12) (kI 1)), oM 14 (.nilck (.t 9)), oM 15 (.fa 1 (.t 14)), ⟨none, .sto 1 (.t 15) (.t 13), none⟩] []) (
 .seq (.ops [oM 4 (.mv kT)] [4]) (.ret))))
def rs87 : List RV := [.t 4 false]
theorem k87 : okFn G.tab Tryz.f87 2 c87 rs87 = true := by kernel_rfl
def c88 : Cd := .seq (.ops [oV 4 0, oV 5 1, oM 6 (.call 87 [.t 4, .t 5]), oM 7 (.un .not (.t 6))] [0, 7]) (.cond (.t 7) (.ops [oV 8 0, oM 9 (.call 118 [.t 8])] []) (.skip))
def rs88 : List RV := []
theorem k88 : okFn G.tab Tryz.f88 2 c88 rs88 = true := by kernel_rfl
def c21 : CdD := .seq (.ops [oM 4 (.new 24 [.d (.lit (.int .i64 0)), .d (.lit (.int .i64 0)), .d (.lit (.string ⟨#[]⟩)), .nil]), oM 5 (.new 3 [.d (.lit (.int .i64 0))]), oM 6 (.new 28 [.d (.lit (.int .i64 0))])] [0, 1, 4, 5, 6]) (
 .dfr 8 47 [.t 4, .t 5, .t 6] (.seq (.ops [oV 9 0, oV 10 1, oM 11 (.bld [.nil, .d (.lit (.int .i64 0))] [(0, 1, .t 9), (1, 1, .t 10)]), oM 12 (.box 77 (.t 11)), oV 7 12] [4, 5, 6, 7]) (.seq (.ops [oV 13 7,
 oM 14 (.call 48 [.t 13]), ⟨none, .sto 4 (.t 4) (.t 14), none⟩] [4, 5, 6, 7]) (.seq (.drawg [(oM 15 (.load 4 true (.t 4)), .calm 0 0), (oV 16 7, .free 0), (oM 17 (.nilck (.t 16)), .free 0), (oM 18 (.fa 1 (.t 17)), .free 0),
 (oM 19 (.load 1 false (.t 18)), .calm 0 1), (⟨none, .sto 4 (.t 4) (.t 15), none⟩, .act), (⟨none, .sto 1 (.t 5) (.t 19), none⟩, .act), (⟨none, .sto 1 (.t 6) (kI 0), none⟩, .act)] [4, 5, 6]) (.ret)))))
def rs21 : List RV := [.c 4 4 true, .c 5 1 false, .c 6 1 false]
theorem k21 : okFnD G.tab Tryz.f21 2 c21 rs21 = true := by kernel_rfl
def c22 : Cd := .seq (.ops [oM 2 (.mv (.k (.nil)))] [0]) (.seq (.ops [oV 3 0, oV 4 0, oM 5 (.len false (.t 4)), oV 6 0, oM 7 (.len false (.t 6)), oM 8 (.clip (.t 3) (.t 5) (.t 7)), oV 2 8] [2]) (.ret))
def rs22 : List RV := [.t 2 false]
theorem k22 : okFn G.tab Tryz.f22 1 c22 rs22 = true := by kernel_rfl
def c47 : CdR := .seq (.reg 6 [oV 3 6] [0, 1, 2, 3]) (.seq (.ops [oV 8 3, oM 9 (.tas 73 (.agg [.d (.lit (.int .i64 0)), .d (.lit (.int .i64 0))]) (.t 8)), oV 7 9, oM 10 (.ext (.t 7) 0), oM 11 (.ext (.t 7) 1),
 oM 4 (.new 73 [.d (.lit (.int .i64 0)), .d (.lit (.int .i64 0))]), ⟨none, .sto 2 (.t 4) (.t 10), none⟩, oV 5 11] [0, 1, 2, 3, 4, 5]) (.seq (.ops [oV 12 5] [0, 1, 2, 3, 4, 12]) (.cond (.t 12) (.drawg [
 (oM 13 (.bld [.d (.lit (.int .i64 0)), .d (.lit (.int .i64 0)), .d (.lit (.string ⟨#[]⟩)), .nil] []), .free 0), (oM 14 (.fa 1 (.t 4)), .free 0), (oM 15 (.load 1 false (.t 14)), .calm 0 1), (oM 16 (.fa 0 (.t 4)), .free 0),
 (oM 17 (.load 1 false (.t 16)), .calm 0 2), (⟨none, .sto 4 (.t 0) (.t 13), none⟩, .act), (⟨none, .sto 1 (.t 1) (.t 15), none⟩, .act), (⟨none, .sto 1 (.t 2) (.t 17), none⟩, .act)] []) (.seq (.ops [oV 18 3,
 oM 19 (.nif true (.t 18))] [3, 19]) (.cond (.t 19) (.ops [oV 20 3, ⟨none, .pan (.t 20), none⟩] []) (.skip))))))
theorem k47 : okFnR G.tab Tryz.f47 3 c47 = true := by kernel_rfl
def c153 : Cd := .seq (.ops [oM 1 (.box 41 (.t 0)), oM 2 (.mv kF)] [1]) (.seq (.ops [oM 6 (.load 4 true (.t 1)), oM 7 (.mks 41 4 [.t 6]), oM 8 (.call 166 [.t 7]), oV 5 8, oM 9 (.ext (.t 5) 0), oM 10 (.ext (.t 5) 1),
 oV 3 9, oV 4 10] [4]) (.seq (.ops [oV 11 4, oM 12 (.bin .eql (.t 11) (kI 0)), oV 2 12] [2]) (.ret)))
def rs153 : List RV := [.t 2 false]
theorem k153 : okFn G.tab Tryz.f153 1 c153 rs153 = true := by kernel_rfl
def c71 : Cd := .seq (.ops [oM 4 (.mv (kS ⟨#[]⟩))] [0, 1]) (.seq (.ops [oV 5 0, oV 6 1, oM 7 (.call 106 [.t 5, .t 6]), oV 4 7] [4]) (.ret))
def rs71 : List RV := [.t 4 false]
theorem k71 : okFn G.tab Tryz.f71 2 c71 rs71 = true := by kernel_rfl
def c106 : Cd := .seq (.ops [oM 4 (.mv (kS ⟨#[]⟩))] [0, 1]) (.seq (.seq (.ops [oV 5 0, oV 6 1, oM 7 (.call 126 [.t 5, .t 6])] [0, 1, 7]) (.cond (.t 7) (.seq (.ops [oV 8 0, oV 9 0, oM 10 (.len true (.t 9)),
 oV 11 1, oM 12 (.len true (.t 11)), oM 13 (.bin .sub (.t 10) (.t 12)), oM 14 (.sub true 0 (.t 8) none (some (.t 13))), oV 4 14] [4]) (.ret)) (.skip))) (.seq (.ops [oV 15 0, oV 4 15] [4]) (.ret)))
def rs106 : List RV := [.t 4 false]
theorem k106 : okFn G.tab Tryz.f106 2 c106 rs106 = true := by kernel_rfl
def c126 : Cd := .seq (.ops [oM 4 (.mv kF)] [0, 1]) (.seq (.ops [oV 5 0, oM 6 (.len true (.t 5)), oV 7 1, oM 8 (.len true (.t 7)), oM 9 (.bin .geq (.t 6) (.t 8)), oV 10 9, ⟨some 11, .mv (.t 0), (some (10, true))⟩,
 ⟨some 12, .mv (.t 0), (some (10, true))⟩, ⟨some 13, .len true (.t 12), (some (10, true))⟩, ⟨some 14, .mv (.t 1), (some (10, true))⟩, ⟨some 15, .len true (.t 14), (some (10, true))⟩, ⟨some 16, .bin .sub (.t 13) (.t 15), (some (10, true))⟩,
 ⟨some 17, .sub true 0 (.t 11) (some (.t 16)) none, (some (10, true))⟩, ⟨some 18, .mv (.t 1), (some (10, true))⟩, ⟨some 19, .bin .eql (.t 17) (.t 18), (some (10, true))⟩, oM 20 (.pick (.t 10) (.t 19) kF),
 oV 4 20] [4]) (.ret))
def rs126 : List RV := [.t 4 false]
theorem k126 : okFn G.tab Tryz.f126 2 c126 rs126 = true := by kernel_rfl
def c52 : Cd := .seq (.ops [oM 2 (.mv kF)] [0]) (.seq (.ops [oM 3 (.call 92 []), oV 4 0, oM 5 (.call 91 [.t 3, .t 4]), oV 2 5] [2]) (.ret))
def rs52 : List RV := [.t 2 false]
theorem k52 : okFn G.tab Tryz.f52 1 c52 rs52 = true := by kernel_rfl
def c56 : Cd := .seq (.ops [oM 2 (.mv kF)] [0]) (.seq (.seq (.ops [oV 4 0, oM 5 (.bin .eql (.t 4) (kS ⟨#[]⟩)), oV 6 5, ⟨some 7, .mv (.t 0), (some (6, false))⟩, ⟨some 8, .len true (.t 7), (some (6, false))⟩,
 ⟨some 9, .bin .gtr (.t 8) (kI 16), (some (6, false))⟩, oM 10 (.pick (.t 6) kT (.t 9)), oV 11 10, ⟨some 12, .mv (.t 0), (some (11, false))⟩, ⟨some 13, .ix (.t 12) (kI 0), (some (11, false))⟩, ⟨some 14, .call 50 [.t 13], (some (11, false))⟩,
 ⟨some 15, .un .not (.t 14), (some (11, false))⟩, oM 16 (.pick (.t 11) kT (.t 15)), oV 17 16, ⟨some 18, .mv (.t 0), (some (17, false))⟩, ⟨some 19, .call 52 [.t 18], (some (17, false))⟩, oM 20 (.pick (.t 17) kT (.t 19))] [0, 20]) (
 .cond (.t 20) (.seq (.ops [oM 2 (.mv kF)] [2]) (.ret)) (.skip))) (.seq (.seq (.ops [oM 3 (.mv (kI 0))] [0, 3]) (.block 0 (.loop (.seq (.seq (.ops [oV 21 3, oV 22 0, oM 23 (.len true (.t 22)), oM 24 (.bin .lss (.t 21) (.t 23))] [0, 3, 24]) (
 .cond (.t 24) (.skip) (.exit 0))) (.seq (.block 1 (.seq (.ops [oV 27 0, oV 28 3, oM 29 (.ix (.t 27) (.t 28)), oM 30 (.call 90 [.t 29]), oM 31 (.un .not (.t 30))] [0, 3, 31]) (.cond (.t 31) (.seq (.ops [
 oM 2 (.mv kF)] [2]) (.ret)) (.skip)))) (.ops [oV 25 3, oM 26 (.bin .add (.t 25) (kI 1)), oV 3 26] [0, 3])))))) (.seq (.ops [oM 2 (.mv kT)] [2]) (.ret))))
def rs56 : List RV := [.t 2 false]
theorem k56 : okFn G.tab Tryz.f56 1 c56 rs56 = true := by kernel_rfl
def c24 : Cd := .seq (.ops [oM 4 (.mv (kI 0))] [0, 1]) (.seq (.block 0 (.loop (.seq (.seq (.ops [oV 5 1, oV 6 0, oM 7 (.len true (.t 6)), oM 8 (.bin .lss (.t 5) (.t 7))] [0, 1, 8]) (.cond (.t 8) (.skip) (
 .exit 0))) (.block 1 (.seq (.ops [oV 9 0, oV 10 1, oM 11 (.ix (.t 9) (.t 10)), oM 12 (.bin .eql (.t 11) (.k (.d (.lit (.int .u8 32))))), oV 13 12, ⟨some 14, .mv (.t 0), (some (13, false))⟩, ⟨some 15, .mv (.t 1), (some (13, false))⟩,
 ⟨some 16, .ix (.t 14) (.t 15), (some (13, false))⟩, ⟨some 17, .bin .eql (.t 16) (.k (.d (.lit (.int .u8 9)))), (some (13, false))⟩, oM 18 (.pick (.t 13) kT (.t 17)), oV 19 18, ⟨some 20, .mv (.t 0), (some (19, false))⟩,
 ⟨some 21, .mv (.t 1), (some (19, false))⟩, ⟨some 22, .ix (.t 20) (.t 21), (some (19, false))⟩, ⟨some 23, .bin .eql (.t 22) (.k (.d (.lit (.int .u8 10)))), (some (19, false))⟩, oM 24 (.pick (.t 19) kT (.t 23))] [0, 1, 24]) (
 .cond (.t 24) (.ops [oV 25 1, oM 26 (.bin .add (.t 25) (kI 1)), oV 1 26] [0, 1]) (.seq (.ops [oV 27 0, oV 28 1, oM 29 (.call 49 [.t 27, .t 28, .k (.d (.lit (.string ⟨#[47, 47]⟩)))])] [0, 1, 29]) (.cond (.t 29) (
 .block 2 (.loop (.seq (.seq (.ops [oV 30 1, oV 31 0, oM 32 (.len true (.t 31)), oM 33 (.bin .lss (.t 30) (.t 32)), oV 34 33, ⟨some 35, .mv (.t 0), (some (34, true))⟩, ⟨some 36, .mv (.t 1), (some (34, true))⟩,
 ⟨some 37, .ix (.t 35) (.t 36), (some (34, true))⟩, ⟨some 38, .bin .neq (.t 37) (.k (.d (.lit (.int .u8 10)))), (some (34, true))⟩, oM 39 (.pick (.t 34) (.t 38) kF)] [0, 1, 39]) (.cond (.t 39) (.skip) (
 .exit 2))) (.block 3 (.ops [oV 40 1, oM 41 (.bin .add (.t 40) (kI 1)), oV 1 41] [0, 1]))))) (.seq (.ops [oV 42 1, oV 4 42] [4]) (.ret)))))))))) (.seq (.ops [oV 43 1, oV 4 43] [4]) (.ret)))
def c25 : Cd := .seq (.ops [oM 4 (.new 41 [.d (.lit (.int .i64 0)), .d (.lit (.int .i64 0)), .d (.lit (.string ⟨#[]⟩)), .d (.lit (.int .i64 0))]), oM 5 (.mv (kI 0))] [0, 1, 4]) (.seq (.seq (.ops [oV 11 0,
 oV 12 1, oM 13 (.ix (.t 11) (.t 12)), oM 14 (.call 50 [.t 13])] [0, 1, 4, 14]) (.cond (.t 14) (.seq (.ops [oV 15 0, oV 16 1, oV 17 0, oV 18 1, oM 19 (.call 51 [.t 17, .t 18]), oM 20 (.sub true 0 (.t 15) (some (.t 16)) (some (.t 19))),
 oV 6 20] [4, 6]) (.seq (.seq (.ops [oV 21 6, oM 22 (.len true (.t 21)), oM 23 (.bin .gtr (.t 22) (kI 16))] [4, 6, 23]) (.cond (.t 23) (.seq (.ops [oM 24 (.bld [.d (.lit (.int .i64 0)), .d (.lit (.int .i64 0)), .d (.lit (.string ⟨#[]⟩)), .d (.lit (.int .i64 0))] []),
 ⟨none, .sto 4 (.t 4) (.t 24), none⟩, oM 5 (.mv (kI 2))] [4, 5]) (.ret)) (.skip))) (.seq (.seq (.ops [oV 25 6, oM 26 (.call 52 [.t 25])] [4, 6, 26]) (.cond (.t 26) (.seq (.ops [oV 27 6, oM 28 (.bld [.d (.lit (.int .i64 0)), .d (.lit (.int .i64 0)), .d (.lit (.string ⟨#[]⟩)), .d (.lit (.int .i64 0))] [(0, 1, .k (.d (.lit (.int .i64 2)))), (2, 1, .t 27)]),
 ⟨none, .sto 4 (.t 4) (.t 28), none⟩, oM 5 (.mv (kI 0))] [4, 5]) (.ret)) (.skip))) (.seq (.ops [oV 29 6, oM 30 (.bld [.d (.lit (.int .i64 0)), .d (.lit (.int .i64 0)), .d (.lit (.string ⟨#[]⟩)), .d (.lit (.int .i64 0))] [(0, 1, .k (.d (.lit (.int .i64 1)))), (2, 1, .t 29)]),
 ⟨none, .sto 4 (.t 4) (.t 30), none⟩, oM 5 (.mv (kI 0))] [4, 5]) (.ret))))) (.skip))) (.seq (.seq (.ops [oV 31 0, oV 32 1, oM 33 (.ix (.t 31) (.t 32)), oM 34 (.call 53 [.t 33])] [0, 1, 4, 34]) (.cond (.t 34) (
 .seq (.ops [oV 35 0, oV 36 1, oV 37 0, oV 38 1, oM 39 (.call 51 [.t 37, .t 38]), oM 40 (.sub true 0 (.t 35) (some (.t 36)) (some (.t 39))), oV 7 40] [4, 7]) (.seq (.ops [oV 42 7, oM 43 (.call 54 [.t 42]),
 oV 41 43, oM 44 (.ext (.t 41) 0), oM 45 (.ext (.t 41) 1), oV 8 44, oV 9 45] [4, 7, 8, 9]) (.seq (.seq (.ops [oV 46 9, oM 47 (.bin .eql (.t 46) (kI 5))] [4, 7, 8, 9, 47]) (.cond (.t 47) (.seq (.ops [
 oM 48 (.bld [.d (.lit (.int .i64 0)), .d (.lit (.int .i64 0)), .d (.lit (.string ⟨#[]⟩)), .d (.lit (.int .i64 0))] []), oV 49 9, ⟨none, .sto 4 (.t 4) (.t 48), none⟩, oV 5 49] [4, 5]) (.ret)) (.skip))) (
 .seq (.seq (.ops [oV 50 9, oM 51 (.bin .neq (.t 50) (kI 0)), oV 52 51, ⟨some 53, .mv (.t 8), (some (52, false))⟩, ⟨some 54, .bin .gtr (.t 53) (kI 2147483647), (some (52, false))⟩, oM 55 (.pick (.t 52) kT (.t 54))] [4, 7, 8, 55]) (
 .cond (.t 55) (.seq (.ops [oM 56 (.bld [.d (.lit (.int .i64 0)), .d (.lit (.int .i64 0)), .d (.lit (.string ⟨#[]⟩)), .d (.lit (.int .i64 0))] []), ⟨none, .sto 4 (.t 4) (.t 56), none⟩, oM 5 (.mv (kI 3))] [4, 5]) (
 .ret)) (.skip))) (.seq (.ops [oV 57 8, oV 58 7, oM 59 (.bld [.d (.lit (.int .i64 0)), .d (.lit (.int .i64 0)), .d (.lit (.string ⟨#[]⟩)), .d (.lit (.int .i64 0))] [(0, 1, .k (.d (.lit (.int .i64 3)))), (1, 1, .t 57), (2, 1, .t 58)]),
 ⟨none, .sto 4 (.t 4) (.t 59), none⟩, oM 5 (.mv (kI 0))] [4, 5]) (.ret)))))) (.skip))) (.seq (.ops [oV 60 0, oV 61 1, oM 62 (.call 55 [.t 60, .t 61]), oV 10 62] [4, 10]) (.seq (.seq (.ops [oV 63 10, oM 64 (.bin .eql (.t 63) (kS ⟨#[]⟩))] [4, 10, 64]) (
 .cond (.t 64) (.seq (.ops [oM 65 (.bld [.d (.lit (.int .i64 0)), .d (.lit (.int .i64 0)), .d (.lit (.string ⟨#[]⟩)), .d (.lit (.int .i64 0))] []), ⟨none, .sto 4 (.t 4) (.t 65), none⟩, oM 5 (.mv (kI 5))] [4, 5]) (
 .ret)) (.skip))) (.seq (.ops [oV 66 10, oM 67 (.bld [.d (.lit (.int .i64 0)), .d (.lit (.int .i64 0)), .d (.lit (.string ⟨#[]⟩)), .d (.lit (.int .i64 0))] [(0, 1, .k (.d (.lit (.int .i64 4)))), (2, 1, .t 66)]),
 ⟨none, .sto 4 (.t 4) (.t 67), none⟩, oM 5 (.mv (kI 0))] [4, 5]) (.ret))))))
def c50 : Cd := .seq (.ops [oM 2 (.mv kF)] [0]) (.seq (.ops [oV 3 0, oM 4 (.bin .geq (.t 3) (.k (.d (.lit (.int .u8 97))))), oV 5 4, ⟨some 6, .mv (.t 0), (some (5, true))⟩, ⟨some 7, .bin .leq (.t 6) (.k (.d (.lit (.int .u8 122)))), (some (5, true))⟩,
 oM 8 (.pick (.t 5) (.t 7) kF), oV 2 8] [2]) (.ret))
def rs50 : List RV := [.t 2 false]
theorem k50 : okFn G.tab Tryz.f50 1 c50 rs50 = true := by kernel_rfl
def c90 : Cd := .seq (.ops [oM 2 (.mv kF)] [0]) (.seq (.ops [oV 3 0, oM 4 (.call 50 [.t 3]), oV 5 4, ⟨some 6, .mv (.t 0), (some (5, false))⟩, ⟨some 7, .call 53 [.t 6], (some (5, false))⟩, oM 8 (.pick (.t 5) kT (.t 7)),
 oV 9 8, ⟨some 10, .mv (.t 0), (some (9, false))⟩, ⟨some 11, .bin .geq (.t 10) (.k (.d (.lit (.int .u8 65)))), (some (9, false))⟩, ⟨some 12, .mv (.t 11), (some (9, false))⟩, ⟨some 13, .mv (.t 0), (some (12, true))⟩,
 ⟨some 14, .bin .leq (.t 13) (.k (.d (.lit (.int .u8 90)))), (some (12, true))⟩, ⟨some 15, .pick (.t 12) (.t 14) kF, (some (9, false))⟩, oM 16 (.pick (.t 9) kT (.t 15)), oV 17 16, ⟨some 18, .mv (.t 0), (some (17, false))⟩,
 ⟨some 19, .bin .eql (.t 18) (.k (.d (.lit (.int .u8 95)))), (some (17, false))⟩, oM 20 (.pick (.t 17) kT (.t 19)), oV 2 20] [2]) (.ret))
def rs90 : List RV := [.t 2 false]
theorem k90 : okFn G.tab Tryz.f90 1 c90 rs90 = true := by kernel_rfl
def c53 : Cd := .seq (.ops [oM 2 (.mv kF)] [0]) (.seq (.ops [oV 3 0, oM 4 (.bin .geq (.t 3) (.k (.d (.lit (.int .u8 48))))), oV 5 4, ⟨some 6, .mv (.t 0), (some (5, true))⟩, ⟨some 7, .bin .leq (.t 6) (.k (.d (.lit (.int .u8 57)))), (some (5, true))⟩,
 oM 8 (.pick (.t 5) (.t 7) kF), oV 2 8] [2]) (.ret))
def rs53 : List RV := [.t 2 false]
theorem k53 : okFn G.tab Tryz.f53 1 c53 rs53 = true := by kernel_rfl
def c91 : Cd := .seq (.ops [oM 4 (.mv kF)] [0, 1]) (.seq (.seq (.ops [oM 5 (.mv (kI 0))] [0, 1, 5]) (.block 0 (.loop (.seq (.seq (.ops [oV 6 5, oV 7 0, oM 8 (.len false (.t 7)), oM 9 (.bin .lss (.t 6) (.t 8))] [0, 1, 5, 9]) (
 .cond (.t 9) (.skip) (.exit 0))) (.seq (.block 1 (.seq (.ops [oV 12 0, oV 13 5, oM 14 (.ia 1 (.t 12) (.t 13)), oM 15 (.load 1 false (.t 14)), oV 16 1, oM 17 (.bin .eql (.t 15) (.t 16))] [0, 1, 5, 17]) (
 .cond (.t 17) (.seq (.ops [oM 4 (.mv kT)] [4]) (.ret)) (.skip)))) (.ops [oV 10 5, oM 11 (.bin .add (.t 10) (kI 1)), oV 5 11] [0, 1, 5])))))) (.seq (.ops [oM 4 (.mv kF)] [4]) (.ret)))
def rs91 : List RV := [.t 4 false]
theorem k91 : okFn G.tab Tryz.f91 2 c91 rs91 = true := by kernel_rfl
def c92 : Cd := .seq (.ops [oM 0 (.mv (.k (.nil)))] []) (.seq (.ops [oM 1 (.mks 9 1 [.k (.d (.lit (.string ⟨#[99, 108, 97, 115, 115]⟩))), .k (.d (.lit (.string ⟨#[101, 120, 116, 101, 110, 100, 115]⟩))), .k (.d (.lit (.string ⟨#[114, 97, 110, 100]⟩))), .k (.d (.lit (.string ⟨#[114, 97, 110, 100, 99]⟩))), .k (.d (.lit (.string ⟨#[115, 116, 97, 116, 101]⟩))), .k (.d (.lit (.string ⟨#[99, 111, 110, 115, 116, 114, 97, 105, 110, 116]⟩))), .k (.d (.lit (.string ⟨#[115, 111, 102, 116]⟩))), .k (.d (.lit (.string ⟨#[100, 105, 115, 116]⟩))), .k (.d (.lit (.string ⟨#[105, 102]⟩))), .k (.d (.lit (.string ⟨#[101, 108, 115, 101]⟩))), .k (.d (.lit (.string ⟨#[101, 97, 99, 104]⟩))), .k (.d (.lit (.string ⟨#[105, 110]⟩))), .k (.d (.lit (.string ⟨#[115, 111, 108, 118, 101]⟩))), .k (.d (.lit (.string ⟨#[98, 101, 102, 111, 114, 101]⟩))), .k (.d (.lit (.string ⟨#[105, 110, 115, 105, 100, 101]⟩))), .k (.d (.lit (.string ⟨#[112, 114, 111, 112, 101, 114, 116, 121]⟩))), .k (.d (.lit (.string ⟨#[115, 101, 113]⟩))), .k (.d (.lit (.string ⟨#[97, 110, 100]⟩))), .k (.d (.lit (.string ⟨#[111, 114]⟩))), .k (.d (.lit (.string ⟨#[110, 111, 116]⟩))), .k (.d (.lit (.string ⟨#[115, 101, 116]⟩))), .k (.d (.lit (.string ⟨#[104, 111, 108, 100]⟩))), .k (.d (.lit (.string ⟨#[112, 108, 97, 105, 110]⟩))), .k (.d (.lit (.string ⟨#[114, 101, 112, 101, 97, 116]⟩)))]),
 oV 0 1] [0]) (.ret))
def rs92 : List RV := [.t 0 false]
theorem k92 : okFn G.tab Tryz.f92 0 c92 rs92 = true := by kernel_rfl
def c51 : Cd := .seq (.ops [oM 4 (.mv (kI 0))] [0, 1]) (.seq (.block 0 (.loop (.seq (.seq (.ops [oV 5 1, oV 6 0, oM 7 (.len true (.t 6)), oM 8 (.bin .lss (.t 5) (.t 7)), oV 9 8, ⟨some 10, .mv (.t 0), (some (9, true))⟩,
 ⟨some 11, .mv (.t 1), (some (9, true))⟩, ⟨some 12, .ix (.t 10) (.t 11), (some (9, true))⟩, ⟨some 13, .call 90 [.t 12], (some (9, true))⟩, oM 14 (.pick (.t 9) (.t 13) kF)] [0, 1, 14]) (.cond (.t 14) (
 .skip) (.exit 0))) (.block 1 (.ops [oV 15 1, oM 16 (.bin .add (.t 15) (kI 1)), oV 1 16] [0, 1]))))) (.seq (.ops [oV 17 1, oV 4 17] [4]) (.ret)))
def c20 : Cd := .seq (.ops [oM 2 (.mv (.k (.nil))), oM 3 (.mv (kI 0)), oM 4 (.mv (kI 0))] [0]) (.seq (.seq (.ops [oV 10 0, oM 11 (.len true (.t 10)), oM 12 (.bin .gtr (.t 11) (kI 16384))] [0, 12]) (.cond (.t 12) (
 .seq (.ops [oM 2 (.mv (.k (.nil))), oM 3 (.mv (kI 0)), oM 4 (.mv (kI 2))] [2, 3, 4]) (.ret)) (.skip))) (.seq (.ops [oV 13 0, oM 14 (.bld [.d (.lit (.string ⟨#[]⟩)), .d (.lit (.int .i64 0))] [(0, 1, .t 13), (1, 1, .k (.d (.lit (.int .i64 1))))]),
 oM 15 (.box 70 (.t 14)), oV 5 15] [5]) (.seq (.ops [oM 6 (.nilo 41 4)] [5, 6]) (.seq (.seq (.ops [oV 16 5, oM 17 (.call 45 [.t 16])] [5, 6]) (.block 0 (.loop (.seq (.seq (.ops [oV 18 5, oM 19 (.nilck (.t 18)),
 oM 20 (.fa 0 (.t 19)), oM 21 (.load 1 false (.t 20)), oM 22 (.bin .neq (.t 21) (kS ⟨#[]⟩))] [5, 6, 22]) (.cond (.t 22) (.skip) (.exit 0))) (.seq (.block 1 (.seq (.ops [oV 25 5, oM 26 (.nilck (.t 25)),
 oM 27 (.fa 1 (.t 26)), oM 28 (.load 1 false (.t 27)), oV 7 28] [5, 6, 7]) (.seq (.ops [oV 30 5, oM 31 (.call 46 [.t 30]), oV 29 31, oM 32 (.ext (.t 29) 0), oM 33 (.ext (.t 29) 1), oM 8 (.new 41 [.d (.lit (.int .i64 0)), .d (.lit (.int .i64 0)), .d (.lit (.string ⟨#[]⟩)), .d (.lit (.int .i64 0))]),
 ⟨none, .sto 4 (.t 8) (.t 32), none⟩, oV 9 33] [5, 6, 7, 8, 9]) (.seq (.seq (.ops [oV 34 9, oM 35 (.bin .neq (.t 34) (kI 0))] [5, 6, 7, 8, 9, 35]) (.cond (.t 35) (.seq (.ops [oV 36 7, oV 37 9, oM 2 (.mv (.k (.nil))),
 oV 3 36, oV 4 37] [2, 3, 4]) (.ret)) (.skip))) (.ops [oM 38 (.mvo 6), oM 39 (.load 4 true (.t 8)), oM 40 (.mks 41 4 [.t 39]), oM 41 (.app 41 4 40 38 (.t 40)), oM 6 (.mvo 41)] [5, 6]))))) (.ops [oV 23 5,
 oM 24 (.call 45 [.t 23])] [5, 6])))))) (.seq (.ops [oV 42 6, oV 2 42, oM 3 (.mv (kI 0)), oM 4 (.mv (kI 0))] [2, 3, 4]) (.ret))))))
def rs20 : List RV := [.t 2 false, .t 3 false, .t 4 false]
theorem k20 : okFn G.tab Tryz.f20 1 c20 rs20 = true := by kernel_rfl
def c166 : Cd := .seq (.ops [oM 2 (.mv (kS ⟨#[]⟩)), oM 3 (.mv (kI 0))] [0]) (.seq (.ops [oV 7 0, oM 8 (.len false (.t 7)), oM 9 (.mkc 9 1 16 (.t 8)), oM 4 (.mvo 9)] [0, 4]) (.seq (.seq (.ops [oV 10 0,
 oM 11 (.len false (.t 10)), oM 12 (.mv (kI 0))] [4, 10, 11, 12]) (.block 0 (.loop (.seq (.ops [oM 13 (.bin .lss (.t 12) (.t 11))] [4, 10, 11, 12, 13]) (.seq (.cond (.t 13) (.skip) (.exit 0)) (.seq (
 .block 1 (.seq (.ops [oM 14 (.ia 4 (.t 10) (.t 12)), oM 15 (.load 4 true (.t 14)), oM 6 (.new 41 [.d (.lit (.int .i64 0)), .d (.lit (.int .i64 0)), .d (.lit (.string ⟨#[]⟩)), .d (.lit (.int .i64 0))]),
 ⟨none, .sto 4 (.t 6) (.t 15), none⟩] [4, 6, 10, 11, 12]) (.seq (.seq (.ops [oM 16 (.load 4 true (.t 6)), oM 17 (.call 170 [.t 16]), oM 18 (.un .not (.t 17))] [4, 6, 10, 11, 12, 18]) (.cond (.t 18) (
 .seq (.ops [oM 2 (.mv (kS ⟨#[]⟩)), oM 3 (.mv (kI 1))] [2, 3]) (.ret)) (.skip))) (.ops [oM 19 (.mvo 4), oM 20 (.fa 2 (.t 6)), oM 21 (.load 1 false (.t 20)), oM 22 (.mks 9 1 [.t 21]), oM 23 (.app 9 1 16 19 (.t 22)),
 oM 4 (.mvo 23)] [4, 10, 11, 12])))) (.ops [oM 24 (.bin .add (.t 12) (kI 1)), oV 12 24] [4, 10, 11, 12]))))))) (.seq (.ops [oV 25 4, oM 26 (.call 36 [.t 25, .k (.d (.lit (.string ⟨#[32]⟩)))]), oV 2 26,
 oM 3 (.mv (kI 0))] [2, 3]) (.ret))))
def rs166 : List RV := [.t 2 false, .t 3 false]
theorem k166 : okFn G.tab Tryz.f166 1 c166 rs166 = true := by kernel_rfl
def c170 : Cd := .seq (.ops [oM 1 (.box 41 (.t 0)), oM 2 (.mv kF)] [1]) (.seq (.seq (.ops [oM 3 (.fa 0 (.t 1)), oM 4 (.load 1 false (.t 3))] [1, 4]) (.block 0 (.seq (.ops [oM 6 (.bin .eql (.t 4) (kI 3)),
 oV 5 6] [1, 4, 5]) (.cond (.t 5) (.seq (.draw [oM 7 (.fa 1 (.t 1)), oM 8 (.load 1 false (.t 7)), oM 9 (.bin .geq (.t 8) (kI 0)), oV 10 9, ⟨some 11, .fa 1 (.t 1), (some (10, true))⟩, ⟨some 12, .load 1 false (.t 11), (some (10, true))⟩,
 ⟨some 13, .bin .leq (.t 12) (kI 2147483647), (some (10, true))⟩, oM 14 (.pick (.t 10) (.t 13) kF), oV 15 14, ⟨some 16, .fa 2 (.t 1), (some (15, true))⟩, ⟨some 17, .load 1 false (.t 16), (some (15, true))⟩,
 ⟨some 18, .fa 1 (.t 1), (some (15, true))⟩, ⟨some 19, .load 1 false (.t 18), (some (15, true))⟩, ⟨some 20, .call 69 [.t 19], (some (15, true))⟩, ⟨some 21, .bin .eql (.t 17) (.t 20), (some (15, true))⟩,
 oM 22 (.pick (.t 15) (.t 21) kF), oV 2 22] [2]) (.ret)) (.seq (.ops [oM 24 (.bin .eql (.t 4) (kI 1)), oV 23 24] [1, 4, 23]) (.cond (.t 23) (.seq (.ops [oM 25 (.fa 1 (.t 1)), oM 26 (.load 1 false (.t 25)),
 oM 27 (.bin .eql (.t 26) (kI 0)), oV 28 27, ⟨some 29, .fa 2 (.t 1), (some (28, true))⟩, ⟨some 30, .load 1 false (.t 29), (some (28, true))⟩, ⟨some 31, .call 62 [.t 30], (some (28, true))⟩, oM 32 (.pick (.t 28) (.t 31) kF),
 oV 2 32] [2]) (.ret)) (.seq (.ops [oM 34 (.bin .eql (.t 4) (kI 2)), oV 33 34] [1, 4, 33]) (.cond (.t 33) (.seq (.ops [oM 35 (.fa 1 (.t 1)), oM 36 (.load 1 false (.t 35)), oM 37 (.bin .eql (.t 36) (kI 0)),
 oV 38 37, ⟨some 39, .fa 2 (.t 1), (some (38, true))⟩, ⟨some 40, .load 1 false (.t 39), (some (38, true))⟩, ⟨some 41, .call 101 [.t 40], (some (38, true))⟩, oM 42 (.pick (.t 38) (.t 41) kF), oV 2 42] [2]) (
 .ret)) (.seq (.ops [oM 44 (.bin .eql (.t 4) (kI 4)), oV 43 44] [1, 43]) (.cond (.t 43) (.seq (.ops [oM 45 (.fa 1 (.t 1)), oM 46 (.load 1 false (.t 45)), oM 47 (.bin .eql (.t 46) (kI 0)), oV 48 47, ⟨some 49, .fa 2 (.t 1), (some (48, true))⟩,
 ⟨some 50, .load 1 false (.t 49), (some (48, true))⟩, ⟨some 51, .call 171 [.t 50], (some (48, true))⟩, oM 52 (.pick (.t 48) (.t 51) kF), oV 2 52] [2]) (.ret)) (.skip))))))))))) (.seq (.ops [oM 2 (.mv kF)] [2]) (
 .ret)))
def rs170 : List RV := [.t 2 false]
theorem k170 : okFn G.tab Tryz.f170 1 c170 rs170 = true := by kernel_rfl
def c45 : Cd := .block 0 (.loop (.block 1 (.block 2 (.seq (.ops [oV 3 0, oM 4 (.nilck (.t 3)), oM 5 (.fa 0 (.t 4)), oM 6 (.load 1 false (.t 5)), oM 7 (.call 76 [.t 6, .k (.d (.lit (.string ⟨#[47, 47]⟩)))]),
 oV 2 7] [0, 2]) (.cond (.t 2) (.ops [oV 8 0, oV 9 0, oM 10 (.nilck (.t 9)), oM 11 (.fa 0 (.t 10)), oM 12 (.load 1 false (.t 11)), oM 13 (.call 78 [.t 12, .k (.fn 79 [])]), oM 14 (.call 77 [.t 8, .t 13])] [0]) (
 .seq (.ops [oV 16 0, oM 17 (.nilck (.t 16)), oM 18 (.fa 0 (.t 17)), oM 19 (.load 1 false (.t 18)), oM 20 (.bin .neq (.t 19) (kS ⟨#[]⟩)), oV 21 20, ⟨some 22, .mv (.t 0), (some (21, true))⟩, ⟨some 23, .nilck (.t 22), (some (21, true))⟩,
 ⟨some 24, .fa 0 (.t 23), (some (21, true))⟩, ⟨some 25, .load 1 false (.t 24), (some (21, true))⟩, ⟨some 26, .ix (.t 25) (kI 0), (some (21, true))⟩, ⟨some 27, .conv .i32 (.t 26), (some (21, true))⟩, ⟨some 28, .call 80 [.k (.d (.lit (.string ⟨#[32, 9, 10]⟩))), .t 27], (some (21, true))⟩,
 oM 29 (.pick (.t 21) (.t 28) kF), oV 15 29] [0, 15]) (.cond (.t 15) (.ops [oV 30 0, oM 31 (.call 77 [.t 30, .k (.d (.lit (.int .i64 1)))])] [0]) (.ret))))))))
def rs45 : List RV := []
theorem k45 : okFn G.tab Tryz.f45 1 c45 rs45 = true := by kernel_rfl
def c46 : Cd := .seq (.ops [oM 2 (.new 41 [.d (.lit (.int .i64 0)), .d (.lit (.int .i64 0)), .d (.lit (.string ⟨#[]⟩)), .d (.lit (.int .i64 0))]), oM 3 (.mv (kI 0))] [0, 2]) (.seq (.seq (.ops [oV 5 0,
 oM 6 (.nilck (.t 5)), oM 7 (.fa 0 (.t 6)), oM 8 (.load 1 false (.t 7)), oM 9 (.ix (.t 8) (kI 0)), oM 10 (.conv .i32 (.t 9)), oV 4 10] [0, 2, 4]) (.block 0 (.seq (.ops [oV 12 4, oM 13 (.call 81 [.t 12]),
 oV 11 13] [0, 2, 4, 11]) (.cond (.t 11) (.seq (.ops [oV 14 0, oM 15 (.call 82 [.t 14]), oM 16 (.ext (.t 15) 0), oM 17 (.ext (.t 15) 1), ⟨none, .sto 4 (.t 2) (.t 16), none⟩, oV 3 17] [2, 3]) (.ret)) (
 .seq (.ops [oV 19 4, oM 20 (.call 83 [.t 19]), oV 18 20] [0, 2, 18]) (.cond (.t 18) (.seq (.ops [oV 21 0, oM 22 (.call 84 [.t 21]), oM 23 (.ext (.t 22) 0), oM 24 (.ext (.t 22) 1), ⟨none, .sto 4 (.t 2) (.t 23), none⟩,
 oV 3 24] [2, 3]) (.ret)) (.skip))))))) (.seq (.ops [oV 25 0, oM 26 (.call 85 [.t 25]), oM 27 (.ext (.t 26) 0), oM 28 (.ext (.t 26) 1), ⟨none, .sto 4 (.t 2) (.t 27), none⟩, oV 3 28] [2, 3]) (.ret)))
def rs46 : List RV := [.c 2 4 true, .t 3 false]
theorem k46 : okFn G.tab Tryz.f46 1 c46 rs46 = true := by kernel_rfl
def c77 : Cd := .seq (.ops [oM 4 (.mv (kS ⟨#[]⟩))] [0, 1]) (.seq (.ops [oV 6 0, oM 7 (.nilck (.t 6)), oM 8 (.fa 0 (.t 7)), oM 9 (.load 1 false (.t 8)), oV 10 1, oM 11 (.sub true 0 (.t 9) none (some (.t 10))),
 oV 5 11] [0, 1, 5]) (.seq (.ops [oV 12 0, oV 13 0, oM 14 (.nilck (.t 13)), oM 15 (.fa 0 (.t 14)), oM 16 (.load 1 false (.t 15)), oV 17 1, oM 18 (.sub true 0 (.t 16) (some (.t 17)) none), oM 19 (.nilck (.t 12)),
 oM 20 (.fa 0 (.t 19)), ⟨none, .sto 1 (.t 20) (.t 18), none⟩] [0, 5]) (.seq (.draws [oV 21 0, oM 22 (.nilck (.t 21)), oM 23 (.fa 1 (.t 22)), oM 24 (.load 1 false (.t 23)), oV 25 5, oM 26 (.call 112 [.t 25, .k (.d (.lit (.string ⟨#[10]⟩)))]),
 oM 27 (.bin .add (.t 24) (.t 26)), oM 28 (.nilck (.t 21)), oM 29 (.fa 1 (.t 28)), ⟨none, .sto 1 (.t 29) (.t 27), none⟩] [5]) (.seq (.ops [oV 30 5, oV 4 30] [4]) (.ret)))))
def rs77 : List RV := [.t 4 false]
theorem k77 : okFn G.tab Tryz.f77 2 c77 rs77 = true := by kernel_rfl
def c82 : Cd := .seq (.ops [oM 2 (.new 41 [.d (.lit (.int .i64 0)), .d (.lit (.int .i64 0)), .d (.lit (.string ⟨#[]⟩)), .d (.lit (.int .i64 0))]), oM 3 (.mv (kI 0))] [0, 2]) (.seq (.ops [oV 5 0, oM 6 (.nilck (.t 5)),
 oM 7 (.fa 1 (.t 6)), oM 8 (.load 1 false (.t 7)), oM 9 (.bld [.d (.lit (.int .i64 0)), .d (.lit (.int .i64 0)), .d (.lit (.string ⟨#[]⟩)), .d (.lit (.int .i64 0))] [(0, 1, .k (.d (.lit (.int .i64 1)))), (3, 1, .t 8)]),
 oM 4 (.new 41 [.d (.lit (.int .i64 0)), .d (.lit (.int .i64 0)), .d (.lit (.string ⟨#[]⟩)), .d (.lit (.int .i64 0))]), ⟨none, .sto 4 (.t 4) (.t 9), none⟩] [0, 2, 4]) (.seq (.ops [oV 10 0, oV 11 0, oM 12 (.nilck (.t 11)),
 oM 13 (.fa 0 (.t 12)), oM 14 (.load 1 false (.t 13)), oM 15 (.call 78 [.t 14, .k (.fn 114 [])]), oM 16 (.call 77 [.t 10, .t 15]), oM 17 (.fa 2 (.t 4)), ⟨none, .sto 1 (.t 17) (.t 16), none⟩] [2, 4]) (
 .seq (.block 0 (.seq (.ops [oM 19 (.fa 2 (.t 4)), oM 20 (.load 1 false (.t 19)), oM 21 (.len true (.t 20)), oM 22 (.bin .gtr (.t 21) (kI 16)), oV 18 22] [2, 4, 18]) (.cond (.t 18) (.seq (.ops [oM 23 (.bld [.d (.lit (.int .i64 0)), .d (.lit (.int .i64 0)), .d (.lit (.string ⟨#[]⟩)), .d (.lit (.int .i64 0))] []),
 ⟨none, .sto 4 (.t 2) (.t 23), none⟩, oM 3 (.mv (kI 2))] [2, 3]) (.ret)) (.seq (.ops [oM 25 (.fa 2 (.t 4)), oM 26 (.load 1 false (.t 25)), oM 27 (.call 101 [.t 26]), oV 24 27] [2, 4, 24]) (.cond (.t 24) (
 .ops [oM 28 (.fa 0 (.t 4)), ⟨none, .sto 1 (.t 28) (kI 2), none⟩] [2, 4]) (.skip)))))) (.seq (.ops [oM 29 (.load 4 true (.t 4)), ⟨none, .sto 4 (.t 2) (.t 29), none⟩, oM 3 (.mv (kI 0))] [2, 3]) (.ret)))))
def rs82 : List RV := [.c 2 4 true, .t 3 false]
theorem k82 : okFn G.tab Tryz.f82 1 c82 rs82 = true := by kernel_rfl
def c84 : Cd := .seq (.ops [oM 2 (.new 41 [.d (.lit (.int .i64 0)), .d (.lit (.int .i64 0)), .d (.lit (.string ⟨#[]⟩)), .d (.lit (.int .i64 0))]), oM 3 (.mv (kI 0))] [0, 2]) (.seq (.ops [oV 7 0, oM 8 (.nilck (.t 7)),
 oM 9 (.fa 1 (.t 8)), oM 10 (.load 1 false (.t 9)), oM 11 (.bld [.d (.lit (.int .i64 0)), .d (.lit (.int .i64 0)), .d (.lit (.string ⟨#[]⟩)), .d (.lit (.int .i64 0))] [(0, 1, .k (.d (.lit (.int .i64 3)))), (3, 1, .t 10)]),
 oM 4 (.new 41 [.d (.lit (.int .i64 0)), .d (.lit (.int .i64 0)), .d (.lit (.string ⟨#[]⟩)), .d (.lit (.int .i64 0))]), ⟨none, .sto 4 (.t 4) (.t 11), none⟩] [0, 2, 4]) (.seq (.ops [oV 12 0, oV 13 0, oM 14 (.nilck (.t 13)),
 oM 15 (.fa 0 (.t 14)), oM 16 (.load 1 false (.t 15)), oM 17 (.call 78 [.t 16, .k (.fn 83 [])]), oM 18 (.call 77 [.t 12, .t 17]), oM 19 (.fa 2 (.t 4)), ⟨none, .sto 1 (.t 19) (.t 18), none⟩] [0, 2, 4]) (
 .seq (.seq (.ops [oM 20 (.fa 2 (.t 4)), oM 21 (.load 1 false (.t 20)), oM 22 (.len true (.t 21)), oM 23 (.bin .gtr (.t 22) (kI 1)), oV 24 23, ⟨some 25, .fa 2 (.t 4), (some (24, true))⟩, ⟨some 26, .load 1 false (.t 25), (some (24, true))⟩,
 ⟨some 27, .ix (.t 26) (kI 0), (some (24, true))⟩, ⟨some 28, .bin .eql (.t 27) (.k (.d (.lit (.int .u8 48)))), (some (24, true))⟩, oM 29 (.pick (.t 24) (.t 28) kF), oV 30 29, ⟨some 31, .mv (.t 0), (some (30, false))⟩,
 ⟨some 32, .nilck (.t 31), (some (30, false))⟩, ⟨some 33, .fa 0 (.t 32), (some (30, false))⟩, ⟨some 34, .load 1 false (.t 33), (some (30, false))⟩, ⟨some 35, .call 78 [.t 34, .k (.fn 114 [])], (some (30, false))⟩,
 ⟨some 36, .bin .gtr (.t 35) (kI 0), (some (30, false))⟩, oM 37 (.pick (.t 30) kT (.t 36))] [2, 4, 37]) (.cond (.t 37) (.seq (.ops [oM 38 (.bld [.d (.lit (.int .i64 0)), .d (.lit (.int .i64 0)), .d (.lit (.string ⟨#[]⟩)), .d (.lit (.int .i64 0))] []),
 ⟨none, .sto 4 (.t 2) (.t 38), none⟩, oM 3 (.mv (kI 5))] [2, 3]) (.ret)) (.skip))) (.seq (.ops [oM 40 (.fa 2 (.t 4)), oM 41 (.load 1 false (.t 40)), oM 42 (.call 115 [.t 41, .k (.d (.lit (.int .i64 10))), .k (.d (.lit (.int .i64 64)))]),
 oV 39 42, oM 43 (.ext (.t 39) 0), oM 44 (.ext (.t 39) 1), oV 5 43, oV 6 44] [2, 4, 5, 6]) (.seq (.seq (.ops [oV 45 6, oM 46 (.nif true (.t 45)), oV 47 46, ⟨some 48, .mv (.t 5), (some (47, false))⟩, ⟨some 49, .bin .gtr (.t 48) (kI 2147483647), (some (47, false))⟩,
 oM 50 (.pick (.t 47) kT (.t 49))] [2, 4, 5, 50]) (.cond (.t 50) (.seq (.ops [oM 51 (.bld [.d (.lit (.int .i64 0)), .d (.lit (.int .i64 0)), .d (.lit (.string ⟨#[]⟩)), .d (.lit (.int .i64 0))] []), ⟨none, .sto 4 (.t 2) (.t 51), none⟩,
 oM 3 (.mv (kI 3))] [2, 3]) (.ret)) (.skip))) (.seq (.ops [oV 52 5, oM 53 (.fa 1 (.t 4)), ⟨none, .sto 1 (.t 53) (.t 52), none⟩] [2, 4]) (.seq (.ops [oM 54 (.load 4 true (.t 4)), ⟨none, .sto 4 (.t 2) (.t 54), none⟩,
 oM 3 (.mv (kI 0))] [2, 3]) (.ret))))))))
def rs84 : List RV := [.c 2 4 true, .t 3 false]
theorem k84 : okFn G.tab Tryz.f84 1 c84 rs84 = true := by kernel_rfl
def c85 : Cd := .seq (.ops [oM 2 (.new 41 [.d (.lit (.int .i64 0)), .d (.lit (.int .i64 0)), .d (.lit (.string ⟨#[]⟩)), .d (.lit (.int .i64 0))]), oM 3 (.mv (kI 0))] [0, 2]) (.seq (.ops [oM 4 (.mv (kI 0))] [0, 2, 4]) (
 .seq (.seq (.ops [oM 8 (.load 1 false (.g 0)), oM 9 (.len false (.t 8)), oM 10 (.mv (kI 0))] [0, 2, 4, 8, 9, 10]) (.block 0 (.loop (.seq (.ops [oM 11 (.bin .lss (.t 10) (.t 9))] [0, 2, 4, 8, 9, 10, 11]) (
 .seq (.cond (.t 11) (.skip) (.exit 0)) (.seq (.block 1 (.seq (.ops [oM 12 (.ia 1 (.t 8) (.t 10)), oM 13 (.load 1 false (.t 12)), oV 6 13] [0, 2, 4, 6, 8, 9, 10]) (.seq (.ops [oV 14 6, oM 15 (.len true (.t 14)),
 oV 16 4, oM 17 (.bin .gtr (.t 15) (.t 16)), oV 18 17, ⟨some 19, .mv (.t 0), (some (18, true))⟩, ⟨some 20, .nilck (.t 19), (some (18, true))⟩, ⟨some 21, .fa 0 (.t 20), (some (18, true))⟩, ⟨some 22, .load 1 false (.t 21), (some (18, true))⟩,
 ⟨some 23, .mv (.t 6), (some (18, true))⟩, ⟨some 24, .call 76 [.t 22, .t 23], (some (18, true))⟩, oM 25 (.pick (.t 18) (.t 24) kF)] [0, 2, 4, 6, 8, 9, 10, 25]) (.cond (.t 25) (.ops [oV 26 6, oM 27 (.len true (.t 26)),
 oV 4 27] [0, 2, 4, 8, 9, 10]) (.skip))))) (.ops [oM 28 (.bin .add (.t 10) (kI 1)), oV 10 28] [0, 2, 4, 8, 9, 10]))))))) (.seq (.seq (.ops [oV 29 4, oM 30 (.bin .eql (.t 29) (kI 0))] [0, 2, 4, 30]) (
 .cond (.t 30) (.seq (.ops [oM 31 (.bld [.d (.lit (.int .i64 0)), .d (.lit (.int .i64 0)), .d (.lit (.string ⟨#[]⟩)), .d (.lit (.int .i64 0))] []), ⟨none, .sto 4 (.t 2) (.t 31), none⟩, oM 3 (.mv (kI 5))] [2, 3]) (
 .ret)) (.skip))) (.seq (.ops [oV 32 0, oM 33 (.nilck (.t 32)), oM 34 (.fa 1 (.t 33)), oM 35 (.load 1 false (.t 34)), oM 36 (.bld [.d (.lit (.int .i64 0)), .d (.lit (.int .i64 0)), .d (.lit (.string ⟨#[]⟩)), .d (.lit (.int .i64 0))] [(0, 1, .k (.d (.lit (.int .i64 4)))), (3, 1, .t 35)]),
 oM 7 (.new 41 [.d (.lit (.int .i64 0)), .d (.lit (.int .i64 0)), .d (.lit (.string ⟨#[]⟩)), .d (.lit (.int .i64 0))]), ⟨none, .sto 4 (.t 7) (.t 36), none⟩] [0, 2, 4, 7]) (.seq (.ops [oV 37 0, oV 38 4,
 oM 39 (.call 77 [.t 37, .t 38]), oM 40 (.fa 2 (.t 7)), ⟨none, .sto 1 (.t 40) (.t 39), none⟩] [2, 7]) (.seq (.ops [oM 41 (.load 4 true (.t 7)), ⟨none, .sto 4 (.t 2) (.t 41), none⟩, oM 3 (.mv (kI 0))] [2, 3]) (
 .ret)))))))
def rs85 : List RV := [.c 2 4 true, .t 3 false]
theorem k85 : okFn G.tab Tryz.f85 1 c85 rs85 = true := by kernel_rfl
def c171 : Cd := .seq (.ops [oM 2 (.mv kF)] [0]) (.seq (.ops [oM 3 (.load 1 false (.g 0)), oV 4 0, oM 5 (.call 121 [.t 3, .t 4]), oV 2 5] [2]) (.ret))
def rs171 : List RV := [.t 2 false]
theorem k171 : okFn G.tab Tryz.f171 1 c171 rs171 = true := by kernel_rfl
def c121 : Cd := .seq (.ops [oM 4 (.mv kF)] [0, 1]) (.seq (.ops [oV 5 0, oV 6 1, oM 7 (.call 141 [.t 5, .t 6]), oM 8 (.bin .geq (.t 7) (kI 0)), oV 4 8] [4]) (.ret))
def rs121 : List RV := [.t 4 false]
theorem k121 : okFn G.tab Tryz.f121 2 c121 rs121 = true := by kernel_rfl
def c141 : Cd := .seq (.ops [oM 4 (.mv (kI 0))] [0, 1]) (.seq (.seq (.ops [oV 6 0, oM 7 (.len false (.t 6)), oM 8 (.mv (kI 0))] [0, 1, 7, 8]) (.block 0 (.loop (.seq (.ops [oM 9 (.bin .lss (.t 8) (.t 7))] [0, 1, 7, 8, 9]) (
 .seq (.cond (.t 9) (.skip) (.exit 0)) (.seq (.block 1 (.seq (.ops [oV 10 8, oV 5 10] [0, 1, 5, 7, 8]) (.seq (.ops [oV 11 1, oV 12 0, oV 13 5, oM 14 (.ia 1 (.t 12) (.t 13)), oM 15 (.load 1 false (.t 14)),
 oM 16 (.bin .eql (.t 11) (.t 15))] [0, 1, 5, 7, 8, 16]) (.cond (.t 16) (.seq (.ops [oV 17 5, oV 4 17] [4]) (.ret)) (.skip))))) (.ops [oM 18 (.bin .add (.t 8) (kI 1)), oV 8 18] [0, 1, 7, 8]))))))) (.seq (
 .ops [oM 4 (.mv (kI (-1)))] [4]) (.ret)))
def rs141 : List RV := [.t 4 false]
theorem k141 : okFn G.tab Tryz.f141 2 c141 rs141 = true := by kernel_rfl
end Go.Proofs.YteopfpebdalcoaaGreatDoor
