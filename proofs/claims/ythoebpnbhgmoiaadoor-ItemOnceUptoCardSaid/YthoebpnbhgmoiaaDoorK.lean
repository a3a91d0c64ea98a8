/-
  Code of functions in the plain world.
-/
import Derived.Test.YthoebpnbhgmoiaaDoorProg
import Derived.Test.YthoebpnbhgmoiaaDoorA20
import Derived.KernelRfl
import Derived.Test.YthoebpnbhgmoiaaDoorNames
namespace Go.Proofs.YthoebpnbhgmoiaaDoor
open Go.RowKit
set_option maxRecDepth 100000
set_option linter.unusedVariables false
set_option linter.unusedSimpArgs false
noncomputable def G : Cx := cx Tryd.prog (fun g => if g = 0 then some [.sl (kwList.map fun s => [.lit (.string s)])] else none) (by kernel_rfl)
def oM (n : Nat) (o : OP) : O := ⟨some n, o, none⟩
def oV (n t : Nat) : O := ⟨some n, .mv (.t t), none⟩
def kI (z : Int) : X := .k (.d (.lit (.int .i64 z)))
def kS (s : ByteArray) : X := .k (.d (.lit (.string s)))
def kT : X := .k (.d (.lit (.bool true)))
def kF : X := .k (.d (.lit (.bool false)))
def c22 : Cd := .seq (.ops [oM 2 (.box 43 (.t 0)), oM 3 (.box 43 (.t 1)), oM 4 (.mv kF)] [2, 3]) (.seq (.seq (.ops [oM 6 (.fa 0 (.t 2)), oM 7 (.load 1 false (.t 6)), oM 8 (.fa 0 (.t 3)), oM 9 (.load 1 false (.t 8)),
 oM 10 (.bin .neq (.t 7) (.t 9)), oV 11 10, ⟨some 12, .fa 1 (.t 2), (some (11, false))⟩, ⟨some 13, .load 1 false (.t 12), (some (11, false))⟩, ⟨some 14, .fa 1 (.t 3), (some (11, false))⟩, ⟨some 15, .load 1 false (.t 14), (some (11, false))⟩,
 ⟨some 16, .bin .neq (.t 13) (.t 15), (some (11, false))⟩, oM 17 (.pick (.t 11) kT (.t 16)), oV 18 17, ⟨some 19, .fa 2 (.t 2), (some (18, false))⟩, ⟨some 20, .load 1 false (.t 19), (some (18, false))⟩,
 ⟨some 21, .fa 2 (.t 3), (some (18, false))⟩, ⟨some 22, .load 1 false (.t 21), (some (18, false))⟩, ⟨some 23, .bin .neq (.t 20) (.t 22), (some (18, false))⟩, oM 24 (.pick (.t 18) kT (.t 23)), oV 25 24,
 ⟨some 26, .fa 3 (.t 2), (some (25, false))⟩, ⟨some 27, .load 1 false (.t 26), (some (25, false))⟩, ⟨some 28, .len false (.t 27), (some (25, false))⟩, ⟨some 29, .fa 3 (.t 3), (some (25, false))⟩, ⟨some 30, .load 1 false (.t 29), (some (25, false))⟩,
 ⟨some 31, .len false (.t 30), (some (25, false))⟩, ⟨some 32, .bin .neq (.t 28) (.t 31), (some (25, false))⟩, oM 33 (.pick (.t 25) kT (.t 32))] [2, 3, 33]) (.cond (.t 33) (.seq (.ops [oM 4 (.mv kF)] [4]) (
 .ret)) (.skip))) (.seq (.seq (.ops [oM 5 (.mv (kI 0))] [2, 3, 5]) (.block 0 (.loop (.seq (.seq (.ops [oV 34 5, oM 35 (.fa 3 (.t 2)), oM 36 (.load 1 false (.t 35)), oM 37 (.len false (.t 36)), oM 38 (.bin .lss (.t 34) (.t 37))] [2, 3, 5, 38]) (
 .cond (.t 38) (.skip) (.exit 0))) (.seq (.block 1 (.seq (.draw [oM 41 (.fa 3 (.t 2)), oM 42 (.load 1 false (.t 41)), oV 43 5, oM 44 (.ia 4 (.t 42) (.t 43)), oM 45 (.load 4 true (.t 44)), oM 46 (.fa 3 (.t 3)),
 oM 47 (.load 1 false (.t 46)), oV 48 5, oM 49 (.ia 4 (.t 47) (.t 48)), oM 50 (.load 4 true (.t 49)), oM 51 (.call 22 [.t 45, .t 50]), oM 52 (.un .not (.t 51))] [2, 3, 5, 52]) (.cond (.t 52) (.seq (.ops [
 oM 4 (.mv kF)] [4]) (.ret)) (.skip)))) (.ops [oV 39 5, oM 40 (.bin .add (.t 39) (kI 1)), oV 5 40] [2, 3, 5])))))) (.seq (.ops [oM 4 (.mv kT)] [4]) (.ret))))
def rs22 : List RV := [.t 4 false]
theorem k22 : okFn G.tab Tryd.f22 2 c22 rs22 = true := by kernel_rfl
def c67 : Cd := .seq (.ops [oM 2 (.nilo 9 1)] [0]) (.seq (.ops [oM 3 (.mv (kI 0))] [0, 3]) (.seq (.seq (.ops [oV 9 0, oM 10 (.len false (.t 9)), oM 11 (.mv (kI 0))] [0, 3, 9, 10, 11]) (.block 0 (.loop (
 .seq (.ops [oM 12 (.bin .lss (.t 11) (.t 10))] [0, 3, 9, 10, 11, 12]) (.seq (.cond (.t 12) (.skip) (.exit 0)) (.seq (.block 1 (.seq (.ops [oM 13 (.ia 1 (.t 9) (.t 11)), oM 14 (.load 1 false (.t 13)),
 oV 5 14] [0, 3, 5, 9, 10, 11]) (.seq (.ops [oV 15 3, oV 16 5, oM 17 (.len false (.t 16)), oM 18 (.bin .add (.t 15) (.t 17)), oV 3 18] [0, 3, 9, 10, 11]) (.seq (.ops [oV 19 3, oM 20 (.bin .lss (.t 19) (kI 0))] [0, 3, 9, 10, 11, 20]) (
 .cond (.t 20) (.ops [oM 21 (.mki 9 (kS ⟨#[108, 101, 110, 32, 111, 117, 116, 32, 111, 102, 32, 114, 97, 110, 103, 101]⟩)), ⟨none, .pan (.t 21), none⟩] [0, 3, 9, 10, 11]) (.skip)))))) (.ops [oM 22 (.bin .add (.t 11) (kI 1)),
 oV 11 22] [0, 3, 9, 10, 11]))))))) (.seq (.ops [oV 23 3, oM 24 (.calln 76 [.k (.nil), .t 23]), oM 6 (.mvo 24)] [0, 6]) (.seq (.seq (.ops [oV 25 0, oM 26 (.len false (.t 25)), oM 27 (.mv (kI 0))] [6, 25, 26, 27]) (
 .block 2 (.loop (.seq (.ops [oM 28 (.bin .lss (.t 27) (.t 26))] [6, 25, 26, 27, 28]) (.seq (.cond (.t 28) (.skip) (.exit 2)) (.seq (.block 3 (.seq (.ops [oM 29 (.ia 1 (.t 25) (.t 27)), oM 30 (.load 1 false (.t 29)),
 oV 8 30] [6, 8, 25, 26, 27]) (.ops [oM 31 (.mvo 6), oV 32 8, oM 33 (.app 9 1 16 31 (.t 32)), oM 6 (.mvo 33)] [6, 25, 26, 27]))) (.ops [oM 34 (.bin .add (.t 27) (kI 1)), oV 27 34] [6, 25, 26, 27]))))))) (
 .seq (.ops [oM 35 (.mvo 6), oM 2 (.mvo 35)] [2]) (.ret))))))
def rs67 : List RV := [.t 2 true]
theorem k67 : okFn G.tab Tryd.f67 1 c67 rs67 = true := by kernel_rfl
end Go.Proofs.YthoebpnbhgmoiaaDoor
