/-
  Code of functions in the plain world.
-/
import Derived.Test.YtibfoafepjggjaaDoorProg
import Derived.Test.YtibfoafepjggjaaDoorA20
import Derived.KernelRfl
import Derived.Test.YtibfoafepjggjaaDoorK
namespace Go.Proofs.YtibfoafepjggjaaDoor
open Go.RowKit
set_option maxRecDepth 100000

/-- testbench/testbenchlaw08.ExprShapes -/
def c3 : Cd :=
 .seq (
  .ops [
    ⟨(some 2), .box 24 (.t 0), none⟩,
    ⟨(some 4), .mv (.k (.d (.lit (.bool false)))), none⟩] [1, 2]) (
  .seq (
   .seq (
    .ops [
      ⟨(some 5), .load 4 true (.t 2), none⟩,
      ⟨(some 6), .call 9 [.t 5, .k (.d (.lit (.int .i64 450)))], none⟩,
      ⟨(some 7), .un .not (.t 6), none⟩] [1, 2, 7]) (
    .cond (.t 7) (
     .seq (
      .ops [
        ⟨(some 8), .call 10 [], none⟩,
        ⟨(some 4), .mv (.t 8), none⟩] [4]) (
      .ret)) (
     .skip))) (
   .seq (
    .draw [
      ⟨(some 9), .mv (.t 1), none⟩,
      ⟨(some 10), .call 11 [.t 9], none⟩,
      ⟨(some 11), .mv (.t 1), none⟩,
      ⟨(some 12), .call 12 [.t 11], none⟩,
      ⟨(some 13), .bin .eql (.t 10) (.t 12), none⟩,
      ⟨(some 14), .mv (.t 13), none⟩,
      ⟨(some 15), .fa 0 (.t 2), (some (14, true))⟩,
      ⟨(some 16), .load 1 false (.t 15), (some (14, true))⟩,
      ⟨(some 17), .call 11 [.t 16], (some (14, true))⟩,
      ⟨(some 18), .fa 0 (.t 2), (some (14, true))⟩,
      ⟨(some 19), .load 1 false (.t 18), (some (14, true))⟩,
      ⟨(some 20), .call 12 [.t 19], (some (14, true))⟩,
      ⟨(some 21), .bin .eql (.t 17) (.t 20), (some (14, true))⟩,
      ⟨(some 22), .pick (.t 14) (.t 21) (.k (.d (.lit (.bool false)))), none⟩,
      ⟨(some 23), .mv (.t 22), none⟩,
      ⟨(some 24), .load 4 true (.t 2), (some (23, true))⟩,
      ⟨(some 25), .call 13 [.t 24], (some (23, true))⟩,
      ⟨(some 26), .load 4 true (.t 2), (some (23, true))⟩,
      ⟨(some 27), .call 14 [.t 26], (some (23, true))⟩,
      ⟨(some 28), .bin .eql (.t 25) (.t 27), (some (23, true))⟩,
      ⟨(some 29), .pick (.t 23) (.t 28) (.k (.d (.lit (.bool false)))), none⟩,
      ⟨(some 30), .mv (.t 29), none⟩,
      ⟨(some 31), .load 4 true (.t 2), (some (30, true))⟩,
      ⟨(some 32), .call 15 [.t 31], (some (30, true))⟩,
      ⟨(some 33), .load 4 true (.t 2), (some (30, true))⟩,
      ⟨(some 34), .call 16 [.t 33], (some (30, true))⟩,
      ⟨(some 35), .bin .eql (.t 32) (.t 34), (some (30, true))⟩,
      ⟨(some 36), .pick (.t 30) (.t 35) (.k (.d (.lit (.bool false)))), none⟩,
      ⟨(some 37), .mv (.t 36), none⟩,
      ⟨(some 38), .load 4 true (.t 2), (some (37, true))⟩,
      ⟨(some 39), .call 18 [.t 38], (some (37, true))⟩,
      ⟨(some 40), .load 4 true (.t 2), (some (37, true))⟩,
      ⟨(some 41), .call 19 [.t 40], (some (37, true))⟩,
      ⟨(some 42), .call 17 [.t 39, .t 41], (some (37, true))⟩,
      ⟨(some 43), .pick (.t 37) (.t 42) (.k (.d (.lit (.bool false)))), none⟩,
      ⟨(some 44), .mv (.t 43), none⟩,
      ⟨(some 45), .load 4 true (.t 2), (some (44, true))⟩,
      ⟨(some 46), .call 20 [.t 45], (some (44, true))⟩,
      ⟨(some 47), .load 4 true (.t 2), (some (44, true))⟩,
      ⟨(some 48), .call 21 [.t 47], (some (44, true))⟩,
      ⟨(some 49), .call 17 [.t 46, .t 48], (some (44, true))⟩,
      ⟨(some 50), .pick (.t 44) (.t 49) (.k (.d (.lit (.bool false)))), none⟩,
      ⟨(some 51), .mv (.t 50), none⟩,
      ⟨(some 52), .call 10 [], (some (51, true))⟩,
      ⟨(some 53), .pick (.t 51) (.t 52) (.k (.d (.lit (.bool false)))), none⟩,
      ⟨(some 4), .mv (.t 53), none⟩] [4]) (
    .ret)))
def rs3 : List RV := [.t 4 false]
theorem k3 : okFn G.tab Tryd.f3 2 c3 rs3 = true := by kernel_rfl

end Go.Proofs.YtibfoafepjggjaaDoor
