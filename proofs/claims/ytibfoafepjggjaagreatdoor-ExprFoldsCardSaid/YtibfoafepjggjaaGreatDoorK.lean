/-
  Code of functions in the plain world.
-/
import Derived.Test.YtibfoafepjggjaaGreatDoorProg
import Derived.Test.YtibfoafepjggjaaGreatDoorA20
import Derived.KernelRfl
import Derived.Test.YtibfoafepjggjaaGreatDoorNames
namespace Go.Proofs.YtibfoafepjggjaaGreatDoor
open Go.RowKit
set_option maxRecDepth 100000
set_option linter.unusedVariables false
set_option linter.unusedSimpArgs false

noncomputable def G : Cx := cx Tryz.prog (fun g => if g = 0 then some [.sl (kwList.map fun s => [.lit (.string s)])] else none) (by kernel_rfl)
/-- testbench/expr.Same -/
def c13 : Cd :=
 .seq (
  .ops [
    ⟨(some 2), .box 24 (.t 0), none⟩,
    ⟨(some 3), .box 24 (.t 1), none⟩,
    ⟨(some 4), .mv (.k (.d (.lit (.bool false)))), none⟩] [2, 3]) (
  .seq (
   .ops [
     ⟨(some 5), .fa 0 (.t 2), none⟩,
     ⟨(some 6), .load 1 false (.t 5), none⟩,
     ⟨(some 7), .fa 0 (.t 3), none⟩,
     ⟨(some 8), .load 1 false (.t 7), none⟩,
     ⟨(some 9), .bin .eql (.t 6) (.t 8), none⟩,
     ⟨(some 10), .mv (.t 9), none⟩,
     ⟨(some 11), .fa 1 (.t 2), (some (10, true))⟩,
     ⟨(some 12), .load 1 false (.t 11), (some (10, true))⟩,
     ⟨(some 13), .fa 1 (.t 3), (some (10, true))⟩,
     ⟨(some 14), .load 1 false (.t 13), (some (10, true))⟩,
     ⟨(some 15), .bin .eql (.t 12) (.t 14), (some (10, true))⟩,
     ⟨(some 16), .pick (.t 10) (.t 15) (.k (.d (.lit (.bool false)))), none⟩,
     ⟨(some 17), .mv (.t 16), none⟩,
     ⟨(some 18), .fa 2 (.t 2), (some (17, true))⟩,
     ⟨(some 19), .load 1 false (.t 18), (some (17, true))⟩,
     ⟨(some 20), .fa 2 (.t 3), (some (17, true))⟩,
     ⟨(some 21), .load 1 false (.t 20), (some (17, true))⟩,
     ⟨(some 22), .bin .eql (.t 19) (.t 21), (some (17, true))⟩,
     ⟨(some 23), .pick (.t 17) (.t 22) (.k (.d (.lit (.bool false)))), none⟩,
     ⟨(some 24), .mv (.t 23), none⟩,
     ⟨(some 25), .fa 3 (.t 2), (some (24, true))⟩,
     ⟨(some 26), .load 1 false (.t 25), (some (24, true))⟩,
     ⟨(some 27), .fa 3 (.t 3), (some (24, true))⟩,
     ⟨(some 28), .load 1 false (.t 27), (some (24, true))⟩,
     ⟨(some 29), .call 28 [.t 26, .t 28, .k (.fn 13 [])], (some (24, true))⟩,
     ⟨(some 30), .pick (.t 24) (.t 29) (.k (.d (.lit (.bool false)))), none⟩,
     ⟨(some 4), .mv (.t 30), none⟩] [4]) (
   .ret))
def rs13 : List RV := [.t 4 false]
theorem k13 : okFn G.tab Tryz.f13 2 c13 rs13 = true := by kernel_rfl

/-- testbench/testbenchref08.Same -/
def c11 : Cd :=
 .seq (
  .ops [
    ⟨(some 2), .box 24 (.t 0), none⟩,
    ⟨(some 3), .box 24 (.t 1), none⟩,
    ⟨(some 4), .mv (.k (.d (.lit (.bool false)))), none⟩] [2, 3]) (
  .seq (
   .seq (
    .ops [
      ⟨(some 6), .fa 0 (.t 2), none⟩,
      ⟨(some 7), .load 1 false (.t 6), none⟩,
      ⟨(some 8), .fa 0 (.t 3), none⟩,
      ⟨(some 9), .load 1 false (.t 8), none⟩,
      ⟨(some 10), .bin .neq (.t 7) (.t 9), none⟩,
      ⟨(some 11), .mv (.t 10), none⟩,
      ⟨(some 12), .fa 1 (.t 2), (some (11, false))⟩,
      ⟨(some 13), .load 1 false (.t 12), (some (11, false))⟩,
      ⟨(some 14), .fa 1 (.t 3), (some (11, false))⟩,
      ⟨(some 15), .load 1 false (.t 14), (some (11, false))⟩,
      ⟨(some 16), .bin .neq (.t 13) (.t 15), (some (11, false))⟩,
      ⟨(some 17), .pick (.t 11) (.k (.d (.lit (.bool true)))) (.t 16), none⟩,
      ⟨(some 18), .mv (.t 17), none⟩,
      ⟨(some 19), .fa 2 (.t 2), (some (18, false))⟩,
      ⟨(some 20), .load 1 false (.t 19), (some (18, false))⟩,
      ⟨(some 21), .fa 2 (.t 3), (some (18, false))⟩,
      ⟨(some 22), .load 1 false (.t 21), (some (18, false))⟩,
      ⟨(some 23), .bin .neq (.t 20) (.t 22), (some (18, false))⟩,
      ⟨(some 24), .pick (.t 18) (.k (.d (.lit (.bool true)))) (.t 23), none⟩,
      ⟨(some 25), .mv (.t 24), none⟩,
      ⟨(some 26), .fa 3 (.t 2), (some (25, false))⟩,
      ⟨(some 27), .load 1 false (.t 26), (some (25, false))⟩,
      ⟨(some 28), .len false (.t 27), (some (25, false))⟩,
      ⟨(some 29), .fa 3 (.t 3), (some (25, false))⟩,
      ⟨(some 30), .load 1 false (.t 29), (some (25, false))⟩,
      ⟨(some 31), .len false (.t 30), (some (25, false))⟩,
      ⟨(some 32), .bin .neq (.t 28) (.t 31), (some (25, false))⟩,
      ⟨(some 33), .pick (.t 25) (.k (.d (.lit (.bool true)))) (.t 32), none⟩] [2, 3, 33]) (
    .cond (.t 33) (
     .seq (
      .ops [
        ⟨(some 4), .mv (.k (.d (.lit (.bool false)))), none⟩] [4]) (
      .ret)) (
     .skip))) (
   .seq (
    .seq (
     .ops [
       ⟨(some 5), .mv (.k (.d (.lit (.int .i64 0)))), none⟩] [2, 3, 5]) (
     .block 0 (
      .loop (
       .seq (
        .seq (
         .ops [
           ⟨(some 34), .mv (.t 5), none⟩,
           ⟨(some 35), .fa 3 (.t 2), none⟩,
           ⟨(some 36), .load 1 false (.t 35), none⟩,
           ⟨(some 37), .len false (.t 36), none⟩,
           ⟨(some 38), .bin .lss (.t 34) (.t 37), none⟩] [2, 3, 5, 38]) (
         .cond (.t 38) (
          .skip) (
          .exit 0))) (
        .seq (
         .block 1 (
          .seq (
           .draw [
             ⟨(some 41), .fa 3 (.t 2), none⟩,
             ⟨(some 42), .load 1 false (.t 41), none⟩,
             ⟨(some 43), .mv (.t 5), none⟩,
             ⟨(some 44), .ia 4 (.t 42) (.t 43), none⟩,
             ⟨(some 45), .load 4 true (.t 44), none⟩,
             ⟨(some 46), .fa 3 (.t 3), none⟩,
             ⟨(some 47), .load 1 false (.t 46), none⟩,
             ⟨(some 48), .mv (.t 5), none⟩,
             ⟨(some 49), .ia 4 (.t 47) (.t 48), none⟩,
             ⟨(some 50), .load 4 true (.t 49), none⟩,
             ⟨(some 51), .call 11 [.t 45, .t 50], none⟩,
             ⟨(some 52), .un .not (.t 51), none⟩] [2, 3, 5, 52]) (
           .cond (.t 52) (
            .seq (
             .ops [
               ⟨(some 4), .mv (.k (.d (.lit (.bool false)))), none⟩] [4]) (
             .ret)) (
            .skip)))) (
         .ops [
           ⟨(some 39), .mv (.t 5), none⟩,
           ⟨(some 40), .bin .add (.t 39) (.k (.d (.lit (.int .i64 1)))), none⟩,
           ⟨(some 5), .mv (.t 40), none⟩] [2, 3, 5])))))) (
    .seq (
     .ops [
       ⟨(some 4), .mv (.k (.d (.lit (.bool true)))), none⟩] [4]) (
     .ret))))
def rs11 : List RV := [.t 4 false]
theorem k11 : okFn G.tab Tryz.f11 2 c11 rs11 = true := by kernel_rfl

/-- slices.EqualFunc[[]testbench/api.Expr,[]testbench/api.Expr,testbench/api.Expr,testbench/api.Expr] -/
def c28 : Cd :=
 .seq (
  .ops [
    ⟨(some 6), .mv (.k (.d (.lit (.bool false)))), none⟩] [0, 1, 2]) (
  .seq (
   .seq (
    .ops [
      ⟨(some 10), .mv (.t 0), none⟩,
      ⟨(some 11), .len false (.t 10), none⟩,
      ⟨(some 12), .mv (.t 1), none⟩,
      ⟨(some 13), .len false (.t 12), none⟩,
      ⟨(some 14), .bin .neq (.t 11) (.t 13), none⟩] [0, 1, 2, 14]) (
    .cond (.t 14) (
     .seq (
      .ops [
        ⟨(some 6), .mv (.k (.d (.lit (.bool false)))), none⟩] [6]) (
      .ret)) (
     .skip))) (
   .seq (
    .seq (
     .ops [
       ⟨(some 15), .mv (.t 0), none⟩,
       ⟨(some 16), .len false (.t 15), none⟩,
       ⟨(some 17), .mv (.k (.d (.lit (.int .i64 0)))), none⟩] [1, 2, 15, 16, 17]) (
     .block 0 (
      .loop (
       .seq (
        .ops [
          ⟨(some 18), .bin .lss (.t 17) (.t 16), none⟩] [1, 2, 15, 16, 17, 18]) (
        .seq (
         .cond (.t 18) (
          .skip) (
          .exit 0)) (
         .seq (
          .block 1 (
           .seq (
            .ops [
              ⟨(some 19), .mv (.t 17), none⟩,
              ⟨(some 20), .ia 4 (.t 15) (.t 17), none⟩,
              ⟨(some 21), .load 4 true (.t 20), none⟩,
              ⟨(some 8), .new 24 [.d (.lit (.int .i64 0)), .d (.lit (.int .i64 0)), .d (.lit (.string ⟨#[]⟩)), .nil], none⟩,
              ⟨(some 7), .mv (.t 19), none⟩,
              ⟨none, .sto 4 (.t 8) (.t 21), none⟩] [1, 2, 7, 8, 15, 16, 17]) (
            .seq (
             .ops [
               ⟨(some 22), .mv (.t 1), none⟩,
               ⟨(some 23), .mv (.t 7), none⟩,
               ⟨(some 24), .ia 4 (.t 22) (.t 23), none⟩,
               ⟨(some 25), .load 4 true (.t 24), none⟩,
               ⟨(some 9), .new 24 [.d (.lit (.int .i64 0)), .d (.lit (.int .i64 0)), .d (.lit (.string ⟨#[]⟩)), .nil], none⟩,
               ⟨none, .sto 4 (.t 9) (.t 25), none⟩] [1, 2, 8, 9, 15, 16, 17]) (
             .seq (
              .ops [
                ⟨(some 26), .mv (.t 2), none⟩,
                ⟨(some 27), .load 4 true (.t 8), none⟩,
                ⟨(some 28), .load 4 true (.t 9), none⟩,
                ⟨(some 29), .callv (.t 26) [.t 27, .t 28], none⟩,
                ⟨(some 30), .un .not (.t 29), none⟩] [1, 2, 15, 16, 17, 30]) (
              .cond (.t 30) (
               .seq (
                .ops [
                  ⟨(some 6), .mv (.k (.d (.lit (.bool false)))), none⟩] [6]) (
                .ret)) (
               .skip)))))) (
          .ops [
            ⟨(some 31), .bin .add (.t 17) (.k (.d (.lit (.int .i64 1)))), none⟩,
            ⟨(some 17), .mv (.t 31), none⟩] [1, 2, 15, 16, 17]))))))) (
    .seq (
     .ops [
       ⟨(some 6), .mv (.k (.d (.lit (.bool true)))), none⟩] [6]) (
     .ret))))
def rs28 : List RV := [.t 6 false]
theorem k28 : okFn G.tab Tryz.f28 3 c28 rs28 = true := by kernel_rfl

/-- testbench/testbenchlaw08.ExprEvals -/
def c3 : Cd :=
 .seq (
  .ops [
    ⟨(some 2), .box 24 (.t 0), none⟩,
    ⟨(some 4), .mv (.k (.d (.lit (.bool false)))), none⟩] [1, 2]) (
  .seq (
   .seq (
    .ops [
      ⟨(some 9), .load 4 true (.t 2), none⟩,
      ⟨(some 10), .call 5 [.t 9, .k (.d (.lit (.int .i64 120)))], none⟩,
      ⟨(some 11), .un .not (.t 10), none⟩,
      ⟨(some 12), .mv (.t 11), none⟩,
      ⟨(some 13), .mv (.t 1), (some (12, false))⟩,
      ⟨(some 14), .call 6 [.t 13], (some (12, false))⟩,
      ⟨(some 15), .un .not (.t 14), (some (12, false))⟩,
      ⟨(some 16), .pick (.t 12) (.k (.d (.lit (.bool true)))) (.t 15), none⟩] [1, 2, 16]) (
    .cond (.t 16) (
     .seq (
      .ops [
        ⟨(some 17), .call 7 [], none⟩,
        ⟨(some 4), .mv (.t 17), none⟩] [4]) (
      .ret)) (
     .skip))) (
   .seq (
    .ops [
      ⟨(some 19), .load 4 true (.t 2), none⟩,
      ⟨(some 20), .mv (.t 1), none⟩,
      ⟨(some 21), .call 8 [.t 19, .t 20], none⟩,
      ⟨(some 18), .mv (.t 21), none⟩,
      ⟨(some 22), .ext (.t 18) 0, none⟩,
      ⟨(some 23), .ext (.t 18) 1, none⟩,
      ⟨(some 5), .mv (.t 22), none⟩,
      ⟨(some 6), .mv (.t 23), none⟩] [1, 2, 5, 6]) (
    .seq (
     .ops [
       ⟨(some 25), .load 4 true (.t 2), none⟩,
       ⟨(some 26), .mv (.t 1), none⟩,
       ⟨(some 27), .call 9 [.t 25, .t 26], none⟩,
       ⟨(some 24), .mv (.t 27), none⟩,
       ⟨(some 28), .ext (.t 24) 0, none⟩,
       ⟨(some 29), .ext (.t 24) 1, none⟩,
       ⟨(some 7), .mv (.t 28), none⟩,
       ⟨(some 8), .mv (.t 29), none⟩] [5, 6, 7, 8]) (
     .seq (
      .ops [
        ⟨(some 30), .mv (.t 5), none⟩,
        ⟨(some 31), .mv (.t 7), none⟩,
        ⟨(some 32), .bin .eql (.t 30) (.t 31), none⟩,
        ⟨(some 33), .mv (.t 32), none⟩,
        ⟨(some 34), .mv (.t 6), (some (33, true))⟩,
        ⟨(some 35), .mv (.t 8), (some (33, true))⟩,
        ⟨(some 36), .bin .eql (.t 34) (.t 35), (some (33, true))⟩,
        ⟨(some 37), .pick (.t 33) (.t 36) (.k (.d (.lit (.bool false)))), none⟩,
        ⟨(some 38), .mv (.t 37), none⟩,
        ⟨(some 39), .mv (.t 5), (some (38, true))⟩,
        ⟨(some 40), .bin .geq (.t 39) (.k (.d (.lit (.int .i64 0)))), (some (38, true))⟩,
        ⟨(some 41), .pick (.t 38) (.t 40) (.k (.d (.lit (.bool false)))), none⟩,
        ⟨(some 42), .mv (.t 41), none⟩,
        ⟨(some 43), .mv (.t 5), (some (42, true))⟩,
        ⟨(some 44), .bin .leq (.t 43) (.k (.d (.lit (.int .i64 65535)))), (some (42, true))⟩,
        ⟨(some 45), .pick (.t 42) (.t 44) (.k (.d (.lit (.bool false)))), none⟩,
        ⟨(some 46), .mv (.t 45), none⟩,
        ⟨(some 47), .call 7 [], (some (46, true))⟩,
        ⟨(some 48), .pick (.t 46) (.t 47) (.k (.d (.lit (.bool false)))), none⟩,
        ⟨(some 4), .mv (.t 48), none⟩] [4]) (
      .ret)))))
def rs3 : List RV := [.t 4 false]
theorem k3 : okFn G.tab Tryz.f3 2 c3 rs3 = true := by kernel_rfl

/-- testbench/testbenchlaw08.ExprFolds -/
def c4 : Cd :=
 .seq (
  .ops [
    ⟨(some 2), .box 24 (.t 0), none⟩,
    ⟨(some 4), .mv (.k (.d (.lit (.bool false)))), none⟩] [1, 2]) (
  .seq (
   .seq (
    .ops [
      ⟨(some 10), .load 4 true (.t 2), none⟩,
      ⟨(some 11), .call 5 [.t 10, .k (.d (.lit (.int .i64 120)))], none⟩,
      ⟨(some 12), .un .not (.t 11), none⟩,
      ⟨(some 13), .mv (.t 12), none⟩,
      ⟨(some 14), .mv (.t 1), (some (13, false))⟩,
      ⟨(some 15), .call 6 [.t 14], (some (13, false))⟩,
      ⟨(some 16), .un .not (.t 15), (some (13, false))⟩,
      ⟨(some 17), .pick (.t 13) (.k (.d (.lit (.bool true)))) (.t 16), none⟩] [1, 2, 17]) (
    .cond (.t 17) (
     .seq (
      .ops [
        ⟨(some 18), .call 7 [], none⟩,
        ⟨(some 4), .mv (.t 18), none⟩] [4]) (
      .ret)) (
     .skip))) (
   .seq (
    .ops [
      ⟨(some 19), .load 4 true (.t 2), none⟩,
      ⟨(some 20), .call 10 [.t 19], none⟩,
      ⟨(some 5), .new 24 [.d (.lit (.int .i64 0)), .d (.lit (.int .i64 0)), .d (.lit (.string ⟨#[]⟩)), .nil], none⟩,
      ⟨none, .sto 4 (.t 5) (.t 20), none⟩] [1, 2, 5]) (
    .seq (
     .seq (
      .draw [
        ⟨(some 21), .load 4 true (.t 5), none⟩,
        ⟨(some 22), .load 4 true (.t 2), none⟩,
        ⟨(some 23), .call 12 [.t 22], none⟩,
        ⟨(some 24), .call 11 [.t 21, .t 23], none⟩,
        ⟨(some 25), .un .not (.t 24), none⟩,
        ⟨(some 26), .mv (.t 25), none⟩,
        ⟨(some 27), .load 4 true (.t 5), (some (26, false))⟩,
        ⟨(some 28), .call 10 [.t 27], (some (26, false))⟩,
        ⟨(some 29), .load 4 true (.t 5), (some (26, false))⟩,
        ⟨(some 30), .call 13 [.t 28, .t 29], (some (26, false))⟩,
        ⟨(some 31), .un .not (.t 30), (some (26, false))⟩,
        ⟨(some 32), .pick (.t 26) (.k (.d (.lit (.bool true)))) (.t 31), none⟩] [1, 2, 5, 32]) (
      .cond (.t 32) (
       .seq (
        .ops [
          ⟨(some 4), .mv (.k (.d (.lit (.bool false)))), none⟩] [4]) (
        .ret)) (
       .skip))) (
     .seq (
      .ops [
        ⟨(some 34), .load 4 true (.t 2), none⟩,
        ⟨(some 35), .mv (.t 1), none⟩,
        ⟨(some 36), .call 8 [.t 34, .t 35], none⟩,
        ⟨(some 33), .mv (.t 36), none⟩,
        ⟨(some 37), .ext (.t 33) 0, none⟩,
        ⟨(some 38), .ext (.t 33) 1, none⟩,
        ⟨(some 6), .mv (.t 37), none⟩,
        ⟨(some 7), .mv (.t 38), none⟩] [1, 5, 6, 7]) (
      .seq (
       .ops [
         ⟨(some 40), .load 4 true (.t 5), none⟩,
         ⟨(some 41), .mv (.t 1), none⟩,
         ⟨(some 42), .call 8 [.t 40, .t 41], none⟩,
         ⟨(some 39), .mv (.t 42), none⟩,
         ⟨(some 43), .ext (.t 39) 0, none⟩,
         ⟨(some 44), .ext (.t 39) 1, none⟩,
         ⟨(some 8), .mv (.t 43), none⟩,
         ⟨(some 9), .mv (.t 44), none⟩] [6, 7, 8, 9]) (
       .seq (
        .ops [
          ⟨(some 45), .mv (.t 6), none⟩,
          ⟨(some 46), .mv (.t 8), none⟩,
          ⟨(some 47), .bin .eql (.t 45) (.t 46), none⟩,
          ⟨(some 48), .mv (.t 47), none⟩,
          ⟨(some 49), .mv (.t 7), (some (48, true))⟩,
          ⟨(some 50), .mv (.t 9), (some (48, true))⟩,
          ⟨(some 51), .bin .eql (.t 49) (.t 50), (some (48, true))⟩,
          ⟨(some 52), .pick (.t 48) (.t 51) (.k (.d (.lit (.bool false)))), none⟩,
          ⟨(some 53), .mv (.t 52), none⟩,
          ⟨(some 54), .call 7 [], (some (53, true))⟩,
          ⟨(some 55), .pick (.t 53) (.t 54) (.k (.d (.lit (.bool false)))), none⟩,
          ⟨(some 4), .mv (.t 55), none⟩] [4]) (
        .ret)))))))
def rs4 : List RV := [.t 4 false]
theorem k4 : okFn G.tab Tryz.f4 2 c4 rs4 = true := by kernel_rfl

/-- testbench/testbenchlaw08.Brief -/
def c6 : Cd :=
 .seq (
  .ops [
    ⟨(some 2), .mv (.k (.d (.lit (.bool false)))), none⟩] [0]) (
  .seq (
   .seq (
    .ops [
      ⟨(some 3), .mv (.k (.d (.lit (.int .i64 0)))), none⟩] [0, 3]) (
    .block 0 (
     .loop (
      .seq (
       .seq (
        .ops [
          ⟨(some 4), .mv (.t 3), none⟩,
          ⟨(some 5), .mv (.t 0), none⟩,
          ⟨(some 6), .len false (.t 5), none⟩,
          ⟨(some 7), .bin .lss (.t 4) (.t 6), none⟩,
          ⟨(some 8), .mv (.t 7), none⟩,
          ⟨(some 9), .mv (.t 3), (some (8, true))⟩,
          ⟨(some 10), .bin .lss (.t 9) (.k (.d (.lit (.int .i64 41)))), (some (8, true))⟩,
          ⟨(some 11), .pick (.t 8) (.t 10) (.k (.d (.lit (.bool false)))), none⟩] [0, 3, 11]) (
        .cond (.t 11) (
         .skip) (
         .exit 0))) (
       .seq (
        .block 1 (
         .seq (
          .ops [
            ⟨(some 14), .mv (.t 0), none⟩,
            ⟨(some 15), .mv (.t 3), none⟩,
            ⟨(some 16), .ia 2 (.t 14) (.t 15), none⟩,
            ⟨(some 17), .fa 0 (.t 16), none⟩,
            ⟨(some 18), .load 1 false (.t 17), none⟩,
            ⟨(some 19), .len true (.t 18), none⟩,
            ⟨(some 20), .bin .gtr (.t 19) (.k (.d (.lit (.int .i64 40)))), none⟩] [0, 3, 20]) (
          .cond (.t 20) (
           .seq (
            .ops [
              ⟨(some 2), .mv (.k (.d (.lit (.bool false)))), none⟩] [2]) (
            .ret)) (
           .skip)))) (
        .ops [
          ⟨(some 12), .mv (.t 3), none⟩,
          ⟨(some 13), .bin .add (.t 12) (.k (.d (.lit (.int .i64 1)))), none⟩,
          ⟨(some 3), .mv (.t 13), none⟩] [0, 3])))))) (
   .seq (
    .ops [
      ⟨(some 21), .mv (.t 0), none⟩,
      ⟨(some 22), .len false (.t 21), none⟩,
      ⟨(some 23), .bin .leq (.t 22) (.k (.d (.lit (.int .i64 40)))), none⟩,
      ⟨(some 2), .mv (.t 23), none⟩] [2]) (
    .ret)))
def rs6 : List RV := [.t 2 false]
theorem k6 : okFn G.tab Tryz.f6 1 c6 rs6 = true := by kernel_rfl

/-- testbench/testbenchref08.Eval -/
def c9 : Cd :=
 .seq (
  .ops [
    ⟨(some 2), .box 24 (.t 0), none⟩,
    ⟨(some 4), .mv (.k (.d (.lit (.int .i64 0)))), none⟩,
    ⟨(some 5), .mv (.k (.d (.lit (.int .i64 0)))), none⟩] [1, 2]) (
  .seq (
   .seq (
    .ops [
      ⟨(some 6), .load 4 true (.t 2), none⟩,
      ⟨(some 7), .call 23 [.t 6], none⟩,
      ⟨(some 8), .bin .neq (.t 7) (.k (.d (.lit (.int .i64 0)))), none⟩] [1, 2, 8]) (
    .cond (.t 8) (
     .seq (
      .ops [
        ⟨(some 4), .mv (.k (.d (.lit (.int .i64 0)))), none⟩,
        ⟨(some 5), .mv (.k (.d (.lit (.int .i64 1)))), none⟩] [4, 5]) (
      .ret)) (
     .skip))) (
   .seq (
    .ops [
      ⟨(some 9), .load 4 true (.t 2), none⟩,
      ⟨(some 10), .mv (.t 1), none⟩,
      ⟨(some 11), .call 24 [.t 9, .t 10], none⟩,
      ⟨(some 12), .ext (.t 11) 0, none⟩,
      ⟨(some 13), .ext (.t 11) 1, none⟩,
      ⟨(some 4), .mv (.t 12), none⟩,
      ⟨(some 5), .mv (.t 13), none⟩] [4, 5]) (
    .ret)))
def rs9 : List RV := [.t 4 false, .t 5 false]
theorem k9 : okFn G.tab Tryz.f9 2 c9 rs9 = true := by kernel_rfl

/-- testbench/testbenchref08.value -/
def c24 : Cd :=
 .seq (
  .ops [
    ⟨(some 2), .box 24 (.t 0), none⟩,
    ⟨(some 4), .mv (.k (.d (.lit (.int .i64 0)))), none⟩,
    ⟨(some 5), .mv (.k (.d (.lit (.int .i64 0)))), none⟩] [1, 2]) (
  .seq (
   .ops [
     ⟨(some 6), .nilo 3 1, none⟩] [1, 2, 6]) (
   .seq (
    .seq (
     .ops [
       ⟨(some 7), .mv (.k (.d (.lit (.int .i64 0)))), none⟩] [1, 2, 6, 7]) (
     .block 0 (
      .loop (
       .seq (
        .seq (
         .ops [
           ⟨(some 10), .mv (.t 7), none⟩,
           ⟨(some 11), .fa 3 (.t 2), none⟩,
           ⟨(some 12), .load 1 false (.t 11), none⟩,
           ⟨(some 13), .len false (.t 12), none⟩,
           ⟨(some 14), .bin .lss (.t 10) (.t 13), none⟩] [1, 2, 6, 7, 14]) (
         .cond (.t 14) (
          .skip) (
          .exit 0))) (
        .seq (
         .block 1 (
          .seq (
           .ops [
             ⟨(some 18), .fa 3 (.t 2), none⟩,
             ⟨(some 19), .load 1 false (.t 18), none⟩,
             ⟨(some 20), .mv (.t 7), none⟩,
             ⟨(some 21), .ia 4 (.t 19) (.t 20), none⟩,
             ⟨(some 22), .load 4 true (.t 21), none⟩,
             ⟨(some 23), .mv (.t 1), none⟩,
             ⟨(some 24), .call 24 [.t 22, .t 23], none⟩,
             ⟨(some 17), .mv (.t 24), none⟩,
             ⟨(some 25), .ext (.t 17) 0, none⟩,
             ⟨(some 26), .ext (.t 17) 1, none⟩,
             ⟨(some 8), .mv (.t 25), none⟩,
             ⟨(some 9), .mv (.t 26), none⟩] [1, 2, 6, 7, 8, 9]) (
           .seq (
            .seq (
             .ops [
               ⟨(some 27), .mv (.t 9), none⟩,
               ⟨(some 28), .bin .neq (.t 27) (.k (.d (.lit (.int .i64 0)))), none⟩] [1, 2, 6, 7, 8, 9, 28]) (
             .cond (.t 28) (
              .seq (
               .ops [
                 ⟨(some 29), .mv (.t 9), none⟩,
                 ⟨(some 4), .mv (.k (.d (.lit (.int .i64 0)))), none⟩,
                 ⟨(some 5), .mv (.t 29), none⟩] [4, 5]) (
               .ret)) (
              .skip))) (
            .ops [
              ⟨(some 30), .mvo 6, none⟩,
              ⟨(some 31), .mv (.t 8), none⟩,
              ⟨(some 32), .mks 3 1 [.t 31], none⟩,
              ⟨(some 33), .app 3 1 8 30 (.t 32), none⟩,
              ⟨(some 6), .mvo 33, none⟩] [1, 2, 6, 7])))) (
         .ops [
           ⟨(some 15), .mv (.t 7), none⟩,
           ⟨(some 16), .bin .add (.t 15) (.k (.d (.lit (.int .i64 1)))), none⟩,
           ⟨(some 7), .mv (.t 16), none⟩] [1, 2, 6, 7])))))) (
    .seq (
     .seq (
      .ops [
        ⟨(some 34), .fa 0 (.t 2), none⟩,
        ⟨(some 35), .load 1 false (.t 34), none⟩,
        ⟨(some 36), .call 40 [.t 35], none⟩] [1, 2, 6, 36]) (
      .cond (.t 36) (
       .seq (
        .ops [
          ⟨(some 37), .load 4 true (.t 2), none⟩,
          ⟨(some 38), .mv (.t 1), none⟩,
          ⟨(some 39), .mv (.t 6), none⟩,
          ⟨(some 40), .call 41 [.t 37, .t 38, .t 39], none⟩,
          ⟨(some 41), .ext (.t 40) 0, none⟩,
          ⟨(some 42), .ext (.t 40) 1, none⟩,
          ⟨(some 4), .mv (.t 41), none⟩,
          ⟨(some 5), .mv (.t 42), none⟩] [4, 5]) (
        .ret)) (
       .skip))) (
     .seq (
      .ops [
        ⟨(some 43), .fa 0 (.t 2), none⟩,
        ⟨(some 44), .load 1 false (.t 43), none⟩,
        ⟨(some 45), .mv (.t 6), none⟩,
        ⟨(some 46), .call 42 [.t 44, .t 45], none⟩,
        ⟨(some 4), .mv (.t 46), none⟩,
        ⟨(some 5), .mv (.k (.d (.lit (.int .i64 0)))), none⟩] [4, 5]) (
      .ret)))))
def rs24 : List RV := [.t 4 false, .t 5 false]
theorem k24 : okFn G.tab Tryz.f24 2 c24 rs24 = true := by kernel_rfl

/-- testbench/testbenchref08.leaf -/
def c41 : Cd :=
 .seq (
  .ops [
    ⟨(some 3), .box 24 (.t 0), none⟩,
    ⟨(some 6), .mv (.k (.d (.lit (.int .i64 0)))), none⟩,
    ⟨(some 7), .mv (.k (.d (.lit (.int .i64 0)))), none⟩] [1, 2, 3]) (
  .seq (
   .seq (
    .ops [
      ⟨(some 14), .fa 0 (.t 3), none⟩,
      ⟨(some 15), .load 1 false (.t 14), none⟩,
      ⟨(some 16), .bin .eql (.t 15) (.k (.d (.lit (.int .i64 1)))), none⟩] [1, 2, 3, 16]) (
    .cond (.t 16) (
     .seq (
      .ops [
        ⟨(some 17), .fa 1 (.t 3), none⟩,
        ⟨(some 18), .load 1 false (.t 17), none⟩,
        ⟨(some 6), .mv (.t 18), none⟩,
        ⟨(some 7), .mv (.k (.d (.lit (.int .i64 0)))), none⟩] [6, 7]) (
      .ret)) (
     .skip))) (
   .seq (
    .seq (
     .ops [
       ⟨(some 19), .fa 0 (.t 3), none⟩,
       ⟨(some 20), .load 1 false (.t 19), none⟩,
       ⟨(some 21), .bin .eql (.t 20) (.k (.d (.lit (.int .i64 2)))), none⟩] [1, 2, 3, 21]) (
     .cond (.t 21) (
      .seq (
       .ops [
         ⟨(some 23), .mv (.t 1), none⟩,
         ⟨(some 24), .fa 2 (.t 3), none⟩,
         ⟨(some 25), .load 1 false (.t 24), none⟩,
         ⟨(some 26), .call 57 [.t 23, .t 25], none⟩,
         ⟨(some 22), .mv (.t 26), none⟩,
         ⟨(some 27), .ext (.t 22) 0, none⟩,
         ⟨(some 28), .ext (.t 22) 1, none⟩,
         ⟨(some 8), .mv (.t 27), none⟩,
         ⟨(some 9), .mv (.t 28), none⟩] [8, 9]) (
       .seq (
        .seq (
         .ops [
           ⟨(some 29), .mv (.t 9), none⟩,
           ⟨(some 30), .un .not (.t 29), none⟩] [8, 30]) (
         .cond (.t 30) (
          .seq (
           .ops [
             ⟨(some 6), .mv (.k (.d (.lit (.int .i64 0)))), none⟩,
             ⟨(some 7), .mv (.k (.d (.lit (.int .i64 7)))), none⟩] [6, 7]) (
           .ret)) (
          .skip))) (
        .seq (
         .ops [
           ⟨(some 31), .mv (.t 8), none⟩,
           ⟨(some 6), .mv (.t 31), none⟩,
           ⟨(some 7), .mv (.k (.d (.lit (.int .i64 0)))), none⟩] [6, 7]) (
         .ret)))) (
      .skip))) (
    .seq (
     .seq (
      .ops [
        ⟨(some 33), .mv (.t 1), none⟩,
        ⟨(some 34), .fa 2 (.t 3), none⟩,
        ⟨(some 35), .load 1 false (.t 34), none⟩,
        ⟨(some 36), .call 58 [.t 35, .k (.d (.lit (.int .i64 0)))], none⟩,
        ⟨(some 37), .call 57 [.t 33, .t 36], none⟩,
        ⟨(some 32), .mv (.t 37), none⟩,
        ⟨(some 38), .ext (.t 32) 0, none⟩,
        ⟨(some 39), .ext (.t 32) 1, none⟩,
        ⟨(some 10), .mv (.t 38), none⟩,
        ⟨(some 11), .mv (.t 39), none⟩] [1, 2, 3, 11]) (
      .seq (
       .ops [
         ⟨(some 40), .mv (.t 11), none⟩,
         ⟨(some 41), .un .not (.t 40), none⟩] [1, 2, 3, 41]) (
       .cond (.t 41) (
        .seq (
         .ops [
           ⟨(some 6), .mv (.k (.d (.lit (.int .i64 0)))), none⟩,
           ⟨(some 7), .mv (.k (.d (.lit (.int .i64 7)))), none⟩] [6, 7]) (
         .ret)) (
        .skip)))) (
     .seq (
      .seq (
       .ops [
         ⟨(some 42), .fa 0 (.t 3), none⟩,
         ⟨(some 43), .load 1 false (.t 42), none⟩,
         ⟨(some 44), .bin .eql (.t 43) (.k (.d (.lit (.int .i64 3)))), none⟩] [1, 2, 3, 44]) (
       .cond (.t 44) (
        .seq (
         .draw [
           ⟨(some 45), .mv (.t 1), none⟩,
           ⟨(some 46), .fa 2 (.t 3), none⟩,
           ⟨(some 47), .load 1 false (.t 46), none⟩,
           ⟨(some 48), .mv (.t 2), none⟩,
           ⟨(some 49), .ia 1 (.t 48) (.k (.d (.lit (.int .i64 0)))), none⟩,
           ⟨(some 50), .load 1 false (.t 49), none⟩,
           ⟨(some 51), .call 59 [.t 45, .t 47, .t 50], none⟩,
           ⟨(some 6), .mv (.t 51), none⟩,
           ⟨(some 7), .mv (.k (.d (.lit (.int .i64 0)))), none⟩] [6, 7]) (
         .ret)) (
        .skip))) (
      .seq (
       .ops [
         ⟨(some 12), .mv (.k (.d (.lit (.int .i64 0)))), none⟩] [1, 3, 12]) (
       .seq (
        .seq (
         .ops [
           ⟨(some 13), .mv (.k (.d (.lit (.int .i64 0)))), none⟩] [1, 3, 12, 13]) (
         .block 0 (
          .loop (
           .seq (
            .seq (
             .ops [
               ⟨(some 52), .mv (.t 13), none⟩,
               ⟨(some 53), .bin .lss (.t 52) (.k (.d (.lit (.int .i64 8)))), none⟩] [1, 3, 12, 13, 53]) (
             .cond (.t 53) (
              .skip) (
              .exit 0))) (
            .seq (
             .block 1 (
              .ops [
                ⟨(some 56), .mv (.t 12), none⟩,
                ⟨(some 57), .mv (.t 1), none⟩,
                ⟨(some 58), .fa 2 (.t 3), none⟩,
                ⟨(some 59), .load 1 false (.t 58), none⟩,
                ⟨(some 60), .mv (.t 13), none⟩,
                ⟨(some 61), .call 59 [.t 57, .t 59, .t 60], none⟩,
                ⟨(some 62), .call 60 [.t 56, .t 61], none⟩,
                ⟨(some 12), .mv (.t 62), none⟩] [1, 3, 12, 13])) (
             .ops [
               ⟨(some 54), .mv (.t 13), none⟩,
               ⟨(some 55), .bin .add (.t 54) (.k (.d (.lit (.int .i64 1)))), none⟩,
               ⟨(some 13), .mv (.t 55), none⟩] [1, 3, 12, 13])))))) (
        .seq (
         .ops [
           ⟨(some 63), .mv (.t 12), none⟩,
           ⟨(some 6), .mv (.t 63), none⟩,
           ⟨(some 7), .mv (.k (.d (.lit (.int .i64 0)))), none⟩] [6, 7]) (
         .ret))))))))
def rs41 : List RV := [.t 6 false, .t 7 false]
theorem k41 : okFn G.tab Tryz.f41 3 c41 rs41 = true := by kernel_rfl

/-- testbench/testbenchref08.asks -/
def c40 : Cd :=
 .seq (
  .ops [
    ⟨(some 2), .mv (.k (.d (.lit (.bool false)))), none⟩] [0]) (
  .seq (
   .ops [
     ⟨(some 3), .mv (.t 0), none⟩,
     ⟨(some 4), .bin .eql (.t 3) (.k (.d (.lit (.int .i64 1)))), none⟩,
     ⟨(some 5), .mv (.t 4), none⟩,
     ⟨(some 6), .mv (.t 0), (some (5, false))⟩,
     ⟨(some 7), .call 56 [.t 6], (some (5, false))⟩,
     ⟨(some 8), .pick (.t 5) (.k (.d (.lit (.bool true)))) (.t 7), none⟩,
     ⟨(some 2), .mv (.t 8), none⟩] [2]) (
   .ret))
def rs40 : List RV := [.t 2 false]
theorem k40 : okFn G.tab Tryz.f40 1 c40 rs40 = true := by kernel_rfl

/-- testbench/testbenchref08.named -/
def c56 : Cd :=
 .seq (
  .ops [
    ⟨(some 2), .mv (.k (.d (.lit (.bool false)))), none⟩] [0]) (
  .seq (
   .ops [
     ⟨(some 3), .mv (.t 0), none⟩,
     ⟨(some 4), .bin .eql (.t 3) (.k (.d (.lit (.int .i64 2)))), none⟩,
     ⟨(some 5), .mv (.t 4), none⟩,
     ⟨(some 6), .mv (.t 0), (some (5, false))⟩,
     ⟨(some 7), .bin .eql (.t 6) (.k (.d (.lit (.int .i64 3)))), (some (5, false))⟩,
     ⟨(some 8), .pick (.t 5) (.k (.d (.lit (.bool true)))) (.t 7), none⟩,
     ⟨(some 9), .mv (.t 8), none⟩,
     ⟨(some 10), .mv (.t 0), (some (9, false))⟩,
     ⟨(some 11), .bin .eql (.t 10) (.k (.d (.lit (.int .i64 24)))), (some (9, false))⟩,
     ⟨(some 12), .pick (.t 9) (.k (.d (.lit (.bool true)))) (.t 11), none⟩,
     ⟨(some 2), .mv (.t 12), none⟩] [2]) (
   .ret))
def rs56 : List RV := [.t 2 false]
theorem k56 : okFn G.tab Tryz.f56 1 c56 rs56 = true := by kernel_rfl

/-- testbench/testbenchref08.find -/
def c57 : Cd :=
 .seq (
  .ops [
    ⟨(some 4), .mv (.k (.d (.lit (.int .i64 0)))), none⟩,
    ⟨(some 5), .mv (.k (.d (.lit (.bool false)))), none⟩] [0, 1]) (
  .seq (
   .seq (
    .ops [
      ⟨(some 6), .mv (.k (.d (.lit (.int .i64 0)))), none⟩] [0, 1, 6]) (
    .block 0 (
     .loop (
      .seq (
       .seq (
        .ops [
          ⟨(some 7), .mv (.t 6), none⟩,
          ⟨(some 8), .mv (.t 0), none⟩,
          ⟨(some 9), .len false (.t 8), none⟩,
          ⟨(some 10), .bin .lss (.t 7) (.t 9), none⟩] [0, 1, 6, 10]) (
        .cond (.t 10) (
         .skip) (
         .exit 0))) (
       .seq (
        .block 1 (
         .seq (
          .ops [
            ⟨(some 13), .mv (.t 0), none⟩,
            ⟨(some 14), .mv (.t 6), none⟩,
            ⟨(some 15), .ia 2 (.t 13) (.t 14), none⟩,
            ⟨(some 16), .fa 0 (.t 15), none⟩,
            ⟨(some 17), .load 1 false (.t 16), none⟩,
            ⟨(some 18), .mv (.t 1), none⟩,
            ⟨(some 19), .bin .eql (.t 17) (.t 18), none⟩] [0, 1, 6, 19]) (
          .cond (.t 19) (
           .seq (
            .ops [
              ⟨(some 20), .mv (.t 0), none⟩,
              ⟨(some 21), .mv (.t 6), none⟩,
              ⟨(some 22), .ia 2 (.t 20) (.t 21), none⟩,
              ⟨(some 23), .fa 1 (.t 22), none⟩,
              ⟨(some 24), .load 1 false (.t 23), none⟩,
              ⟨(some 25), .call 83 [.t 24], none⟩,
              ⟨(some 4), .mv (.t 25), none⟩,
              ⟨(some 5), .mv (.k (.d (.lit (.bool true)))), none⟩] [4, 5]) (
            .ret)) (
           .skip)))) (
        .ops [
          ⟨(some 11), .mv (.t 6), none⟩,
          ⟨(some 12), .bin .add (.t 11) (.k (.d (.lit (.int .i64 1)))), none⟩,
          ⟨(some 6), .mv (.t 12), none⟩] [0, 1, 6])))))) (
   .seq (
    .ops [
      ⟨(some 4), .mv (.k (.d (.lit (.int .i64 0)))), none⟩,
      ⟨(some 5), .mv (.k (.d (.lit (.bool false)))), none⟩] [4, 5]) (
    .ret)))
def rs57 : List RV := [.t 4 false, .t 5 false]
theorem k57 : okFn G.tab Tryz.f57 2 c57 rs57 = true := by kernel_rfl

/-- testbench/testbenchref08.truth -/
def c85 : Cd :=
 .seq (
  .ops [
    ⟨(some 2), .mv (.k (.d (.lit (.int .i64 0)))), none⟩] [0]) (
  .seq (
   .seq (
    .ops [
      ⟨(some 3), .mv (.t 0), none⟩] [3]) (
    .cond (.t 3) (
     .seq (
      .ops [
        ⟨(some 2), .mv (.k (.d (.lit (.int .i64 1)))), none⟩] [2]) (
      .ret)) (
     .skip))) (
   .seq (
    .ops [
      ⟨(some 2), .mv (.k (.d (.lit (.int .i64 0)))), none⟩] [2]) (
    .ret)))
def rs85 : List RV := [.t 2 false]
theorem k85 : okFn G.tab Tryz.f85 1 c85 rs85 = true := by kernel_rfl

/-- testbench/testbenchref08.unary -/
def c61 : Cd :=
 .seq (
  .ops [
    ⟨(some 4), .mv (.k (.d (.lit (.int .i64 0)))), none⟩] [0, 1]) (
  .seq (
   .seq (
    .ops [
      ⟨(some 5), .mv (.t 0), none⟩] [1, 5]) (
    .block 0 (
     .seq (
      .ops [
        ⟨(some 7), .bin .eql (.t 5) (.k (.d (.lit (.int .i64 4)))), none⟩,
        ⟨(some 6), .mv (.t 7), none⟩] [1, 5, 6]) (
      .cond (.t 6) (
       .seq (
        .ops [
          ⟨(some 8), .mv (.t 1), none⟩,
          ⟨(some 9), .bin .eql (.t 8) (.k (.d (.lit (.int .i64 0)))), none⟩,
          ⟨(some 10), .call 85 [.t 9], none⟩,
          ⟨(some 4), .mv (.t 10), none⟩] [4]) (
        .ret)) (
       .seq (
        .ops [
          ⟨(some 12), .bin .eql (.t 5) (.k (.d (.lit (.int .i64 5)))), none⟩,
          ⟨(some 11), .mv (.t 12), none⟩] [1, 5, 11]) (
        .cond (.t 11) (
         .seq (
          .ops [
            ⟨(some 13), .mv (.t 1), none⟩,
            ⟨(some 14), .call 86 [.t 13], none⟩,
            ⟨(some 4), .mv (.t 14), none⟩] [4]) (
          .ret)) (
         .seq (
          .ops [
            ⟨(some 16), .bin .eql (.t 5) (.k (.d (.lit (.int .i64 6)))), none⟩,
            ⟨(some 15), .mv (.t 16), none⟩] [1, 15]) (
          .cond (.t 15) (
           .seq (
            .ops [
              ⟨(some 17), .mv (.t 1), none⟩,
              ⟨(some 18), .call 87 [.t 17], none⟩,
              ⟨(some 4), .mv (.t 18), none⟩] [4]) (
            .ret)) (
           .skip))))))))) (
   .seq (
    .ops [
      ⟨(some 19), .mv (.t 1), none⟩,
      ⟨(some 20), .call 88 [.t 19], none⟩,
      ⟨(some 4), .mv (.t 20), none⟩] [4]) (
    .ret)))
def rs61 : List RV := [.t 4 false]
theorem k61 : okFn G.tab Tryz.f61 2 c61 rs61 = true := by kernel_rfl

/-- testbench/testbenchref08.binary -/
def c62 : Cd :=
 .seq (
  .ops [
    ⟨(some 6), .mv (.k (.d (.lit (.int .i64 0)))), none⟩] [0, 1, 2]) (
  .seq (
   .seq (
    .ops [
      ⟨(some 7), .mv (.t 0), none⟩] [1, 2, 7]) (
    .block 0 (
     .seq (
      .ops [
        ⟨(some 9), .bin .eql (.t 7) (.k (.d (.lit (.int .i64 7)))), none⟩,
        ⟨(some 8), .mv (.t 9), none⟩] [1, 2, 7, 8]) (
      .cond (.t 8) (
       .seq (
        .ops [
          ⟨(some 10), .mv (.t 1), none⟩,
          ⟨(some 11), .mv (.t 2), none⟩,
          ⟨(some 12), .call 60 [.t 10, .t 11], none⟩,
          ⟨(some 6), .mv (.t 12), none⟩] [6]) (
        .ret)) (
       .seq (
        .ops [
          ⟨(some 14), .bin .eql (.t 7) (.k (.d (.lit (.int .i64 8)))), none⟩,
          ⟨(some 13), .mv (.t 14), none⟩] [1, 2, 7, 13]) (
        .cond (.t 13) (
         .seq (
          .ops [
            ⟨(some 15), .mv (.t 1), none⟩,
            ⟨(some 16), .mv (.t 2), none⟩,
            ⟨(some 17), .call 89 [.t 15, .t 16], none⟩,
            ⟨(some 6), .mv (.t 17), none⟩] [6]) (
          .ret)) (
         .seq (
          .ops [
            ⟨(some 19), .bin .eql (.t 7) (.k (.d (.lit (.int .i64 9)))), none⟩,
            ⟨(some 18), .mv (.t 19), none⟩] [1, 2, 7, 18]) (
          .cond (.t 18) (
           .seq (
            .ops [
              ⟨(some 20), .mv (.t 1), none⟩,
              ⟨(some 21), .mv (.t 2), none⟩,
              ⟨(some 22), .call 90 [.t 20, .t 21], none⟩,
              ⟨(some 6), .mv (.t 22), none⟩] [6]) (
            .ret)) (
           .seq (
            .ops [
              ⟨(some 24), .bin .eql (.t 7) (.k (.d (.lit (.int .i64 10)))), none⟩,
              ⟨(some 23), .mv (.t 24), none⟩] [1, 2, 7, 23]) (
            .cond (.t 23) (
             .seq (
              .ops [
                ⟨(some 25), .mv (.t 1), none⟩,
                ⟨(some 26), .mv (.t 2), none⟩,
                ⟨(some 27), .call 91 [.t 25, .t 26], none⟩,
                ⟨(some 6), .mv (.t 27), none⟩] [6]) (
              .ret)) (
             .seq (
              .ops [
                ⟨(some 29), .bin .eql (.t 7) (.k (.d (.lit (.int .i64 11)))), none⟩,
                ⟨(some 28), .mv (.t 29), none⟩] [1, 2, 7, 28]) (
              .cond (.t 28) (
               .seq (
                .ops [
                  ⟨(some 30), .mv (.t 1), none⟩,
                  ⟨(some 31), .mv (.t 2), none⟩,
                  ⟨(some 32), .call 92 [.t 30, .t 31], none⟩,
                  ⟨(some 6), .mv (.t 32), none⟩] [6]) (
                .ret)) (
               .seq (
                .ops [
                  ⟨(some 34), .bin .eql (.t 7) (.k (.d (.lit (.int .i64 12)))), none⟩,
                  ⟨(some 33), .mv (.t 34), none⟩] [1, 2, 7, 33]) (
                .cond (.t 33) (
                 .seq (
                  .ops [
                    ⟨(some 35), .mv (.t 1), none⟩,
                    ⟨(some 36), .mv (.t 2), none⟩,
                    ⟨(some 37), .call 93 [.t 35, .t 36], none⟩,
                    ⟨(some 6), .mv (.t 37), none⟩] [6]) (
                  .ret)) (
                 .seq (
                  .ops [
                    ⟨(some 39), .bin .eql (.t 7) (.k (.d (.lit (.int .i64 13)))), none⟩,
                    ⟨(some 38), .mv (.t 39), none⟩] [1, 2, 7, 38]) (
                  .cond (.t 38) (
                   .seq (
                    .ops [
                      ⟨(some 40), .mv (.t 1), none⟩,
                      ⟨(some 41), .mv (.t 2), none⟩,
                      ⟨(some 42), .call 94 [.t 40, .t 41], none⟩,
                      ⟨(some 6), .mv (.t 42), none⟩] [6]) (
                    .ret)) (
                   .seq (
                    .ops [
                      ⟨(some 44), .bin .eql (.t 7) (.k (.d (.lit (.int .i64 14)))), none⟩,
                      ⟨(some 43), .mv (.t 44), none⟩] [1, 2, 7, 43]) (
                    .cond (.t 43) (
                     .seq (
                      .ops [
                        ⟨(some 45), .mv (.t 1), none⟩,
                        ⟨(some 46), .mv (.t 2), none⟩,
                        ⟨(some 47), .call 95 [.t 45, .t 46], none⟩,
                        ⟨(some 6), .mv (.t 47), none⟩] [6]) (
                      .ret)) (
                     .seq (
                      .ops [
                        ⟨(some 49), .bin .eql (.t 7) (.k (.d (.lit (.int .i64 15)))), none⟩,
                        ⟨(some 48), .mv (.t 49), none⟩] [1, 2, 7, 48]) (
                      .cond (.t 48) (
                       .seq (
                        .ops [
                          ⟨(some 50), .mv (.t 1), none⟩,
                          ⟨(some 51), .mv (.t 2), none⟩,
                          ⟨(some 52), .bin .eql (.t 50) (.t 51), none⟩,
                          ⟨(some 53), .call 85 [.t 52], none⟩,
                          ⟨(some 6), .mv (.t 53), none⟩] [6]) (
                        .ret)) (
                       .seq (
                        .ops [
                          ⟨(some 55), .bin .eql (.t 7) (.k (.d (.lit (.int .i64 16)))), none⟩,
                          ⟨(some 54), .mv (.t 55), none⟩] [1, 2, 7, 54]) (
                        .cond (.t 54) (
                         .seq (
                          .ops [
                            ⟨(some 56), .mv (.t 1), none⟩,
                            ⟨(some 57), .mv (.t 2), none⟩,
                            ⟨(some 58), .bin .neq (.t 56) (.t 57), none⟩,
                            ⟨(some 59), .call 85 [.t 58], none⟩,
                            ⟨(some 6), .mv (.t 59), none⟩] [6]) (
                          .ret)) (
                         .seq (
                          .ops [
                            ⟨(some 61), .bin .eql (.t 7) (.k (.d (.lit (.int .i64 17)))), none⟩,
                            ⟨(some 60), .mv (.t 61), none⟩] [1, 2, 7, 60]) (
                          .cond (.t 60) (
                           .seq (
                            .ops [
                              ⟨(some 62), .mv (.t 1), none⟩,
                              ⟨(some 63), .mv (.t 2), none⟩,
                              ⟨(some 64), .bin .lss (.t 62) (.t 63), none⟩,
                              ⟨(some 65), .call 85 [.t 64], none⟩,
                              ⟨(some 6), .mv (.t 65), none⟩] [6]) (
                            .ret)) (
                           .seq (
                            .ops [
                              ⟨(some 67), .bin .eql (.t 7) (.k (.d (.lit (.int .i64 18)))), none⟩,
                              ⟨(some 66), .mv (.t 67), none⟩] [1, 2, 7, 66]) (
                            .cond (.t 66) (
                             .seq (
                              .ops [
                                ⟨(some 68), .mv (.t 1), none⟩,
                                ⟨(some 69), .mv (.t 2), none⟩,
                                ⟨(some 70), .bin .leq (.t 68) (.t 69), none⟩,
                                ⟨(some 71), .call 85 [.t 70], none⟩,
                                ⟨(some 6), .mv (.t 71), none⟩] [6]) (
                              .ret)) (
                             .seq (
                              .ops [
                                ⟨(some 73), .bin .eql (.t 7) (.k (.d (.lit (.int .i64 19)))), none⟩,
                                ⟨(some 72), .mv (.t 73), none⟩] [1, 2, 7, 72]) (
                              .cond (.t 72) (
                               .seq (
                                .ops [
                                  ⟨(some 74), .mv (.t 1), none⟩,
                                  ⟨(some 75), .bin .neq (.t 74) (.k (.d (.lit (.int .i64 0)))), none⟩,
                                  ⟨(some 76), .mv (.t 75), none⟩,
                                  ⟨(some 77), .mv (.t 2), (some (76, true))⟩,
                                  ⟨(some 78), .bin .neq (.t 77) (.k (.d (.lit (.int .i64 0)))), (some (76, true))⟩,
                                  ⟨(some 79), .pick (.t 76) (.t 78) (.k (.d (.lit (.bool false)))), none⟩,
                                  ⟨(some 80), .call 85 [.t 79], none⟩,
                                  ⟨(some 6), .mv (.t 80), none⟩] [6]) (
                                .ret)) (
                               .seq (
                                .ops [
                                  ⟨(some 82), .bin .eql (.t 7) (.k (.d (.lit (.int .i64 20)))), none⟩,
                                  ⟨(some 81), .mv (.t 82), none⟩] [1, 2, 81]) (
                                .cond (.t 81) (
                                 .seq (
                                  .ops [
                                    ⟨(some 83), .mv (.t 1), none⟩,
                                    ⟨(some 84), .bin .neq (.t 83) (.k (.d (.lit (.int .i64 0)))), none⟩,
                                    ⟨(some 85), .mv (.t 84), none⟩,
                                    ⟨(some 86), .mv (.t 2), (some (85, false))⟩,
                                    ⟨(some 87), .bin .neq (.t 86) (.k (.d (.lit (.int .i64 0)))), (some (85, false))⟩,
                                    ⟨(some 88), .pick (.t 85) (.k (.d (.lit (.bool true)))) (.t 87), none⟩,
                                    ⟨(some 89), .call 85 [.t 88], none⟩,
                                    ⟨(some 6), .mv (.t 89), none⟩] [6]) (
                                  .ret)) (
                                 .skip))))))))))))))))))))))))))))))) (
   .seq (
    .ops [
      ⟨(some 90), .mv (.t 1), none⟩,
      ⟨(some 91), .bin .eql (.t 90) (.k (.d (.lit (.int .i64 0)))), none⟩,
      ⟨(some 92), .mv (.t 91), none⟩,
      ⟨(some 93), .mv (.t 2), (some (92, false))⟩,
      ⟨(some 94), .bin .neq (.t 93) (.k (.d (.lit (.int .i64 0)))), (some (92, false))⟩,
      ⟨(some 95), .pick (.t 92) (.k (.d (.lit (.bool true)))) (.t 94), none⟩,
      ⟨(some 96), .call 85 [.t 95], none⟩,
      ⟨(some 6), .mv (.t 96), none⟩] [6]) (
    .ret)))
def rs62 : List RV := [.t 6 false]
theorem k62 : okFn G.tab Tryz.f62 3 c62 rs62 = true := by kernel_rfl

/-- testbench/testbenchref08.operate -/
def c42 : Cd :=
 .seq (
  .ops [
    ⟨(some 4), .mv (.k (.d (.lit (.int .i64 0)))), none⟩] [0, 1]) (
  .seq (
   .seq (
    .ops [
      ⟨(some 6), .mv (.t 0), none⟩,
      ⟨(some 7), .bin .eql (.t 6) (.k (.d (.lit (.int .i64 22)))), none⟩] [0, 1, 7]) (
    .cond (.t 7) (
     .seq (
      .seq (
       .ops [
         ⟨(some 8), .mv (.t 1), none⟩,
         ⟨(some 9), .ia 1 (.t 8) (.k (.d (.lit (.int .i64 0)))), none⟩,
         ⟨(some 10), .load 1 false (.t 9), none⟩,
         ⟨(some 11), .bin .neq (.t 10) (.k (.d (.lit (.int .i64 0)))), none⟩] [1, 11]) (
       .cond (.t 11) (
        .seq (
         .ops [
           ⟨(some 12), .mv (.t 1), none⟩,
           ⟨(some 13), .ia 1 (.t 12) (.k (.d (.lit (.int .i64 1)))), none⟩,
           ⟨(some 14), .load 1 false (.t 13), none⟩,
           ⟨(some 4), .mv (.t 14), none⟩] [4]) (
         .ret)) (
        .skip))) (
      .seq (
       .ops [
         ⟨(some 15), .mv (.t 1), none⟩,
         ⟨(some 16), .ia 1 (.t 15) (.k (.d (.lit (.int .i64 2)))), none⟩,
         ⟨(some 17), .load 1 false (.t 16), none⟩,
         ⟨(some 4), .mv (.t 17), none⟩] [4]) (
       .ret))) (
     .skip))) (
   .seq (
    .seq (
     .ops [
       ⟨(some 18), .mv (.t 0), none⟩,
       ⟨(some 19), .bin .eql (.t 18) (.k (.d (.lit (.int .i64 23)))), none⟩] [0, 1, 19]) (
     .cond (.t 19) (
      .seq (
       .seq (
        .ops [
          ⟨(some 5), .mv (.k (.d (.lit (.int .i64 1)))), none⟩] [1, 5]) (
        .block 0 (
         .loop (
          .seq (
           .seq (
            .ops [
              ⟨(some 20), .mv (.t 5), none⟩,
              ⟨(some 21), .bin .add (.t 20) (.k (.d (.lit (.int .i64 1)))), none⟩,
              ⟨(some 22), .mv (.t 1), none⟩,
              ⟨(some 23), .len false (.t 22), none⟩,
              ⟨(some 24), .bin .lss (.t 21) (.t 23), none⟩] [1, 5, 24]) (
            .cond (.t 24) (
             .skip) (
             .exit 0))) (
           .seq (
            .block 1 (
             .seq (
              .draw [
                ⟨(some 27), .mv (.t 1), none⟩,
                ⟨(some 28), .ia 1 (.t 27) (.k (.d (.lit (.int .i64 0)))), none⟩,
                ⟨(some 29), .load 1 false (.t 28), none⟩,
                ⟨(some 30), .mv (.t 1), none⟩,
                ⟨(some 31), .mv (.t 5), none⟩,
                ⟨(some 32), .ia 1 (.t 30) (.t 31), none⟩,
                ⟨(some 33), .load 1 false (.t 32), none⟩,
                ⟨(some 34), .bin .geq (.t 29) (.t 33), none⟩,
                ⟨(some 35), .mv (.t 34), none⟩,
                ⟨(some 36), .mv (.t 1), (some (35, true))⟩,
                ⟨(some 37), .ia 1 (.t 36) (.k (.d (.lit (.int .i64 0)))), (some (35, true))⟩,
                ⟨(some 38), .load 1 false (.t 37), (some (35, true))⟩,
                ⟨(some 39), .mv (.t 1), (some (35, true))⟩,
                ⟨(some 40), .mv (.t 5), (some (35, true))⟩,
                ⟨(some 41), .bin .add (.t 40) (.k (.d (.lit (.int .i64 1)))), (some (35, true))⟩,
                ⟨(some 42), .ia 1 (.t 39) (.t 41), (some (35, true))⟩,
                ⟨(some 43), .load 1 false (.t 42), (some (35, true))⟩,
                ⟨(some 44), .bin .leq (.t 38) (.t 43), (some (35, true))⟩,
                ⟨(some 45), .pick (.t 35) (.t 44) (.k (.d (.lit (.bool false)))), none⟩] [1, 5, 45]) (
              .cond (.t 45) (
               .seq (
                .ops [
                  ⟨(some 4), .mv (.k (.d (.lit (.int .i64 1)))), none⟩] [4]) (
                .ret)) (
               .skip)))) (
            .ops [
              ⟨(some 25), .mv (.t 5), none⟩,
              ⟨(some 26), .bin .add (.t 25) (.k (.d (.lit (.int .i64 2)))), none⟩,
              ⟨(some 5), .mv (.t 26), none⟩] [1, 5])))))) (
       .seq (
        .ops [
          ⟨(some 4), .mv (.k (.d (.lit (.int .i64 0)))), none⟩] [4]) (
        .ret))) (
      .skip))) (
    .seq (
     .seq (
      .ops [
        ⟨(some 46), .mv (.t 1), none⟩,
        ⟨(some 47), .len false (.t 46), none⟩,
        ⟨(some 48), .bin .eql (.t 47) (.k (.d (.lit (.int .i64 1)))), none⟩] [0, 1, 48]) (
      .cond (.t 48) (
       .seq (
        .ops [
          ⟨(some 49), .mv (.t 0), none⟩,
          ⟨(some 50), .mv (.t 1), none⟩,
          ⟨(some 51), .ia 1 (.t 50) (.k (.d (.lit (.int .i64 0)))), none⟩,
          ⟨(some 52), .load 1 false (.t 51), none⟩,
          ⟨(some 53), .call 61 [.t 49, .t 52], none⟩,
          ⟨(some 4), .mv (.t 53), none⟩] [4]) (
        .ret)) (
       .skip))) (
     .seq (
      .draw [
        ⟨(some 54), .mv (.t 0), none⟩,
        ⟨(some 55), .mv (.t 1), none⟩,
        ⟨(some 56), .ia 1 (.t 55) (.k (.d (.lit (.int .i64 0)))), none⟩,
        ⟨(some 57), .load 1 false (.t 56), none⟩,
        ⟨(some 58), .mv (.t 1), none⟩,
        ⟨(some 59), .ia 1 (.t 58) (.k (.d (.lit (.int .i64 1)))), none⟩,
        ⟨(some 60), .load 1 false (.t 59), none⟩,
        ⟨(some 61), .call 62 [.t 54, .t 57, .t 60], none⟩,
        ⟨(some 4), .mv (.t 61), none⟩] [4]) (
      .ret)))))
def rs42 : List RV := [.t 4 false]
theorem k42 : okFn G.tab Tryz.f42 2 c42 rs42 = true := by kernel_rfl

/-- testbench/testbenchref08.element -/
def c59 : Cd :=
 .seq (
  .ops [
    ⟨(some 6), .mv (.k (.d (.lit (.int .i64 0)))), none⟩] [0, 1, 2]) (
  .seq (
   .seq (
    .ops [
      ⟨(some 9), .mv (.t 2), none⟩,
      ⟨(some 10), .bin .lss (.t 9) (.k (.d (.lit (.int .i64 0)))), none⟩,
      ⟨(some 11), .mv (.t 10), none⟩,
      ⟨(some 12), .mv (.t 2), (some (11, false))⟩,
      ⟨(some 13), .bin .geq (.t 12) (.k (.d (.lit (.int .i64 8)))), (some (11, false))⟩,
      ⟨(some 14), .pick (.t 11) (.k (.d (.lit (.bool true)))) (.t 13), none⟩] [0, 1, 2, 14]) (
    .cond (.t 14) (
     .seq (
      .ops [
        ⟨(some 6), .mv (.k (.d (.lit (.int .i64 0)))), none⟩] [6]) (
      .ret)) (
     .skip))) (
   .seq (
    .ops [
      ⟨(some 16), .mv (.t 0), none⟩,
      ⟨(some 17), .mv (.t 1), none⟩,
      ⟨(some 18), .mv (.t 2), none⟩,
      ⟨(some 19), .call 58 [.t 17, .t 18], none⟩,
      ⟨(some 20), .call 57 [.t 16, .t 19], none⟩,
      ⟨(some 15), .mv (.t 20), none⟩,
      ⟨(some 21), .ext (.t 15) 0, none⟩,
      ⟨(some 22), .ext (.t 15) 1, none⟩,
      ⟨(some 7), .mv (.t 21), none⟩,
      ⟨(some 8), .mv (.t 22), none⟩] [7]) (
    .seq (
     .ops [
       ⟨(some 23), .mv (.t 7), none⟩,
       ⟨(some 6), .mv (.t 23), none⟩] [6]) (
     .ret))))
def rs59 : List RV := [.t 6 false]
theorem k59 : okFn G.tab Tryz.f59 3 c59 rs59 = true := by kernel_rfl

/-- testbench/testbenchref08.Element -/
def c58 : Cd :=
 .seq (
  .ops [
    ⟨(some 4), .mv (.k (.d (.lit (.string ⟨#[]⟩)))), none⟩] [0, 1]) (
  .seq (
   .ops [
     ⟨(some 5), .mv (.t 0), none⟩,
     ⟨(some 6), .bin .add (.t 5) (.k (.d (.lit (.string ⟨#[91]⟩)))), none⟩,
     ⟨(some 7), .mv (.t 1), none⟩,
     ⟨(some 8), .call 84 [.t 7], none⟩,
     ⟨(some 9), .bin .add (.t 6) (.t 8), none⟩,
     ⟨(some 10), .bin .add (.t 9) (.k (.d (.lit (.string ⟨#[93]⟩)))), none⟩,
     ⟨(some 4), .mv (.t 10), none⟩] [4]) (
   .ret))
def rs58 : List RV := [.t 4 false]
theorem k58 : okFn G.tab Tryz.f58 2 c58 rs58 = true := by kernel_rfl

/-- testbench/testbenchref08.digit -/
def c84 : Cd :=
 .seq (
  .ops [
    ⟨(some 2), .mv (.k (.d (.lit (.string ⟨#[]⟩)))), none⟩] [0]) (
  .seq (
   .ops [
     ⟨(some 3), .mv (.t 0), none⟩,
     ⟨(some 4), .mv (.t 0), none⟩,
     ⟨(some 5), .bin .add (.t 4) (.k (.d (.lit (.int .i64 1)))), none⟩,
     ⟨(some 6), .sub true 0 (.k (.d (.lit (.string ⟨#[48, 49, 50, 51, 52, 53, 54, 55, 56, 57]⟩)))) (some (.t 3)) (some (.t 5)), none⟩,
     ⟨(some 2), .mv (.t 6), none⟩] [2]) (
   .ret))
def rs84 : List RV := [.t 2 false]
theorem k84 : okFn G.tab Tryz.f84 1 c84 rs84 = true := by kernel_rfl

/-- testbench/testbenchref08.fold -/
def c27 : Cd :=
 .seq (
  .ops [
    ⟨(some 1), .box 24 (.t 0), none⟩,
    ⟨(some 2), .new 24 [.d (.lit (.int .i64 0)), .d (.lit (.int .i64 0)), .d (.lit (.string ⟨#[]⟩)), .nil], none⟩] [1, 2]) (
  .seq (
   .ops [
     ⟨(some 8), .fa 0 (.t 1), none⟩,
     ⟨(some 9), .load 1 false (.t 8), none⟩,
     ⟨(some 10), .fa 1 (.t 1), none⟩,
     ⟨(some 11), .load 1 false (.t 10), none⟩,
     ⟨(some 12), .fa 2 (.t 1), none⟩,
     ⟨(some 13), .load 1 false (.t 12), none⟩,
     ⟨(some 14), .bld [.d (.lit (.int .i64 0)), .d (.lit (.int .i64 0)), .d (.lit (.string ⟨#[]⟩)), .nil] [(0, 1, .t 9), (1, 1, .t 11), (2, 1, .t 13)], none⟩,
     ⟨(some 3), .new 24 [.d (.lit (.int .i64 0)), .d (.lit (.int .i64 0)), .d (.lit (.string ⟨#[]⟩)), .nil], none⟩,
     ⟨none, .sto 4 (.t 3) (.t 14), none⟩] [1, 2, 3]) (
   .seq (
    .ops [
      ⟨(some 4), .mv (.k (.d (.lit (.bool true)))), none⟩] [1, 2, 3, 4]) (
    .seq (
     .ops [
       ⟨(some 5), .nilo 3 1, none⟩] [1, 2, 3, 4, 5]) (
     .seq (
      .seq (
       .ops [
         ⟨(some 6), .mv (.k (.d (.lit (.int .i64 0)))), none⟩] [1, 2, 3, 4, 5, 6]) (
       .block 0 (
        .loop (
         .seq (
          .seq (
           .ops [
             ⟨(some 15), .mv (.t 6), none⟩,
             ⟨(some 16), .fa 3 (.t 1), none⟩,
             ⟨(some 17), .load 1 false (.t 16), none⟩,
             ⟨(some 18), .len false (.t 17), none⟩,
             ⟨(some 19), .bin .lss (.t 15) (.t 18), none⟩] [1, 2, 3, 4, 5, 6, 19]) (
           .cond (.t 19) (
            .skip) (
            .exit 0))) (
          .seq (
           .block 1 (
            .seq (
             .ops [
               ⟨(some 22), .fa 3 (.t 1), none⟩,
               ⟨(some 23), .load 1 false (.t 22), none⟩,
               ⟨(some 24), .mv (.t 6), none⟩,
               ⟨(some 25), .ia 4 (.t 23) (.t 24), none⟩,
               ⟨(some 26), .load 4 true (.t 25), none⟩,
               ⟨(some 27), .call 27 [.t 26], none⟩,
               ⟨(some 7), .new 24 [.d (.lit (.int .i64 0)), .d (.lit (.int .i64 0)), .d (.lit (.string ⟨#[]⟩)), .nil], none⟩,
               ⟨none, .sto 4 (.t 7) (.t 27), none⟩] [1, 2, 3, 4, 5, 6, 7]) (
             .seq (
              .ops [
                ⟨(some 28), .mv (.t 4), none⟩,
                ⟨(some 29), .mv (.t 28), none⟩,
                ⟨(some 30), .fa 0 (.t 7), (some (29, true))⟩,
                ⟨(some 31), .load 1 false (.t 30), (some (29, true))⟩,
                ⟨(some 32), .bin .eql (.t 31) (.k (.d (.lit (.int .i64 1)))), (some (29, true))⟩,
                ⟨(some 33), .pick (.t 29) (.t 32) (.k (.d (.lit (.bool false)))), none⟩,
                ⟨(some 4), .mv (.t 33), none⟩] [1, 2, 3, 4, 5, 6, 7]) (
              .seq (
               .ops [
                 ⟨(some 34), .mvo 5, none⟩,
                 ⟨(some 35), .fa 1 (.t 7), none⟩,
                 ⟨(some 36), .load 1 false (.t 35), none⟩,
                 ⟨(some 37), .mks 3 1 [.t 36], none⟩,
                 ⟨(some 38), .app 3 1 8 34 (.t 37), none⟩,
                 ⟨(some 5), .mvo 38, none⟩] [1, 2, 3, 4, 5, 6, 7]) (
               .ops [
                 ⟨(some 39), .fa 3 (.t 3), none⟩,
                 ⟨(some 40), .ldo (.t 39), none⟩,
                 ⟨(some 41), .load 4 true (.t 7), none⟩,
                 ⟨(some 42), .mks 24 4 [.t 41], none⟩,
                 ⟨(some 43), .app 24 4 56 40 (.t 42), none⟩,
                 ⟨(some 44), .fa 3 (.t 3), none⟩,
                 ⟨none, .stoo (.t 44) 43, none⟩] [1, 2, 3, 4, 5, 6]))))) (
           .ops [
             ⟨(some 20), .mv (.t 6), none⟩,
             ⟨(some 21), .bin .add (.t 20) (.k (.d (.lit (.int .i64 1)))), none⟩,
             ⟨(some 6), .mv (.t 21), none⟩] [1, 2, 3, 4, 5, 6])))))) (
      .seq (
       .seq (
        .ops [
          ⟨(some 45), .mv (.t 4), none⟩,
          ⟨(some 46), .mv (.t 45), none⟩,
          ⟨(some 47), .fa 0 (.t 1), (some (46, true))⟩,
          ⟨(some 48), .load 1 false (.t 47), (some (46, true))⟩,
          ⟨(some 49), .call 40 [.t 48], (some (46, true))⟩,
          ⟨(some 50), .un .not (.t 49), (some (46, true))⟩,
          ⟨(some 51), .pick (.t 46) (.t 50) (.k (.d (.lit (.bool false)))), none⟩] [1, 2, 3, 5, 51]) (
        .cond (.t 51) (
         .seq (
          .ops [
            ⟨(some 52), .fa 0 (.t 1), none⟩,
            ⟨(some 53), .load 1 false (.t 52), none⟩,
            ⟨(some 54), .mv (.t 5), none⟩,
            ⟨(some 55), .call 42 [.t 53, .t 54], none⟩,
            ⟨(some 56), .bld [.d (.lit (.int .i64 0)), .d (.lit (.int .i64 0)), .d (.lit (.string ⟨#[]⟩)), .nil] [(0, 1, .k (.d (.lit (.int .i64 1)))), (1, 1, .t 55)], none⟩,
            ⟨none, .sto 4 (.t 2) (.t 56), none⟩] [2]) (
          .ret)) (
         .skip))) (
       .seq (
        .ops [
          ⟨(some 57), .load 4 true (.t 3), none⟩,
          ⟨none, .sto 4 (.t 2) (.t 57), none⟩] [2]) (
        .ret)))))))
def rs27 : List RV := [.c 2 4 true]
theorem k27 : okFn G.tab Tryz.f27 1 c27 rs27 = true := by kernel_rfl

/-- testbench/testbenchref08.Fold -/
def c12 : Cd :=
 .seq (
  .ops [
    ⟨(some 1), .box 24 (.t 0), none⟩,
    ⟨(some 2), .new 24 [.d (.lit (.int .i64 0)), .d (.lit (.int .i64 0)), .d (.lit (.string ⟨#[]⟩)), .nil], none⟩] [1, 2]) (
  .seq (
   .seq (
    .ops [
      ⟨(some 3), .load 4 true (.t 1), none⟩,
      ⟨(some 4), .call 23 [.t 3], none⟩,
      ⟨(some 5), .bin .neq (.t 4) (.k (.d (.lit (.int .i64 0)))), none⟩] [1, 2, 5]) (
    .cond (.t 5) (
     .seq (
      .ops [
        ⟨(some 6), .load 4 true (.t 1), none⟩,
        ⟨none, .sto 4 (.t 2) (.t 6), none⟩] [2]) (
      .ret)) (
     .skip))) (
   .seq (
    .ops [
      ⟨(some 7), .load 4 true (.t 1), none⟩,
      ⟨(some 8), .call 27 [.t 7], none⟩,
      ⟨none, .sto 4 (.t 2) (.t 8), none⟩] [2]) (
    .ret)))
def rs12 : List RV := [.c 2 4 true]
theorem k12 : okFn G.tab Tryz.f12 1 c12 rs12 = true := by kernel_rfl

/-- testbench/testbenchref02.Wrap -/
def c83 : Cd :=
 .seq (
  .ops [
    ⟨(some 2), .mv (.k (.d (.lit (.int .i64 0)))), none⟩] [0]) (
  .seq (
   .ops [
     ⟨(some 3), .mv (.t 0), none⟩,
     ⟨(some 4), .bin .rem (.t 3) (.k (.d (.lit (.int .i64 65536)))), none⟩,
     ⟨(some 0), .mv (.t 4), none⟩] [0]) (
   .seq (
    .seq (
     .ops [
       ⟨(some 5), .mv (.t 0), none⟩,
       ⟨(some 6), .bin .lss (.t 5) (.k (.d (.lit (.int .i64 0)))), none⟩] [0, 6]) (
     .cond (.t 6) (
      .ops [
        ⟨(some 7), .mv (.t 0), none⟩,
        ⟨(some 8), .bin .add (.t 7) (.k (.d (.lit (.int .i64 65535)))), none⟩,
        ⟨(some 9), .bin .add (.t 8) (.k (.d (.lit (.int .i64 1)))), none⟩,
        ⟨(some 0), .mv (.t 9), none⟩] [0]) (
      .skip))) (
    .seq (
     .ops [
       ⟨(some 10), .mv (.t 0), none⟩,
       ⟨(some 2), .mv (.t 10), none⟩] [2]) (
     .ret))))
def rs83 : List RV := [.t 2 false]
theorem k83 : okFn G.tab Tryz.f83 1 c83 rs83 = true := by kernel_rfl

/-- testbench/testbenchref02.Add -/
def c60 : Cd :=
 .seq (
  .ops [
    ⟨(some 4), .mv (.k (.d (.lit (.int .i64 0)))), none⟩] [0, 1]) (
  .seq (
   .ops [
     ⟨(some 5), .mv (.t 0), none⟩,
     ⟨(some 6), .call 83 [.t 5], none⟩,
     ⟨(some 7), .mv (.t 1), none⟩,
     ⟨(some 8), .call 83 [.t 7], none⟩,
     ⟨(some 9), .bin .add (.t 6) (.t 8), none⟩,
     ⟨(some 10), .call 83 [.t 9], none⟩,
     ⟨(some 4), .mv (.t 10), none⟩] [4]) (
   .ret))
def rs60 : List RV := [.t 4 false]
theorem k60 : okFn G.tab Tryz.f60 2 c60 rs60 = true := by kernel_rfl

/-- testbench/testbenchref02.Sub -/
def c89 : Cd :=
 .seq (
  .ops [
    ⟨(some 4), .mv (.k (.d (.lit (.int .i64 0)))), none⟩] [0, 1]) (
  .seq (
   .ops [
     ⟨(some 5), .mv (.t 0), none⟩,
     ⟨(some 6), .call 83 [.t 5], none⟩,
     ⟨(some 7), .mv (.t 1), none⟩,
     ⟨(some 8), .call 83 [.t 7], none⟩,
     ⟨(some 9), .bin .sub (.t 6) (.t 8), none⟩,
     ⟨(some 10), .call 83 [.t 9], none⟩,
     ⟨(some 4), .mv (.t 10), none⟩] [4]) (
   .ret))
def rs89 : List RV := [.t 4 false]
theorem k89 : okFn G.tab Tryz.f89 2 c89 rs89 = true := by kernel_rfl

/-- testbench/testbenchref02.Mul -/
def c90 : Cd :=
 .seq (
  .ops [
    ⟨(some 4), .mv (.k (.d (.lit (.int .i64 0)))), none⟩] [0, 1]) (
  .seq (
   .ops [
     ⟨(some 5), .mv (.t 0), none⟩,
     ⟨(some 6), .call 83 [.t 5], none⟩,
     ⟨(some 7), .mv (.t 1), none⟩,
     ⟨(some 8), .call 83 [.t 7], none⟩,
     ⟨(some 9), .bin .mul (.t 6) (.t 8), none⟩,
     ⟨(some 10), .call 83 [.t 9], none⟩,
     ⟨(some 4), .mv (.t 10), none⟩] [4]) (
   .ret))
def rs90 : List RV := [.t 4 false]
theorem k90 : okFn G.tab Tryz.f90 2 c90 rs90 = true := by kernel_rfl

/-- testbench/testbenchref02.Neg -/
def c87 : Cd :=
 .seq (
  .ops [
    ⟨(some 2), .mv (.k (.d (.lit (.int .i64 0)))), none⟩] [0]) (
  .seq (
   .ops [
     ⟨(some 3), .mv (.t 0), none⟩,
     ⟨(some 4), .call 83 [.t 3], none⟩,
     ⟨(some 5), .bin .sub (.k (.d (.lit (.int .i64 0)))) (.t 4), none⟩,
     ⟨(some 6), .call 83 [.t 5], none⟩,
     ⟨(some 2), .mv (.t 6), none⟩] [2]) (
   .ret))
def rs87 : List RV := [.t 2 false]
theorem k87 : okFn G.tab Tryz.f87 1 c87 rs87 = true := by kernel_rfl

/-- testbench/testbenchref02.Inv -/
def c86 : Cd :=
 .seq (
  .ops [
    ⟨(some 2), .mv (.k (.d (.lit (.int .i64 0)))), none⟩] [0]) (
  .seq (
   .ops [
     ⟨(some 3), .mv (.t 0), none⟩,
     ⟨(some 4), .call 83 [.t 3], none⟩,
     ⟨(some 5), .bin .sub (.k (.d (.lit (.int .i64 65535)))) (.t 4), none⟩,
     ⟨(some 2), .mv (.t 5), none⟩] [2]) (
   .ret))
def rs86 : List RV := [.t 2 false]
theorem k86 : okFn G.tab Tryz.f86 1 c86 rs86 = true := by kernel_rfl

/-- testbench/testbenchref02.power -/
def c113 : Cd :=
 .seq (
  .ops [
    ⟨(some 2), .mv (.k (.d (.lit (.int .i64 0)))), none⟩] [0]) (
  .seq (
   .ops [
     ⟨(some 3), .mv (.k (.d (.lit (.int .i64 1)))), none⟩] [0, 3]) (
   .seq (
    .seq (
     .ops [
       ⟨(some 4), .mv (.k (.d (.lit (.int .i64 0)))), none⟩] [0, 3, 4]) (
     .block 0 (
      .loop (
       .seq (
        .seq (
         .ops [
           ⟨(some 5), .mv (.t 4), none⟩,
           ⟨(some 6), .mv (.t 0), none⟩,
           ⟨(some 7), .bin .lss (.t 5) (.t 6), none⟩] [0, 3, 4, 7]) (
         .cond (.t 7) (
          .skip) (
          .exit 0))) (
        .seq (
         .block 1 (
          .ops [
            ⟨(some 10), .mv (.t 3), none⟩,
            ⟨(some 11), .bin .mul (.k (.d (.lit (.int .i64 2)))) (.t 10), none⟩,
            ⟨(some 3), .mv (.t 11), none⟩] [0, 3, 4])) (
         .ops [
           ⟨(some 8), .mv (.t 4), none⟩,
           ⟨(some 9), .bin .add (.t 8) (.k (.d (.lit (.int .i64 1)))), none⟩,
           ⟨(some 4), .mv (.t 9), none⟩] [0, 3, 4])))))) (
    .seq (
     .ops [
       ⟨(some 12), .mv (.t 3), none⟩,
       ⟨(some 2), .mv (.t 12), none⟩] [2]) (
     .ret))))
def rs113 : List RV := [.t 2 false]
theorem k113 : okFn G.tab Tryz.f113 1 c113 rs113 = true := by kernel_rfl

/-- testbench/testbenchref02.Shl -/
def c94 : Cd :=
 .seq (
  .ops [
    ⟨(some 4), .mv (.k (.d (.lit (.int .i64 0)))), none⟩] [0, 1]) (
  .seq (
   .seq (
    .ops [
      ⟨(some 5), .mv (.t 1), none⟩,
      ⟨(some 6), .bin .lss (.t 5) (.k (.d (.lit (.int .i64 0)))), none⟩,
      ⟨(some 7), .mv (.t 6), none⟩,
      ⟨(some 8), .mv (.t 1), (some (7, false))⟩,
      ⟨(some 9), .bin .gtr (.t 8) (.k (.d (.lit (.int .i64 15)))), (some (7, false))⟩,
      ⟨(some 10), .pick (.t 7) (.k (.d (.lit (.bool true)))) (.t 9), none⟩] [0, 1, 10]) (
    .cond (.t 10) (
     .seq (
      .ops [
        ⟨(some 4), .mv (.k (.d (.lit (.int .i64 0)))), none⟩] [4]) (
      .ret)) (
     .skip))) (
   .seq (
    .ops [
      ⟨(some 11), .mv (.t 0), none⟩,
      ⟨(some 12), .call 83 [.t 11], none⟩,
      ⟨(some 13), .mv (.t 1), none⟩,
      ⟨(some 14), .call 113 [.t 13], none⟩,
      ⟨(some 15), .bin .mul (.t 12) (.t 14), none⟩,
      ⟨(some 16), .call 83 [.t 15], none⟩,
      ⟨(some 4), .mv (.t 16), none⟩] [4]) (
    .ret)))
def rs94 : List RV := [.t 4 false]
theorem k94 : okFn G.tab Tryz.f94 2 c94 rs94 = true := by kernel_rfl

/-- testbench/testbenchref02.Shr -/
def c95 : Cd :=
 .seq (
  .ops [
    ⟨(some 4), .mv (.k (.d (.lit (.int .i64 0)))), none⟩] [0, 1]) (
  .seq (
   .seq (
    .ops [
      ⟨(some 5), .mv (.t 1), none⟩,
      ⟨(some 6), .bin .lss (.t 5) (.k (.d (.lit (.int .i64 0)))), none⟩,
      ⟨(some 7), .mv (.t 6), none⟩,
      ⟨(some 8), .mv (.t 1), (some (7, false))⟩,
      ⟨(some 9), .bin .gtr (.t 8) (.k (.d (.lit (.int .i64 15)))), (some (7, false))⟩,
      ⟨(some 10), .pick (.t 7) (.k (.d (.lit (.bool true)))) (.t 9), none⟩] [0, 1, 10]) (
    .cond (.t 10) (
     .seq (
      .ops [
        ⟨(some 4), .mv (.k (.d (.lit (.int .i64 0)))), none⟩] [4]) (
      .ret)) (
     .skip))) (
   .seq (
    .ops [
      ⟨(some 11), .mv (.t 0), none⟩,
      ⟨(some 12), .call 83 [.t 11], none⟩,
      ⟨(some 13), .mv (.t 1), none⟩,
      ⟨(some 14), .call 113 [.t 13], none⟩,
      ⟨(some 15), .bin .quo (.t 12) (.t 14), none⟩,
      ⟨(some 4), .mv (.t 15), none⟩] [4]) (
    .ret)))
def rs95 : List RV := [.t 4 false]
theorem k95 : okFn G.tab Tryz.f95 2 c95 rs95 = true := by kernel_rfl

/-- testbench/testbenchref02.Bit -/
def c111 : Cd :=
 .seq (
  .ops [
    ⟨(some 4), .mv (.k (.d (.lit (.int .i64 0)))), none⟩] [0, 1]) (
  .seq (
   .ops [
     ⟨(some 5), .mv (.t 0), none⟩,
     ⟨(some 6), .mv (.t 1), none⟩,
     ⟨(some 7), .call 95 [.t 5, .t 6], none⟩,
     ⟨(some 8), .bin .rem (.t 7) (.k (.d (.lit (.int .i64 2)))), none⟩,
     ⟨(some 4), .mv (.t 8), none⟩] [4]) (
   .ret))
def rs111 : List RV := [.t 4 false]
theorem k111 : okFn G.tab Tryz.f111 2 c111 rs111 = true := by kernel_rfl

/-- testbench/testbenchref02.Ones -/
def c88 : Cd :=
 .seq (
  .ops [
    ⟨(some 2), .mv (.k (.d (.lit (.int .i64 0)))), none⟩] [0]) (
  .seq (
   .ops [
     ⟨(some 3), .mv (.k (.d (.lit (.int .i64 0)))), none⟩] [0, 3]) (
   .seq (
    .seq (
     .ops [
       ⟨(some 4), .mv (.k (.d (.lit (.int .i64 0)))), none⟩] [0, 3, 4]) (
     .block 0 (
      .loop (
       .seq (
        .seq (
         .ops [
           ⟨(some 5), .mv (.t 4), none⟩,
           ⟨(some 6), .bin .lss (.t 5) (.k (.d (.lit (.int .i64 16)))), none⟩] [0, 3, 4, 6]) (
         .cond (.t 6) (
          .skip) (
          .exit 0))) (
        .seq (
         .block 1 (
          .ops [
            ⟨(some 9), .mv (.t 3), none⟩,
            ⟨(some 10), .mv (.t 0), none⟩,
            ⟨(some 11), .mv (.t 4), none⟩,
            ⟨(some 12), .call 111 [.t 10, .t 11], none⟩,
            ⟨(some 13), .bin .add (.t 9) (.t 12), none⟩,
            ⟨(some 3), .mv (.t 13), none⟩] [0, 3, 4])) (
         .ops [
           ⟨(some 7), .mv (.t 4), none⟩,
           ⟨(some 8), .bin .add (.t 7) (.k (.d (.lit (.int .i64 1)))), none⟩,
           ⟨(some 4), .mv (.t 8), none⟩] [0, 3, 4])))))) (
    .seq (
     .ops [
       ⟨(some 14), .mv (.t 3), none⟩,
       ⟨(some 2), .mv (.t 14), none⟩] [2]) (
     .ret))))
def rs88 : List RV := [.t 2 false]
theorem k88 : okFn G.tab Tryz.f88 1 c88 rs88 = true := by kernel_rfl

/-- testbench/testbenchref02.And -/
def c91 : Cd :=
 .seq (
  .ops [
    ⟨(some 4), .mv (.k (.d (.lit (.int .i64 0)))), none⟩] [0, 1]) (
  .seq (
   .ops [
     ⟨(some 5), .mv (.t 0), none⟩,
     ⟨(some 6), .mv (.t 1), none⟩,
     ⟨(some 7), .call 112 [.t 5, .t 6, .k (.d (.lit (.int .i64 2))), .k (.d (.lit (.int .i64 2)))], none⟩,
     ⟨(some 4), .mv (.t 7), none⟩] [4]) (
   .ret))
def rs91 : List RV := [.t 4 false]
theorem k91 : okFn G.tab Tryz.f91 2 c91 rs91 = true := by kernel_rfl

/-- testbench/testbenchref02.Or -/
def c92 : Cd :=
 .seq (
  .ops [
    ⟨(some 4), .mv (.k (.d (.lit (.int .i64 0)))), none⟩] [0, 1]) (
  .seq (
   .ops [
     ⟨(some 5), .mv (.t 0), none⟩,
     ⟨(some 6), .mv (.t 1), none⟩,
     ⟨(some 7), .call 112 [.t 5, .t 6, .k (.d (.lit (.int .i64 1))), .k (.d (.lit (.int .i64 2)))], none⟩,
     ⟨(some 4), .mv (.t 7), none⟩] [4]) (
   .ret))
def rs92 : List RV := [.t 4 false]
theorem k92 : okFn G.tab Tryz.f92 2 c92 rs92 = true := by kernel_rfl

/-- testbench/testbenchref02.Xor -/
def c93 : Cd :=
 .seq (
  .ops [
    ⟨(some 4), .mv (.k (.d (.lit (.int .i64 0)))), none⟩] [0, 1]) (
  .seq (
   .ops [
     ⟨(some 5), .mv (.t 0), none⟩,
     ⟨(some 6), .mv (.t 1), none⟩,
     ⟨(some 7), .call 112 [.t 5, .t 6, .k (.d (.lit (.int .i64 1))), .k (.d (.lit (.int .i64 1)))], none⟩,
     ⟨(some 4), .mv (.t 7), none⟩] [4]) (
   .ret))
def rs93 : List RV := [.t 4 false]
theorem k93 : okFn G.tab Tryz.f93 2 c93 rs93 = true := by kernel_rfl

/-- testbench/testbenchref02.bits -/
def c112 : Cd :=
 .seq (
  .ops [
    ⟨(some 8), .mv (.k (.d (.lit (.int .i64 0)))), none⟩] [0, 1, 2, 3]) (
  .seq (
   .ops [
     ⟨(some 9), .mv (.k (.d (.lit (.int .i64 0)))), none⟩] [0, 1, 2, 3, 9]) (
   .seq (
    .seq (
     .ops [
       ⟨(some 10), .mv (.k (.d (.lit (.int .i64 15)))), none⟩] [0, 1, 2, 3, 9, 10]) (
     .block 0 (
      .loop (
       .seq (
        .seq (
         .ops [
           ⟨(some 12), .mv (.t 10), none⟩,
           ⟨(some 13), .bin .geq (.t 12) (.k (.d (.lit (.int .i64 0)))), none⟩] [0, 1, 2, 3, 9, 10, 13]) (
         .cond (.t 13) (
          .skip) (
          .exit 0))) (
        .seq (
         .block 1 (
          .seq (
           .ops [
             ⟨(some 16), .mv (.t 0), none⟩,
             ⟨(some 17), .mv (.t 10), none⟩,
             ⟨(some 18), .call 111 [.t 16, .t 17], none⟩,
             ⟨(some 19), .mv (.t 1), none⟩,
             ⟨(some 20), .mv (.t 10), none⟩,
             ⟨(some 21), .call 111 [.t 19, .t 20], none⟩,
             ⟨(some 22), .bin .add (.t 18) (.t 21), none⟩,
             ⟨(some 11), .mv (.t 22), none⟩] [0, 1, 2, 3, 9, 10, 11]) (
           .seq (
            .ops [
              ⟨(some 23), .mv (.t 9), none⟩,
              ⟨(some 24), .bin .mul (.k (.d (.lit (.int .i64 2)))) (.t 23), none⟩,
              ⟨(some 9), .mv (.t 24), none⟩] [0, 1, 2, 3, 9, 10, 11]) (
            .seq (
             .ops [
               ⟨(some 25), .mv (.t 11), none⟩,
               ⟨(some 26), .mv (.t 2), none⟩,
               ⟨(some 27), .bin .geq (.t 25) (.t 26), none⟩,
               ⟨(some 28), .mv (.t 27), none⟩,
               ⟨(some 29), .mv (.t 11), (some (28, true))⟩,
               ⟨(some 30), .mv (.t 3), (some (28, true))⟩,
               ⟨(some 31), .bin .leq (.t 29) (.t 30), (some (28, true))⟩,
               ⟨(some 32), .pick (.t 28) (.t 31) (.k (.d (.lit (.bool false)))), none⟩] [0, 1, 2, 3, 9, 10, 32]) (
             .cond (.t 32) (
              .ops [
                ⟨(some 33), .mv (.t 9), none⟩,
                ⟨(some 34), .bin .add (.t 33) (.k (.d (.lit (.int .i64 1)))), none⟩,
                ⟨(some 9), .mv (.t 34), none⟩] [0, 1, 2, 3, 9, 10]) (
              .skip)))))) (
         .ops [
           ⟨(some 14), .mv (.t 10), none⟩,
           ⟨(some 15), .bin .sub (.t 14) (.k (.d (.lit (.int .i64 1)))), none⟩,
           ⟨(some 10), .mv (.t 15), none⟩] [0, 1, 2, 3, 9, 10])))))) (
    .seq (
     .ops [
       ⟨(some 35), .mv (.t 9), none⟩,
       ⟨(some 8), .mv (.t 35), none⟩] [8]) (
     .ret))))
def rs112 : List RV := [.t 8 false]
theorem k112 : okFn G.tab Tryz.f112 4 c112 rs112 = true := by kernel_rfl

end Go.Proofs.YtibfoafepjggjaaGreatDoor
