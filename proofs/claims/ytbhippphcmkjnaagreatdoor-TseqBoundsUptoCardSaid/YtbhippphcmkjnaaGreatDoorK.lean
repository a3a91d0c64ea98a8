/-
  Code of functions in the plain world.
-/
import Derived.Test.YtbhippphcmkjnaaGreatDoorProg
import Derived.Test.YtbhippphcmkjnaaGreatDoorA20
import Derived.KernelRfl
import Derived.Test.YtbhippphcmkjnaaGreatDoorNames
namespace Go.Proofs.YtbhippphcmkjnaaGreatDoor
open Go.RowKit
set_option maxRecDepth 100000
set_option linter.unusedVariables false
set_option linter.unusedSimpArgs false

noncomputable def G : Cx := cx Tryz.prog (fun g => if g = 0 then some [.sl (kwList.map fun s => [.lit (.string s)])] else none) (by kernel_rfl)
/-- testbench/expr.Same -/
def c60 : Cd :=
 .seq (
  .ops [
    ⟨(some 2), .box 24 (.t 0), none⟩,
    ⟨(some 3), .box 24 (.t 1), none⟩,
    ⟨(some 4), .mv (.k (.d (.lit (.bool false)))), none⟩] [2, 3]) (
  .seq (
   .ops [
     ⟨(some 5), .fa 0 (.t 2), none⟩,
     ⟨(some 6), .load 1 false (.t 5), none⟩,
     ⟨(some 7), .fa 0 (.t 3), none⟩,
     ⟨(some 8), .load 1 false (.t 7), none⟩,
     ⟨(some 9), .bin .eql (.t 6) (.t 8), none⟩,
     ⟨(some 10), .mv (.t 9), none⟩,
     ⟨(some 11), .fa 1 (.t 2), (some (10, true))⟩,
     ⟨(some 12), .load 1 false (.t 11), (some (10, true))⟩,
     ⟨(some 13), .fa 1 (.t 3), (some (10, true))⟩,
     ⟨(some 14), .load 1 false (.t 13), (some (10, true))⟩,
     ⟨(some 15), .bin .eql (.t 12) (.t 14), (some (10, true))⟩,
     ⟨(some 16), .pick (.t 10) (.t 15) (.k (.d (.lit (.bool false)))), none⟩,
     ⟨(some 17), .mv (.t 16), none⟩,
     ⟨(some 18), .fa 2 (.t 2), (some (17, true))⟩,
     ⟨(some 19), .load 1 false (.t 18), (some (17, true))⟩,
     ⟨(some 20), .fa 2 (.t 3), (some (17, true))⟩,
     ⟨(some 21), .load 1 false (.t 20), (some (17, true))⟩,
     ⟨(some 22), .bin .eql (.t 19) (.t 21), (some (17, true))⟩,
     ⟨(some 23), .pick (.t 17) (.t 22) (.k (.d (.lit (.bool false)))), none⟩,
     ⟨(some 24), .mv (.t 23), none⟩,
     ⟨(some 25), .fa 3 (.t 2), (some (24, true))⟩,
     ⟨(some 26), .load 1 false (.t 25), (some (24, true))⟩,
     ⟨(some 27), .fa 3 (.t 3), (some (24, true))⟩,
     ⟨(some 28), .load 1 false (.t 27), (some (24, true))⟩,
     ⟨(some 29), .call 89 [.t 26, .t 28, .k (.fn 60 [])], (some (24, true))⟩,
     ⟨(some 30), .pick (.t 24) (.t 29) (.k (.d (.lit (.bool false)))), none⟩,
     ⟨(some 4), .mv (.t 30), none⟩] [4]) (
   .ret))
def rs60 : List RV := [.t 4 false]
theorem k60 : okFn G.tab Tryz.f60 2 c60 rs60 = true := by kernel_rfl

/-- slices.EqualFunc[[]testbench/api.Expr,[]testbench/api.Expr,testbench/api.Expr,testbench/api.Expr] -/
def c89 : Cd :=
 .seq (
  .ops [
    ⟨(some 6), .mv (.k (.d (.lit (.bool false)))), none⟩] [0, 1, 2]) (
  .seq (
   .seq (
    .ops [
      ⟨(some 10), .mv (.t 0), none⟩,
      ⟨(some 11), .len false (.t 10), none⟩,
      ⟨(some 12), .mv (.t 1), none⟩,
      ⟨(some 13), .len false (.t 12), none⟩,
      ⟨(some 14), .bin .neq (.t 11) (.t 13), none⟩] [0, 1, 2, 14]) (
    .cond (.t 14) (
     .seq (
      .ops [
        ⟨(some 6), .mv (.k (.d (.lit (.bool false)))), none⟩] [6]) (
      .ret)) (
     .skip))) (
   .seq (
    .seq (
     .ops [
       ⟨(some 15), .mv (.t 0), none⟩,
       ⟨(some 16), .len false (.t 15), none⟩,
       ⟨(some 17), .mv (.k (.d (.lit (.int .i64 0)))), none⟩] [1, 2, 15, 16, 17]) (
     .block 0 (
      .loop (
       .seq (
        .ops [
          ⟨(some 18), .bin .lss (.t 17) (.t 16), none⟩] [1, 2, 15, 16, 17, 18]) (
        .seq (
         .cond (.t 18) (
          .skip) (
          .exit 0)) (
         .seq (
          .block 1 (
           .seq (
            .ops [
              ⟨(some 19), .mv (.t 17), none⟩,
              ⟨(some 20), .ia 4 (.t 15) (.t 17), none⟩,
              ⟨(some 21), .load 4 true (.t 20), none⟩,
              ⟨(some 8), .new 24 [.d (.lit (.int .i64 0)), .d (.lit (.int .i64 0)), .d (.lit (.string ⟨#[]⟩)), .nil], none⟩,
              ⟨(some 7), .mv (.t 19), none⟩,
              ⟨none, .sto 4 (.t 8) (.t 21), none⟩] [1, 2, 7, 8, 15, 16, 17]) (
            .seq (
             .ops [
               ⟨(some 22), .mv (.t 1), none⟩,
               ⟨(some 23), .mv (.t 7), none⟩,
               ⟨(some 24), .ia 4 (.t 22) (.t 23), none⟩,
               ⟨(some 25), .load 4 true (.t 24), none⟩,
               ⟨(some 9), .new 24 [.d (.lit (.int .i64 0)), .d (.lit (.int .i64 0)), .d (.lit (.string ⟨#[]⟩)), .nil], none⟩,
               ⟨none, .sto 4 (.t 9) (.t 25), none⟩] [1, 2, 8, 9, 15, 16, 17]) (
             .seq (
              .ops [
                ⟨(some 26), .mv (.t 2), none⟩,
                ⟨(some 27), .load 4 true (.t 8), none⟩,
                ⟨(some 28), .load 4 true (.t 9), none⟩,
                ⟨(some 29), .callv (.t 26) [.t 27, .t 28], none⟩,
                ⟨(some 30), .un .not (.t 29), none⟩] [1, 2, 15, 16, 17, 30]) (
              .cond (.t 30) (
               .seq (
                .ops [
                  ⟨(some 6), .mv (.k (.d (.lit (.bool false)))), none⟩] [6]) (
                .ret)) (
               .skip)))))) (
          .ops [
            ⟨(some 31), .bin .add (.t 17) (.k (.d (.lit (.int .i64 1)))), none⟩,
            ⟨(some 17), .mv (.t 31), none⟩] [1, 2, 15, 16, 17]))))))) (
    .seq (
     .ops [
       ⟨(some 6), .mv (.k (.d (.lit (.bool true)))), none⟩] [6]) (
     .ret))))
def rs89 : List RV := [.t 6 false]
theorem k89 : okFn G.tab Tryz.f89 3 c89 rs89 = true := by kernel_rfl

/-- testbench/testbenchlaw39.TseqValid -/
def c3 : Cd :=
 .seq (
  .ops [
    ⟨(some 1), .box 27 (.t 0), none⟩,
    ⟨(some 2), .mv (.k (.d (.lit (.bool false)))), none⟩] [1]) (
  .seq (
   .draw [
     ⟨(some 3), .load 9 true (.t 1), none⟩,
     ⟨(some 4), .call 8 [.t 3], none⟩,
     ⟨(some 5), .load 9 true (.t 1), none⟩,
     ⟨(some 6), .call 9 [.t 5], none⟩,
     ⟨(some 7), .bin .eql (.t 4) (.t 6), none⟩,
     ⟨(some 8), .mv (.t 7), none⟩,
     ⟨(some 9), .call 10 [], (some (8, true))⟩,
     ⟨(some 10), .pick (.t 8) (.t 9) (.k (.d (.lit (.bool false)))), none⟩,
     ⟨(some 2), .mv (.t 10), none⟩] [2]) (
   .ret))
def rs3 : List RV := [.t 2 false]
theorem k3 : okFn G.tab Tryz.f3 1 c3 rs3 = true := by kernel_rfl

/-- testbench/testbenchlaw39.TseqSizes -/
def c4 : Cd :=
 .seq (
  .ops [
    ⟨(some 1), .box 27 (.t 0), none⟩,
    ⟨(some 2), .mv (.k (.d (.lit (.bool false)))), none⟩] [1]) (
  .seq (
   .draw [
     ⟨(some 3), .load 9 true (.t 1), none⟩,
     ⟨(some 4), .call 11 [.t 3], none⟩,
     ⟨(some 5), .load 9 true (.t 1), none⟩,
     ⟨(some 6), .call 12 [.t 5], none⟩,
     ⟨(some 7), .bin .eql (.t 4) (.t 6), none⟩,
     ⟨(some 8), .mv (.t 7), none⟩,
     ⟨(some 9), .load 9 true (.t 1), (some (8, true))⟩,
     ⟨(some 10), .call 14 [.t 9], (some (8, true))⟩,
     ⟨(some 11), .load 9 true (.t 1), (some (8, true))⟩,
     ⟨(some 12), .call 15 [.t 11], (some (8, true))⟩,
     ⟨(some 13), .call 13 [.t 10, .t 12], (some (8, true))⟩,
     ⟨(some 14), .pick (.t 8) (.t 13) (.k (.d (.lit (.bool false)))), none⟩,
     ⟨(some 15), .mv (.t 14), none⟩,
     ⟨(some 16), .call 10 [], (some (15, true))⟩,
     ⟨(some 17), .pick (.t 15) (.t 16) (.k (.d (.lit (.bool false)))), none⟩,
     ⟨(some 2), .mv (.t 17), none⟩] [2]) (
   .ret))
def rs4 : List RV := [.t 2 false]
theorem k4 : okFn G.tab Tryz.f4 1 c4 rs4 = true := by kernel_rfl

/-- testbench/testbenchlaw39.TseqLengths -/
def c5 : Cd :=
 .seq (
  .ops [
    ⟨(some 1), .box 27 (.t 0), none⟩,
    ⟨(some 2), .mv (.k (.d (.lit (.bool false)))), none⟩] [1]) (
  .seq (
   .draw [
     ⟨(some 3), .load 9 true (.t 1), none⟩,
     ⟨(some 4), .call 16 [.t 3], none⟩,
     ⟨(some 5), .load 9 true (.t 1), none⟩,
     ⟨(some 6), .call 17 [.t 5], none⟩,
     ⟨(some 7), .bin .eql (.t 4) (.t 6), none⟩,
     ⟨(some 8), .mv (.t 7), none⟩,
     ⟨(some 9), .load 9 true (.t 1), (some (8, true))⟩,
     ⟨(some 10), .call 18 [.t 9], (some (8, true))⟩,
     ⟨(some 11), .load 9 true (.t 1), (some (8, true))⟩,
     ⟨(some 12), .call 19 [.t 11], (some (8, true))⟩,
     ⟨(some 13), .bin .eql (.t 10) (.t 12), (some (8, true))⟩,
     ⟨(some 14), .pick (.t 8) (.t 13) (.k (.d (.lit (.bool false)))), none⟩,
     ⟨(some 15), .mv (.t 14), none⟩,
     ⟨(some 16), .call 10 [], (some (15, true))⟩,
     ⟨(some 17), .pick (.t 15) (.t 16) (.k (.d (.lit (.bool false)))), none⟩,
     ⟨(some 2), .mv (.t 17), none⟩] [2]) (
   .ret))
def rs5 : List RV := [.t 2 false]
theorem k5 : okFn G.tab Tryz.f5 1 c5 rs5 = true := by kernel_rfl

/-- testbench/testbenchlaw39.TseqBounds -/
def c6 : Cd :=
 .seq (
  .ops [
    ⟨(some 1), .box 27 (.t 0), none⟩,
    ⟨(some 2), .mv (.k (.d (.lit (.bool false)))), none⟩] [1]) (
  .seq (
   .draw [
     ⟨(some 10), .load 9 true (.t 1), none⟩,
     ⟨(some 11), .call 16 [.t 10], none⟩,
     ⟨(some 12), .load 9 true (.t 1), none⟩,
     ⟨(some 13), .call 18 [.t 12], none⟩,
     ⟨(some 3), .mv (.t 11), none⟩,
     ⟨(some 4), .mv (.t 13), none⟩] [1, 3, 4]) (
   .seq (
    .seq (
     .ops [
       ⟨(some 14), .load 9 true (.t 1), none⟩,
       ⟨(some 15), .call 9 [.t 14], none⟩,
       ⟨(some 16), .bin .neq (.t 15) (.k (.d (.lit (.int .i64 0)))), none⟩] [1, 3, 4, 16]) (
     .cond (.t 16) (
      .seq (
       .ops [
         ⟨(some 17), .mv (.t 3), none⟩,
         ⟨(some 18), .bin .eql (.t 17) (.k (.d (.lit (.int .i64 0)))), none⟩,
         ⟨(some 19), .mv (.t 18), none⟩,
         ⟨(some 20), .mv (.t 4), (some (19, true))⟩,
         ⟨(some 21), .bin .eql (.t 20) (.k (.d (.lit (.int .i64 0)))), (some (19, true))⟩,
         ⟨(some 22), .pick (.t 19) (.t 21) (.k (.d (.lit (.bool false)))), none⟩,
         ⟨(some 23), .mv (.t 22), none⟩,
         ⟨(some 24), .call 10 [], (some (23, true))⟩,
         ⟨(some 25), .pick (.t 23) (.t 24) (.k (.d (.lit (.bool false)))), none⟩,
         ⟨(some 2), .mv (.t 25), none⟩] [2]) (
       .ret)) (
      .skip))) (
    .seq (
     .seq (
      .ops [
        ⟨(some 26), .mv (.t 3), none⟩,
        ⟨(some 27), .bin .lss (.t 26) (.k (.d (.lit (.int .i64 1)))), none⟩,
        ⟨(some 28), .mv (.t 27), none⟩,
        ⟨(some 29), .mv (.t 3), (some (28, false))⟩,
        ⟨(some 30), .mv (.t 4), (some (28, false))⟩,
        ⟨(some 31), .bin .gtr (.t 29) (.t 30), (some (28, false))⟩,
        ⟨(some 32), .pick (.t 28) (.k (.d (.lit (.bool true)))) (.t 31), none⟩,
        ⟨(some 33), .mv (.t 32), none⟩,
        ⟨(some 34), .mv (.t 4), (some (33, false))⟩,
        ⟨(some 35), .bin .gtr (.t 34) (.k (.d (.lit (.int .i64 4294967296)))), (some (33, false))⟩,
        ⟨(some 36), .pick (.t 33) (.k (.d (.lit (.bool true)))) (.t 35), none⟩] [1, 3, 4, 36]) (
      .cond (.t 36) (
       .seq (
        .ops [
          ⟨(some 2), .mv (.k (.d (.lit (.bool false)))), none⟩] [2]) (
        .ret)) (
       .skip))) (
     .seq (
      .seq (
       .ops [
         ⟨(some 37), .mv (.t 4), none⟩,
         ⟨(some 38), .bin .gtr (.t 37) (.k (.d (.lit (.int .i64 400)))), none⟩] [1, 3, 4, 38]) (
       .cond (.t 38) (
        .seq (
         .ops [
           ⟨(some 39), .call 10 [], none⟩,
           ⟨(some 2), .mv (.t 39), none⟩] [2]) (
         .ret)) (
        .skip))) (
      .seq (
       .ops [
         ⟨(some 40), .load 9 true (.t 1), none⟩,
         ⟨(some 41), .call 20 [.t 40], none⟩,
         ⟨(some 5), .mv (.t 41), none⟩] [3, 4, 5]) (
       .seq (
        .ops [
          ⟨(some 6), .mv (.k (.d (.lit (.int .i64 0)))), none⟩,
          ⟨(some 7), .mv (.k (.d (.lit (.int .i64 0)))), none⟩] [3, 4, 5, 6, 7]) (
        .seq (
         .seq (
          .ops [
            ⟨(some 42), .mv (.t 5), none⟩,
            ⟨(some 43), .len false (.t 42), none⟩,
            ⟨(some 44), .mv (.k (.d (.lit (.int .i64 0)))), none⟩] [3, 4, 6, 7, 42, 43, 44]) (
          .block 0 (
           .loop (
            .seq (
             .ops [
               ⟨(some 45), .bin .lss (.t 44) (.t 43), none⟩] [3, 4, 6, 7, 42, 43, 44, 45]) (
             .seq (
              .cond (.t 45) (
               .skip) (
               .exit 0)) (
              .seq (
               .block 1 (
                .seq (
                 .ops [
                   ⟨(some 46), .mv (.t 44), none⟩,
                   ⟨(some 47), .ia 1 (.t 42) (.t 44), none⟩,
                   ⟨(some 48), .load 1 false (.t 47), none⟩,
                   ⟨(some 8), .mv (.t 46), none⟩,
                   ⟨(some 9), .mv (.t 48), none⟩] [3, 4, 6, 7, 8, 9, 42, 43, 44]) (
                 .seq (
                  .seq (
                   .ops [
                     ⟨(some 49), .mv (.t 9), none⟩,
                     ⟨(some 50), .mv (.t 49), none⟩,
                     ⟨(some 51), .mv (.t 6), (some (50, true))⟩,
                     ⟨(some 52), .bin .eql (.t 51) (.k (.d (.lit (.int .i64 0)))), (some (50, true))⟩,
                     ⟨(some 53), .pick (.t 50) (.t 52) (.k (.d (.lit (.bool false)))), none⟩] [3, 4, 6, 7, 8, 9, 42, 43, 44, 53]) (
                   .cond (.t 53) (
                    .ops [
                      ⟨(some 54), .mv (.t 8), none⟩,
                      ⟨(some 6), .mv (.t 54), none⟩] [3, 4, 6, 7, 8, 9, 42, 43, 44]) (
                    .skip))) (
                  .seq (
                   .ops [
                     ⟨(some 55), .mv (.t 9), none⟩] [3, 4, 6, 7, 8, 42, 43, 44, 55]) (
                   .cond (.t 55) (
                    .ops [
                      ⟨(some 56), .mv (.t 8), none⟩,
                      ⟨(some 7), .mv (.t 56), none⟩] [3, 4, 6, 7, 42, 43, 44]) (
                    .skip)))))) (
               .ops [
                 ⟨(some 57), .bin .add (.t 44) (.k (.d (.lit (.int .i64 1)))), none⟩,
                 ⟨(some 44), .mv (.t 57), none⟩] [3, 4, 6, 7, 42, 43, 44]))))))) (
         .seq (
          .ops [
            ⟨(some 58), .mv (.t 3), none⟩,
            ⟨(some 59), .mv (.t 6), none⟩,
            ⟨(some 60), .bin .eql (.t 58) (.t 59), none⟩,
            ⟨(some 61), .mv (.t 60), none⟩,
            ⟨(some 62), .mv (.t 4), (some (61, true))⟩,
            ⟨(some 63), .mv (.t 7), (some (61, true))⟩,
            ⟨(some 64), .bin .eql (.t 62) (.t 63), (some (61, true))⟩,
            ⟨(some 65), .pick (.t 61) (.t 64) (.k (.d (.lit (.bool false)))), none⟩,
            ⟨(some 66), .mv (.t 65), none⟩,
            ⟨(some 67), .call 10 [], (some (66, true))⟩,
            ⟨(some 68), .pick (.t 66) (.t 67) (.k (.d (.lit (.bool false)))), none⟩,
            ⟨(some 2), .mv (.t 68), none⟩] [2]) (
          .ret)))))))))
def rs6 : List RV := [.t 2 false]
theorem k6 : okFn G.tab Tryz.f6 1 c6 rs6 = true := by kernel_rfl

/-- testbench/testbenchlaw39.TseqProps -/
def c7 : Cd :=
 .seq (
  .ops [
    ⟨(some 1), .box 39 (.t 0), none⟩,
    ⟨(some 2), .mv (.k (.d (.lit (.bool false)))), none⟩] [1]) (
  .seq (
   .draw [
     ⟨(some 3), .load 21 true (.t 1), none⟩,
     ⟨(some 4), .call 21 [.t 3], none⟩,
     ⟨(some 5), .load 21 true (.t 1), none⟩,
     ⟨(some 6), .call 22 [.t 5], none⟩,
     ⟨(some 7), .bin .eql (.t 4) (.t 6), none⟩,
     ⟨(some 8), .mv (.t 7), none⟩,
     ⟨(some 9), .call 10 [], (some (8, true))⟩,
     ⟨(some 10), .pick (.t 8) (.t 9) (.k (.d (.lit (.bool false)))), none⟩,
     ⟨(some 2), .mv (.t 10), none⟩] [2]) (
   .ret))
def rs7 : List RV := [.t 2 false]
theorem k7 : okFn G.tab Tryz.f7 1 c7 rs7 = true := by kernel_rfl

/-- testbench/testbenchlaw39.possible -/
def c20 : Cd :=
 .seq (
  .ops [
    ⟨(some 1), .box 27 (.t 0), none⟩,
    ⟨(some 2), .mv (.k (.nil)), none⟩] [1]) (
  .seq (
   .seq (
    .ops [
      ⟨(some 21), .load 9 true (.t 1), none⟩,
      ⟨(some 22), .call 9 [.t 21], none⟩,
      ⟨(some 23), .bin .neq (.t 22) (.k (.d (.lit (.int .i64 0)))), none⟩] [1, 23]) (
    .cond (.t 23) (
     .seq (
      .ops [
        ⟨(some 2), .mv (.k (.nil)), none⟩] [2]) (
      .ret)) (
     .skip))) (
   .seq (
    .ops [
      ⟨(some 24), .mkb 4 1 (.d (.lit (.bool false))) (.k (.d (.lit (.int .i64 401)))), none⟩,
      ⟨(some 3), .mv (.t 24), none⟩] [1, 3]) (
    .seq (
     .seq (
      .ops [
        ⟨(some 25), .fa 0 (.t 1), none⟩,
        ⟨(some 26), .load 1 false (.t 25), none⟩,
        ⟨(some 27), .bin .eql (.t 26) (.k (.d (.lit (.int .i64 1)))), none⟩] [1, 3, 27]) (
      .cond (.t 27) (
       .seq (
        .ops [
          ⟨(some 28), .mv (.t 3), none⟩,
          ⟨(some 29), .ia 1 (.t 28) (.k (.d (.lit (.int .i64 1)))), none⟩,
          ⟨none, .sto 1 (.t 29) (.k (.d (.lit (.bool true)))), none⟩] [3]) (
        .seq (
         .ops [
           ⟨(some 30), .mv (.t 3), none⟩,
           ⟨(some 2), .mv (.t 30), none⟩] [2]) (
         .ret))) (
       .skip))) (
     .seq (
      .ops [
        ⟨(some 31), .fa 8 (.t 1), none⟩,
        ⟨(some 32), .load 1 false (.t 31), none⟩,
        ⟨(some 33), .ia 9 (.t 32) (.k (.d (.lit (.int .i64 0)))), none⟩,
        ⟨(some 34), .load 9 true (.t 33), none⟩,
        ⟨(some 35), .call 20 [.t 34], none⟩,
        ⟨(some 4), .mv (.t 35), none⟩] [1, 3, 4]) (
      .seq (
       .seq (
        .ops [
          ⟨(some 36), .fa 0 (.t 1), none⟩,
          ⟨(some 37), .load 1 false (.t 36), none⟩] [1, 3, 4, 37]) (
        .block 0 (
         .seq (
          .ops [
            ⟨(some 39), .bin .eql (.t 37) (.k (.d (.lit (.int .i64 2)))), none⟩,
            ⟨(some 38), .mv (.t 39), none⟩] [1, 3, 4, 37, 38]) (
          .cond (.t 38) (
           .seq (
            .ops [
              ⟨(some 40), .fa 8 (.t 1), none⟩,
              ⟨(some 41), .load 1 false (.t 40), none⟩,
              ⟨(some 42), .ia 9 (.t 41) (.k (.d (.lit (.int .i64 1)))), none⟩,
              ⟨(some 43), .load 9 true (.t 42), none⟩,
              ⟨(some 44), .call 20 [.t 43], none⟩,
              ⟨(some 5), .mv (.t 44), none⟩] [1, 3, 4, 5]) (
            .seq (
             .seq (
              .ops [
                ⟨(some 45), .mv (.t 4), none⟩,
                ⟨(some 46), .len false (.t 45), none⟩,
                ⟨(some 47), .mv (.k (.d (.lit (.int .i64 0)))), none⟩] [1, 3, 4, 5, 46, 47]) (
              .block 1 (
               .loop (
                .seq (
                 .ops [
                   ⟨(some 48), .bin .lss (.t 47) (.t 46), none⟩] [1, 3, 4, 5, 46, 47, 48]) (
                 .seq (
                  .cond (.t 48) (
                   .skip) (
                   .exit 1)) (
                  .seq (
                   .block 2 (
                    .seq (
                     .ops [
                       ⟨(some 49), .mv (.t 47), none⟩,
                       ⟨(some 6), .mv (.t 49), none⟩] [1, 3, 4, 5, 6, 46, 47]) (
                     .seq (
                      .ops [
                        ⟨(some 50), .mv (.t 5), none⟩,
                        ⟨(some 51), .len false (.t 50), none⟩,
                        ⟨(some 52), .mv (.k (.d (.lit (.int .i64 0)))), none⟩] [1, 3, 4, 5, 6, 46, 47, 51, 52]) (
                      .block 3 (
                       .loop (
                        .seq (
                         .ops [
                           ⟨(some 53), .bin .lss (.t 52) (.t 51), none⟩] [1, 3, 4, 5, 6, 46, 47, 51, 52, 53]) (
                         .seq (
                          .cond (.t 53) (
                           .skip) (
                           .exit 3)) (
                          .seq (
                           .block 4 (
                            .seq (
                             .ops [
                               ⟨(some 54), .mv (.t 52), none⟩,
                               ⟨(some 7), .mv (.t 54), none⟩] [1, 3, 4, 5, 6, 7, 46, 47, 51, 52]) (
                             .seq (
                              .ops [
                                ⟨(some 55), .fa 1 (.t 1), none⟩,
                                ⟨(some 56), .load 1 false (.t 55), none⟩,
                                ⟨(some 8), .mv (.t 56), none⟩] [1, 3, 4, 5, 6, 7, 8, 46, 47, 51, 52]) (
                              .block 5 (
                               .loop (
                                .seq (
                                 .seq (
                                  .ops [
                                    ⟨(some 57), .mv (.t 4), none⟩,
                                    ⟨(some 58), .mv (.t 6), none⟩,
                                    ⟨(some 59), .ia 1 (.t 57) (.t 58), none⟩,
                                    ⟨(some 60), .load 1 false (.t 59), none⟩,
                                    ⟨(some 61), .mv (.t 60), none⟩,
                                    ⟨(some 62), .mv (.t 5), (some (61, true))⟩,
                                    ⟨(some 63), .mv (.t 7), (some (61, true))⟩,
                                    ⟨(some 64), .ia 1 (.t 62) (.t 63), (some (61, true))⟩,
                                    ⟨(some 65), .load 1 false (.t 64), (some (61, true))⟩,
                                    ⟨(some 66), .pick (.t 61) (.t 65) (.k (.d (.lit (.bool false)))), none⟩,
                                    ⟨(some 67), .mv (.t 66), none⟩,
                                    ⟨(some 68), .mv (.t 8), (some (67, true))⟩,
                                    ⟨(some 69), .fa 2 (.t 1), (some (67, true))⟩,
                                    ⟨(some 70), .load 1 false (.t 69), (some (67, true))⟩,
                                    ⟨(some 71), .bin .leq (.t 68) (.t 70), (some (67, true))⟩,
                                    ⟨(some 72), .pick (.t 67) (.t 71) (.k (.d (.lit (.bool false)))), none⟩] [1, 3, 4, 5, 6, 7, 8, 46, 47, 51, 52, 72]) (
                                  .cond (.t 72) (
                                   .skip) (
                                   .exit 5))) (
                                 .seq (
                                  .block 6 (
                                   .seq (
                                    .ops [
                                      ⟨(some 75), .mv (.t 6), none⟩,
                                      ⟨(some 76), .mv (.t 7), none⟩,
                                      ⟨(some 77), .bin .add (.t 75) (.t 76), none⟩,
                                      ⟨(some 78), .mv (.t 8), none⟩,
                                      ⟨(some 79), .bin .add (.t 77) (.t 78), none⟩,
                                      ⟨(some 80), .bin .sub (.t 79) (.k (.d (.lit (.int .i64 1)))), none⟩,
                                      ⟨(some 9), .mv (.t 80), none⟩] [1, 3, 4, 5, 6, 7, 8, 9, 46, 47, 51, 52]) (
                                    .seq (
                                     .ops [
                                       ⟨(some 81), .mv (.t 9), none⟩,
                                       ⟨(some 82), .bin .leq (.t 81) (.k (.d (.lit (.int .i64 400)))), none⟩] [1, 3, 4, 5, 6, 7, 8, 9, 46, 47, 51, 52, 82]) (
                                     .cond (.t 82) (
                                      .ops [
                                        ⟨(some 83), .mv (.t 3), none⟩,
                                        ⟨(some 84), .mv (.t 9), none⟩,
                                        ⟨(some 85), .ia 1 (.t 83) (.t 84), none⟩,
                                        ⟨none, .sto 1 (.t 85) (.k (.d (.lit (.bool true)))), none⟩] [1, 3, 4, 5, 6, 7, 8, 46, 47, 51, 52]) (
                                      .skip))))) (
                                  .ops [
                                    ⟨(some 73), .mv (.t 8), none⟩,
                                    ⟨(some 74), .bin .add (.t 73) (.k (.d (.lit (.int .i64 1)))), none⟩,
                                    ⟨(some 8), .mv (.t 74), none⟩] [1, 3, 4, 5, 6, 7, 8, 46, 47, 51, 52])))))))) (
                           .ops [
                             ⟨(some 86), .bin .add (.t 52) (.k (.d (.lit (.int .i64 1)))), none⟩,
                             ⟨(some 52), .mv (.t 86), none⟩] [1, 3, 4, 5, 6, 46, 47, 51, 52]))))))))) (
                   .ops [
                     ⟨(some 87), .bin .add (.t 47) (.k (.d (.lit (.int .i64 1)))), none⟩,
                     ⟨(some 47), .mv (.t 87), none⟩] [1, 3, 4, 5, 46, 47]))))))) (
             .seq (
              .ops [
                ⟨(some 88), .mv (.t 3), none⟩,
                ⟨(some 2), .mv (.t 88), none⟩] [2]) (
              .ret)))) (
           .seq (
            .ops [
              ⟨(some 90), .bin .eql (.t 37) (.k (.d (.lit (.int .i64 3)))), none⟩,
              ⟨(some 89), .mv (.t 90), none⟩] [1, 3, 4, 89]) (
            .cond (.t 89) (
             .seq (
              .ops [
                ⟨(some 91), .mkb 4 1 (.d (.lit (.bool false))) (.k (.d (.lit (.int .i64 401)))), none⟩,
                ⟨(some 10), .mv (.t 91), none⟩] [1, 3, 4, 10]) (
              .seq (
               .ops [
                 ⟨(some 92), .mv (.t 10), none⟩,
                 ⟨(some 93), .ia 1 (.t 92) (.k (.d (.lit (.int .i64 0)))), none⟩,
                 ⟨none, .sto 1 (.t 93) (.k (.d (.lit (.bool true)))), none⟩] [1, 3, 4, 10]) (
               .seq (
                .seq (
                 .ops [
                   ⟨(some 11), .mv (.k (.d (.lit (.int .i64 1)))), none⟩] [1, 3, 4, 10, 11]) (
                 .block 7 (
                  .loop (
                   .seq (
                    .seq (
                     .ops [
                       ⟨(some 94), .mv (.t 11), none⟩,
                       ⟨(some 95), .fa 2 (.t 1), none⟩,
                       ⟨(some 96), .load 1 false (.t 95), none⟩,
                       ⟨(some 97), .bin .leq (.t 94) (.t 96), none⟩] [1, 3, 4, 10, 11, 97]) (
                     .cond (.t 97) (
                      .skip) (
                      .exit 7))) (
                    .seq (
                     .block 8 (
                      .seq (
                       .ops [
                         ⟨(some 100), .mkb 4 1 (.d (.lit (.bool false))) (.k (.d (.lit (.int .i64 401)))), none⟩,
                         ⟨(some 12), .mv (.t 100), none⟩] [1, 3, 4, 10, 11, 12]) (
                       .seq (
                        .seq (
                         .ops [
                           ⟨(some 101), .mv (.t 10), none⟩,
                           ⟨(some 102), .len false (.t 101), none⟩,
                           ⟨(some 103), .mv (.k (.d (.lit (.int .i64 0)))), none⟩] [1, 3, 4, 10, 11, 12, 102, 103]) (
                         .block 9 (
                          .loop (
                           .seq (
                            .ops [
                              ⟨(some 104), .bin .lss (.t 103) (.t 102), none⟩] [1, 3, 4, 10, 11, 12, 102, 103, 104]) (
                            .seq (
                             .cond (.t 104) (
                              .skip) (
                              .exit 9)) (
                             .seq (
                              .block 10 (
                               .seq (
                                .ops [
                                  ⟨(some 105), .mv (.t 103), none⟩,
                                  ⟨(some 13), .mv (.t 105), none⟩] [1, 3, 4, 10, 11, 12, 13, 102, 103]) (
                                .seq (
                                 .ops [
                                   ⟨(some 14), .mv (.k (.d (.lit (.int .i64 0)))), none⟩] [1, 3, 4, 10, 11, 12, 13, 14, 102, 103]) (
                                 .block 11 (
                                  .loop (
                                   .seq (
                                    .seq (
                                     .ops [
                                       ⟨(some 106), .mv (.t 10), none⟩,
                                       ⟨(some 107), .mv (.t 13), none⟩,
                                       ⟨(some 108), .ia 1 (.t 106) (.t 107), none⟩,
                                       ⟨(some 109), .load 1 false (.t 108), none⟩,
                                       ⟨(some 110), .mv (.t 109), none⟩,
                                       ⟨(some 111), .mv (.t 13), (some (110, true))⟩,
                                       ⟨(some 112), .mv (.t 14), (some (110, true))⟩,
                                       ⟨(some 113), .bin .add (.t 111) (.t 112), (some (110, true))⟩,
                                       ⟨(some 114), .bin .leq (.t 113) (.k (.d (.lit (.int .i64 400)))), (some (110, true))⟩,
                                       ⟨(some 115), .pick (.t 110) (.t 114) (.k (.d (.lit (.bool false)))), none⟩] [1, 3, 4, 10, 11, 12, 13, 14, 102, 103, 115]) (
                                     .cond (.t 115) (
                                      .skip) (
                                      .exit 11))) (
                                    .seq (
                                     .block 12 (
                                      .ops [
                                        ⟨(some 118), .mv (.t 12), none⟩,
                                        ⟨(some 119), .mv (.t 13), none⟩,
                                        ⟨(some 120), .mv (.t 14), none⟩,
                                        ⟨(some 121), .bin .add (.t 119) (.t 120), none⟩,
                                        ⟨(some 122), .mv (.t 12), none⟩,
                                        ⟨(some 123), .mv (.t 13), none⟩,
                                        ⟨(some 124), .mv (.t 14), none⟩,
                                        ⟨(some 125), .bin .add (.t 123) (.t 124), none⟩,
                                        ⟨(some 126), .ia 1 (.t 122) (.t 125), none⟩,
                                        ⟨(some 127), .load 1 false (.t 126), none⟩,
                                        ⟨(some 128), .mv (.t 127), none⟩,
                                        ⟨(some 129), .mv (.t 4), (some (128, false))⟩,
                                        ⟨(some 130), .mv (.t 14), (some (128, false))⟩,
                                        ⟨(some 131), .ia 1 (.t 129) (.t 130), (some (128, false))⟩,
                                        ⟨(some 132), .load 1 false (.t 131), (some (128, false))⟩,
                                        ⟨(some 133), .pick (.t 128) (.k (.d (.lit (.bool true)))) (.t 132), none⟩,
                                        ⟨(some 134), .ia 1 (.t 118) (.t 121), none⟩,
                                        ⟨none, .sto 1 (.t 134) (.t 133), none⟩] [1, 3, 4, 10, 11, 12, 13, 14, 102, 103])) (
                                     .ops [
                                       ⟨(some 116), .mv (.t 14), none⟩,
                                       ⟨(some 117), .bin .add (.t 116) (.k (.d (.lit (.int .i64 1)))), none⟩,
                                       ⟨(some 14), .mv (.t 117), none⟩] [1, 3, 4, 10, 11, 12, 13, 14, 102, 103])))))))) (
                              .ops [
                                ⟨(some 135), .bin .add (.t 103) (.k (.d (.lit (.int .i64 1)))), none⟩,
                                ⟨(some 103), .mv (.t 135), none⟩] [1, 3, 4, 10, 11, 12, 102, 103]))))))) (
                        .seq (
                         .ops [
                           ⟨(some 136), .mv (.t 12), none⟩,
                           ⟨(some 10), .mv (.t 136), none⟩] [1, 3, 4, 10, 11]) (
                         .seq (
                          .ops [
                            ⟨(some 137), .mv (.t 10), none⟩,
                            ⟨(some 138), .len false (.t 137), none⟩,
                            ⟨(some 139), .mv (.k (.d (.lit (.int .i64 0)))), none⟩] [1, 3, 4, 10, 11, 138, 139]) (
                          .block 13 (
                           .loop (
                            .seq (
                             .ops [
                               ⟨(some 140), .bin .lss (.t 139) (.t 138), none⟩] [1, 3, 4, 10, 11, 138, 139, 140]) (
                             .seq (
                              .cond (.t 140) (
                               .skip) (
                               .exit 13)) (
                              .seq (
                               .block 14 (
                                .seq (
                                 .ops [
                                   ⟨(some 141), .mv (.t 139), none⟩,
                                   ⟨(some 15), .mv (.t 141), none⟩] [1, 3, 4, 10, 11, 15, 138, 139]) (
                                 .ops [
                                   ⟨(some 142), .mv (.t 3), none⟩,
                                   ⟨(some 143), .mv (.t 15), none⟩,
                                   ⟨(some 144), .mv (.t 3), none⟩,
                                   ⟨(some 145), .mv (.t 15), none⟩,
                                   ⟨(some 146), .ia 1 (.t 144) (.t 145), none⟩,
                                   ⟨(some 147), .load 1 false (.t 146), none⟩,
                                   ⟨(some 148), .mv (.t 147), none⟩,
                                   ⟨(some 149), .mv (.t 10), (some (148, false))⟩,
                                   ⟨(some 150), .mv (.t 15), (some (148, false))⟩,
                                   ⟨(some 151), .ia 1 (.t 149) (.t 150), (some (148, false))⟩,
                                   ⟨(some 152), .load 1 false (.t 151), (some (148, false))⟩,
                                   ⟨(some 153), .mv (.t 152), (some (148, false))⟩,
                                   ⟨(some 154), .mv (.t 11), (some (153, true))⟩,
                                   ⟨(some 155), .fa 1 (.t 1), (some (153, true))⟩,
                                   ⟨(some 156), .load 1 false (.t 155), (some (153, true))⟩,
                                   ⟨(some 157), .bin .geq (.t 154) (.t 156), (some (153, true))⟩,
                                   ⟨(some 158), .pick (.t 153) (.t 157) (.k (.d (.lit (.bool false)))), (some (148, false))⟩,
                                   ⟨(some 159), .pick (.t 148) (.k (.d (.lit (.bool true)))) (.t 158), none⟩,
                                   ⟨(some 160), .ia 1 (.t 142) (.t 143), none⟩,
                                   ⟨none, .sto 1 (.t 160) (.t 159), none⟩] [1, 3, 4, 10, 11, 138, 139]))) (
                               .ops [
                                 ⟨(some 161), .bin .add (.t 139) (.k (.d (.lit (.int .i64 1)))), none⟩,
                                 ⟨(some 139), .mv (.t 161), none⟩] [1, 3, 4, 10, 11, 138, 139]))))))))))) (
                     .ops [
                       ⟨(some 98), .mv (.t 11), none⟩,
                       ⟨(some 99), .bin .add (.t 98) (.k (.d (.lit (.int .i64 1)))), none⟩,
                       ⟨(some 11), .mv (.t 99), none⟩] [1, 3, 4, 10, 11])))))) (
                .seq (
                 .ops [
                   ⟨(some 162), .mv (.t 3), none⟩,
                   ⟨(some 2), .mv (.t 162), none⟩] [2]) (
                 .ret))))) (
             .skip))))))) (
       .seq (
        .seq (
         .ops [
           ⟨(some 16), .mv (.k (.d (.lit (.int .i64 1)))), none⟩] [1, 4, 16]) (
         .block 15 (
          .loop (
           .seq (
            .seq (
             .ops [
               ⟨(some 163), .mv (.t 16), none⟩,
               ⟨(some 164), .fa 8 (.t 1), none⟩,
               ⟨(some 165), .load 1 false (.t 164), none⟩,
               ⟨(some 166), .len false (.t 165), none⟩,
               ⟨(some 167), .bin .lss (.t 163) (.t 166), none⟩] [1, 4, 16, 167]) (
             .cond (.t 167) (
              .skip) (
              .exit 15))) (
            .seq (
             .block 16 (
              .seq (
               .ops [
                 ⟨(some 170), .fa 8 (.t 1), none⟩,
                 ⟨(some 171), .load 1 false (.t 170), none⟩,
                 ⟨(some 172), .mv (.t 16), none⟩,
                 ⟨(some 173), .ia 9 (.t 171) (.t 172), none⟩,
                 ⟨(some 174), .load 9 true (.t 173), none⟩,
                 ⟨(some 175), .call 20 [.t 174], none⟩,
                 ⟨(some 17), .mv (.t 175), none⟩] [1, 4, 16, 17]) (
               .seq (
                .ops [
                  ⟨(some 176), .mkb 4 1 (.d (.lit (.bool false))) (.k (.d (.lit (.int .i64 401)))), none⟩,
                  ⟨(some 18), .mv (.t 176), none⟩] [1, 4, 16, 17, 18]) (
                .seq (
                 .seq (
                  .ops [
                    ⟨(some 177), .mv (.t 4), none⟩,
                    ⟨(some 178), .len false (.t 177), none⟩,
                    ⟨(some 179), .mv (.k (.d (.lit (.int .i64 0)))), none⟩] [1, 4, 16, 17, 18, 178, 179]) (
                  .block 17 (
                   .loop (
                    .seq (
                     .ops [
                       ⟨(some 180), .bin .lss (.t 179) (.t 178), none⟩] [1, 4, 16, 17, 18, 178, 179, 180]) (
                     .seq (
                      .cond (.t 180) (
                       .skip) (
                       .exit 17)) (
                      .seq (
                       .block 18 (
                        .seq (
                         .ops [
                           ⟨(some 181), .mv (.t 179), none⟩,
                           ⟨(some 19), .mv (.t 181), none⟩] [1, 4, 16, 17, 18, 19, 178, 179]) (
                         .seq (
                          .ops [
                            ⟨(some 182), .mv (.t 17), none⟩,
                            ⟨(some 183), .len false (.t 182), none⟩,
                            ⟨(some 184), .mv (.k (.d (.lit (.int .i64 0)))), none⟩] [1, 4, 16, 17, 18, 19, 178, 179, 183, 184]) (
                          .block 19 (
                           .loop (
                            .seq (
                             .ops [
                               ⟨(some 185), .bin .lss (.t 184) (.t 183), none⟩] [1, 4, 16, 17, 18, 19, 178, 179, 183, 184, 185]) (
                             .seq (
                              .cond (.t 185) (
                               .skip) (
                               .exit 19)) (
                              .seq (
                               .block 20 (
                                .seq (
                                 .ops [
                                   ⟨(some 186), .mv (.t 184), none⟩,
                                   ⟨(some 20), .mv (.t 186), none⟩] [1, 4, 16, 17, 18, 19, 20, 178, 179, 183, 184]) (
                                 .seq (
                                  .ops [
                                    ⟨(some 187), .fa 0 (.t 1), none⟩,
                                    ⟨(some 188), .load 1 false (.t 187), none⟩,
                                    ⟨(some 189), .bin .eql (.t 188) (.k (.d (.lit (.int .i64 4)))), none⟩] [1, 4, 16, 17, 18, 19, 20, 178, 179, 183, 184, 189]) (
                                  .cond (.t 189) (
                                   .seq (
                                    .ops [
                                      ⟨(some 190), .mv (.t 18), none⟩,
                                      ⟨(some 191), .mv (.t 19), none⟩,
                                      ⟨(some 192), .mv (.t 18), none⟩,
                                      ⟨(some 193), .mv (.t 19), none⟩,
                                      ⟨(some 194), .ia 1 (.t 192) (.t 193), none⟩,
                                      ⟨(some 195), .load 1 false (.t 194), none⟩,
                                      ⟨(some 196), .mv (.t 195), none⟩,
                                      ⟨(some 197), .mv (.t 4), (some (196, false))⟩,
                                      ⟨(some 198), .mv (.t 19), (some (196, false))⟩,
                                      ⟨(some 199), .ia 1 (.t 197) (.t 198), (some (196, false))⟩,
                                      ⟨(some 200), .load 1 false (.t 199), (some (196, false))⟩,
                                      ⟨(some 201), .pick (.t 196) (.k (.d (.lit (.bool true)))) (.t 200), none⟩,
                                      ⟨(some 202), .ia 1 (.t 190) (.t 191), none⟩,
                                      ⟨none, .sto 1 (.t 202) (.t 201), none⟩] [1, 4, 16, 17, 18, 19, 20, 178, 179, 183, 184]) (
                                    .ops [
                                      ⟨(some 203), .mv (.t 18), none⟩,
                                      ⟨(some 204), .mv (.t 20), none⟩,
                                      ⟨(some 205), .mv (.t 18), none⟩,
                                      ⟨(some 206), .mv (.t 20), none⟩,
                                      ⟨(some 207), .ia 1 (.t 205) (.t 206), none⟩,
                                      ⟨(some 208), .load 1 false (.t 207), none⟩,
                                      ⟨(some 209), .mv (.t 208), none⟩,
                                      ⟨(some 210), .mv (.t 17), (some (209, false))⟩,
                                      ⟨(some 211), .mv (.t 20), (some (209, false))⟩,
                                      ⟨(some 212), .ia 1 (.t 210) (.t 211), (some (209, false))⟩,
                                      ⟨(some 213), .load 1 false (.t 212), (some (209, false))⟩,
                                      ⟨(some 214), .pick (.t 209) (.k (.d (.lit (.bool true)))) (.t 213), none⟩,
                                      ⟨(some 215), .ia 1 (.t 203) (.t 204), none⟩,
                                      ⟨none, .sto 1 (.t 215) (.t 214), none⟩] [1, 4, 16, 17, 18, 19, 178, 179, 183, 184])) (
                                   .seq (
                                    .ops [
                                      ⟨(some 216), .mv (.t 4), none⟩,
                                      ⟨(some 217), .mv (.t 19), none⟩,
                                      ⟨(some 218), .ia 1 (.t 216) (.t 217), none⟩,
                                      ⟨(some 219), .load 1 false (.t 218), none⟩,
                                      ⟨(some 220), .mv (.t 219), none⟩,
                                      ⟨(some 221), .mv (.t 17), (some (220, true))⟩,
                                      ⟨(some 222), .mv (.t 20), (some (220, true))⟩,
                                      ⟨(some 223), .ia 1 (.t 221) (.t 222), (some (220, true))⟩,
                                      ⟨(some 224), .load 1 false (.t 223), (some (220, true))⟩,
                                      ⟨(some 225), .pick (.t 220) (.t 224) (.k (.d (.lit (.bool false)))), none⟩] [1, 4, 16, 17, 18, 19, 20, 178, 179, 183, 184, 225]) (
                                    .cond (.t 225) (
                                     .ops [
                                       ⟨(some 226), .mv (.t 18), none⟩,
                                       ⟨(some 227), .mv (.t 19), none⟩,
                                       ⟨(some 228), .mv (.t 20), none⟩,
                                       ⟨(some 229), .mx true (.t 227) (.t 228), none⟩,
                                       ⟨(some 230), .ia 1 (.t 226) (.t 229), none⟩,
                                       ⟨none, .sto 1 (.t 230) (.k (.d (.lit (.bool true)))), none⟩] [1, 4, 16, 17, 18, 19, 178, 179, 183, 184]) (
                                     .skip))))))) (
                               .ops [
                                 ⟨(some 231), .bin .add (.t 184) (.k (.d (.lit (.int .i64 1)))), none⟩,
                                 ⟨(some 184), .mv (.t 231), none⟩] [1, 4, 16, 17, 18, 19, 178, 179, 183, 184]))))))))) (
                       .ops [
                         ⟨(some 232), .bin .add (.t 179) (.k (.d (.lit (.int .i64 1)))), none⟩,
                         ⟨(some 179), .mv (.t 232), none⟩] [1, 4, 16, 17, 18, 178, 179]))))))) (
                 .ops [
                   ⟨(some 233), .mv (.t 18), none⟩,
                   ⟨(some 4), .mv (.t 233), none⟩] [1, 4, 16]))))) (
             .ops [
               ⟨(some 168), .mv (.t 16), none⟩,
               ⟨(some 169), .bin .add (.t 168) (.k (.d (.lit (.int .i64 1)))), none⟩,
               ⟨(some 16), .mv (.t 169), none⟩] [1, 4, 16])))))) (
        .seq (
         .ops [
           ⟨(some 234), .mv (.t 4), none⟩,
           ⟨(some 2), .mv (.t 234), none⟩] [2]) (
         .ret))))))))
def rs20 : List RV := [.t 2 false]
theorem k20 : okFn G.tab Tryz.f20 1 c20 rs20 = true := by kernel_rfl

/-- testbench/testbenchlaw39.awake -/
def c10 : Cd :=
 .seq (
  .ops [
    ⟨(some 0), .mv (.k (.d (.lit (.bool false)))), none⟩] []) (
  .seq (
   .ops [
     ⟨(some 7), .call 27 [.k (.d (.lit (.string ⟨#[97]⟩)))], none⟩,
     ⟨(some 8), .call 27 [.k (.d (.lit (.string ⟨#[98]⟩)))], none⟩,
     ⟨(some 9), .mks 27 9 [.t 7, .t 8], none⟩,
     ⟨(some 1), .mv (.t 9), none⟩] [1]) (
   .seq (
    .ops [
      ⟨(some 10), .mv (.t 1), none⟩,
      ⟨(some 11), .bld [.d (.lit (.int .i64 0)), .d (.lit (.int .i64 0)), .d (.lit (.int .i64 0)), .d (.lit (.int .i64 0)), .d (.lit (.int .i64 0)), .d (.lit (.string ⟨#[]⟩)), .nil, .d (.lit (.string ⟨#[]⟩)), .nil] [(0, 1, .k (.d (.lit (.int .i64 2)))), (1, 1, .k (.d (.lit (.int .i64 1)))), (2, 1, .k (.d (.lit (.int .i64 3)))), (8, 1, .t 10)], none⟩,
      ⟨(some 2), .new 27 [.d (.lit (.int .i64 0)), .d (.lit (.int .i64 0)), .d (.lit (.int .i64 0)), .d (.lit (.int .i64 0)), .d (.lit (.int .i64 0)), .d (.lit (.string ⟨#[]⟩)), .nil, .d (.lit (.string ⟨#[]⟩)), .nil], none⟩,
      ⟨none, .sto 9 (.t 2) (.t 11), none⟩] [1, 2]) (
    .seq (
     .ops [
       ⟨(some 12), .mv (.t 1), none⟩,
       ⟨(some 13), .sub false 9 (.t 12) none (some (.k (.d (.lit (.int .i64 1))))), none⟩,
       ⟨(some 14), .bld [.d (.lit (.int .i64 0)), .d (.lit (.int .i64 0)), .d (.lit (.int .i64 0)), .d (.lit (.int .i64 0)), .d (.lit (.int .i64 0)), .d (.lit (.string ⟨#[]⟩)), .nil, .d (.lit (.string ⟨#[]⟩)), .nil] [(0, 1, .k (.d (.lit (.int .i64 3)))), (2, 1, .k (.d (.lit (.int .i64 2)))), (8, 1, .t 13)], none⟩,
       ⟨(some 3), .new 27 [.d (.lit (.int .i64 0)), .d (.lit (.int .i64 0)), .d (.lit (.int .i64 0)), .d (.lit (.int .i64 0)), .d (.lit (.int .i64 0)), .d (.lit (.string ⟨#[]⟩)), .nil, .d (.lit (.string ⟨#[]⟩)), .nil], none⟩,
       ⟨none, .sto 9 (.t 3) (.t 14), none⟩] [1, 2, 3]) (
     .seq (
      .ops [
        ⟨(some 15), .bld [.d (.lit (.int .i64 0)), .d (.lit (.int .i64 0)), .d (.lit (.string ⟨#[]⟩)), .nil] [(0, 1, .k (.d (.lit (.int .i64 1)))), (1, 1, .k (.d (.lit (.int .i64 1))))], none⟩,
        ⟨(some 16), .mv (.t 1), none⟩,
        ⟨(some 17), .sub false 9 (.t 16) none (some (.k (.d (.lit (.int .i64 1))))), none⟩,
        ⟨(some 18), .bld [.d (.lit (.int .i64 0)), .d (.lit (.int .i64 0)), .d (.lit (.int .i64 0)), .d (.lit (.int .i64 0)), .d (.lit (.int .i64 0)), .d (.lit (.string ⟨#[]⟩)), .nil, .d (.lit (.string ⟨#[]⟩)), .nil] [(0, 1, .k (.d (.lit (.int .i64 6)))), (7, 1, .k (.d (.lit (.string ⟨#[120]⟩)))), (3, 4, .t 15), (8, 1, .t 17)], none⟩,
        ⟨(some 4), .new 27 [.d (.lit (.int .i64 0)), .d (.lit (.int .i64 0)), .d (.lit (.int .i64 0)), .d (.lit (.int .i64 0)), .d (.lit (.int .i64 0)), .d (.lit (.string ⟨#[]⟩)), .nil, .d (.lit (.string ⟨#[]⟩)), .nil], none⟩,
        ⟨none, .sto 9 (.t 4) (.t 18), none⟩] [1, 2, 3, 4]) (
      .seq (
       .drawn [.d (.lit (.int .i64 0)), .d (.lit (.int .i64 0)), .d (.lit (.int .i64 0)), .d (.lit (.int .i64 0)), .d (.lit (.int .i64 0)), .d (.lit (.string ⟨#[]⟩)), .nil, .d (.lit (.string ⟨#[]⟩)), .nil] [
         ⟨(some 19), .load 9 true (.t 4), none⟩,
         ⟨(some 20), .mv (.t 1), none⟩,
         ⟨(some 21), .ia 9 (.t 20) (.k (.d (.lit (.int .i64 1)))), none⟩,
         ⟨(some 22), .load 9 true (.t 21), none⟩,
         ⟨(some 23), .mks 27 9 [.t 19, .t 22], none⟩,
         ⟨(some 24), .bld [.d (.lit (.int .i64 0)), .d (.lit (.int .i64 0)), .d (.lit (.int .i64 0)), .d (.lit (.int .i64 0)), .d (.lit (.int .i64 0)), .d (.lit (.string ⟨#[]⟩)), .nil, .d (.lit (.string ⟨#[]⟩)), .nil] [(0, 1, .k (.d (.lit (.int .i64 5)))), (8, 1, .t 23)], none⟩,
         ⟨(some 5), .new 27 [.d (.lit (.int .i64 0)), .d (.lit (.int .i64 0)), .d (.lit (.int .i64 0)), .d (.lit (.int .i64 0)), .d (.lit (.int .i64 0)), .d (.lit (.string ⟨#[]⟩)), .nil, .d (.lit (.string ⟨#[]⟩)), .nil], none⟩,
         ⟨none, .sto 9 (.t 5) (.t 24), none⟩] [2, 3, 4, 5]) (
       .seq (
        .ops [
          ⟨(some 25), .bld [.d (.lit (.int .i64 0)), .d (.lit (.int .i64 0)), .d (.lit (.string ⟨#[]⟩)), .nil] [(0, 1, .k (.d (.lit (.int .i64 2)))), (2, 1, .k (.d (.lit (.string ⟨#[120]⟩))))], none⟩,
          ⟨(some 26), .load 9 true (.t 4), none⟩,
          ⟨(some 27), .mks 27 9 [.t 26], none⟩,
          ⟨(some 28), .bld [.d (.lit (.int .i64 0)), .d (.lit (.int .i64 0)), .d (.lit (.int .i64 0)), .d (.lit (.int .i64 0)), .d (.lit (.int .i64 0)), .d (.lit (.string ⟨#[]⟩)), .nil, .d (.lit (.string ⟨#[]⟩)), .nil] [(0, 1, .k (.d (.lit (.int .i64 7)))), (3, 4, .t 25), (8, 1, .t 27)], none⟩,
          ⟨(some 6), .new 27 [.d (.lit (.int .i64 0)), .d (.lit (.int .i64 0)), .d (.lit (.int .i64 0)), .d (.lit (.int .i64 0)), .d (.lit (.int .i64 0)), .d (.lit (.string ⟨#[]⟩)), .nil, .d (.lit (.string ⟨#[]⟩)), .nil], none⟩,
          ⟨none, .sto 9 (.t 6) (.t 28), none⟩] [2, 3, 4, 5, 6]) (
        .seq (
         .ops [
           ⟨(some 29), .load 9 true (.t 2), none⟩,
           ⟨(some 30), .call 8 [.t 29], none⟩,
           ⟨(some 31), .bin .eql (.t 30) (.k (.d (.lit (.int .i64 0)))), none⟩,
           ⟨(some 32), .mv (.t 31), none⟩,
           ⟨(some 33), .load 9 true (.t 2), (some (32, true))⟩,
           ⟨(some 34), .call 16 [.t 33], (some (32, true))⟩,
           ⟨(some 35), .bin .eql (.t 34) (.k (.d (.lit (.int .i64 2)))), (some (32, true))⟩,
           ⟨(some 36), .pick (.t 32) (.t 35) (.k (.d (.lit (.bool false)))), none⟩,
           ⟨(some 37), .mv (.t 36), none⟩,
           ⟨(some 38), .load 9 true (.t 2), (some (37, true))⟩,
           ⟨(some 39), .call 18 [.t 38], (some (37, true))⟩,
           ⟨(some 40), .bin .eql (.t 39) (.k (.d (.lit (.int .i64 4)))), (some (37, true))⟩,
           ⟨(some 41), .pick (.t 37) (.t 40) (.k (.d (.lit (.bool false)))), none⟩,
           ⟨(some 42), .mv (.t 41), none⟩,
           ⟨(some 43), .load 9 true (.t 2), (some (42, true))⟩,
           ⟨(some 44), .call 11 [.t 43], (some (42, true))⟩,
           ⟨(some 45), .bin .eql (.t 44) (.k (.d (.lit (.int .i64 3)))), (some (42, true))⟩,
           ⟨(some 46), .pick (.t 42) (.t 45) (.k (.d (.lit (.bool false)))), none⟩,
           ⟨(some 47), .mv (.t 46), none⟩,
           ⟨(some 48), .load 9 true (.t 3), (some (47, true))⟩,
           ⟨(some 49), .call 8 [.t 48], (some (47, true))⟩,
           ⟨(some 50), .bin .eql (.t 49) (.k (.d (.lit (.int .i64 1)))), (some (47, true))⟩,
           ⟨(some 51), .pick (.t 47) (.t 50) (.k (.d (.lit (.bool false)))), none⟩,
           ⟨(some 52), .mv (.t 51), none⟩,
           ⟨(some 53), .load 9 true (.t 5), (some (52, true))⟩,
           ⟨(some 54), .call 8 [.t 53], (some (52, true))⟩,
           ⟨(some 55), .bin .eql (.t 54) (.k (.d (.lit (.int .i64 13)))), (some (52, true))⟩,
           ⟨(some 56), .pick (.t 52) (.t 55) (.k (.d (.lit (.bool false)))), none⟩,
           ⟨(some 57), .mv (.t 56), none⟩,
           ⟨(some 58), .load 9 true (.t 6), (some (57, true))⟩,
           ⟨(some 59), .call 8 [.t 58], (some (57, true))⟩,
           ⟨(some 60), .bin .eql (.t 59) (.k (.d (.lit (.int .i64 13)))), (some (57, true))⟩,
           ⟨(some 61), .pick (.t 57) (.t 60) (.k (.d (.lit (.bool false)))), none⟩,
           ⟨(some 62), .mv (.t 61), none⟩,
           ⟨(some 63), .load 9 true (.t 4), (some (62, true))⟩,
           ⟨(some 64), .call 14 [.t 63], (some (62, true))⟩,
           ⟨(some 65), .len false (.t 64), (some (62, true))⟩,
           ⟨(some 66), .bin .eql (.t 65) (.k (.d (.lit (.int .i64 1)))), (some (62, true))⟩,
           ⟨(some 67), .pick (.t 62) (.t 66) (.k (.d (.lit (.bool false)))), none⟩,
           ⟨(some 0), .mv (.t 67), none⟩] [0]) (
         .ret))))))))
def rs10 : List RV := [.t 0 false]
theorem k10 : okFn G.tab Tryz.f10 0 c10 rs10 = true := by kernel_rfl

/-- testbench/testbenchlaw39.same -/
def c13 : Cd :=
 .seq (
  .ops [
    ⟨(some 4), .mv (.k (.d (.lit (.bool false)))), none⟩] [0, 1]) (
  .seq (
   .seq (
    .ops [
      ⟨(some 6), .mv (.t 0), none⟩,
      ⟨(some 7), .len false (.t 6), none⟩,
      ⟨(some 8), .mv (.t 1), none⟩,
      ⟨(some 9), .len false (.t 8), none⟩,
      ⟨(some 10), .bin .neq (.t 7) (.t 9), none⟩] [0, 1, 10]) (
    .cond (.t 10) (
     .seq (
      .ops [
        ⟨(some 4), .mv (.k (.d (.lit (.bool false)))), none⟩] [4]) (
      .ret)) (
     .skip))) (
   .seq (
    .seq (
     .ops [
       ⟨(some 11), .mv (.t 0), none⟩,
       ⟨(some 12), .len false (.t 11), none⟩,
       ⟨(some 13), .mv (.k (.d (.lit (.int .i64 0)))), none⟩] [0, 1, 12, 13]) (
     .block 0 (
      .loop (
       .seq (
        .ops [
          ⟨(some 14), .bin .lss (.t 13) (.t 12), none⟩] [0, 1, 12, 13, 14]) (
        .seq (
         .cond (.t 14) (
          .skip) (
          .exit 0)) (
         .seq (
          .block 1 (
           .seq (
            .ops [
              ⟨(some 15), .mv (.t 13), none⟩,
              ⟨(some 5), .mv (.t 15), none⟩] [0, 1, 5, 12, 13]) (
            .seq (
             .draw [
               ⟨(some 16), .mv (.t 0), none⟩,
               ⟨(some 17), .mv (.t 5), none⟩,
               ⟨(some 18), .ia 1 (.t 16) (.t 17), none⟩,
               ⟨(some 19), .load 1 false (.t 18), none⟩,
               ⟨(some 20), .mv (.t 1), none⟩,
               ⟨(some 21), .mv (.t 5), none⟩,
               ⟨(some 22), .ia 1 (.t 20) (.t 21), none⟩,
               ⟨(some 23), .load 1 false (.t 22), none⟩,
               ⟨(some 24), .bin .neq (.t 19) (.t 23), none⟩] [0, 1, 12, 13, 24]) (
             .cond (.t 24) (
              .seq (
               .ops [
                 ⟨(some 4), .mv (.k (.d (.lit (.bool false)))), none⟩] [4]) (
               .ret)) (
              .skip))))) (
          .ops [
            ⟨(some 25), .bin .add (.t 13) (.k (.d (.lit (.int .i64 1)))), none⟩,
            ⟨(some 13), .mv (.t 25), none⟩] [0, 1, 12, 13]))))))) (
    .seq (
     .ops [
       ⟨(some 4), .mv (.k (.d (.lit (.bool true)))), none⟩] [4]) (
     .ret))))
def rs13 : List RV := [.t 4 false]
theorem k13 : okFn G.tab Tryz.f13 2 c13 rs13 = true := by kernel_rfl

/-- testbench/testbenchlaw39.cycle -/
def c27 : Cd :=
 .seq (
  .ops [
    ⟨(some 2), .new 27 [.d (.lit (.int .i64 0)), .d (.lit (.int .i64 0)), .d (.lit (.int .i64 0)), .d (.lit (.int .i64 0)), .d (.lit (.int .i64 0)), .d (.lit (.string ⟨#[]⟩)), .nil, .d (.lit (.string ⟨#[]⟩)), .nil], none⟩] [0, 2]) (
  .seq (
   .ops [
     ⟨(some 3), .mv (.t 0), none⟩,
     ⟨(some 4), .bld [.d (.lit (.int .i64 0)), .d (.lit (.int .i64 0)), .d (.lit (.string ⟨#[]⟩)), .nil] [(0, 1, .k (.d (.lit (.int .i64 2)))), (2, 1, .t 3)], none⟩,
     ⟨(some 5), .bld [.d (.lit (.int .i64 0)), .d (.lit (.int .i64 0)), .d (.lit (.int .i64 0)), .d (.lit (.int .i64 0)), .d (.lit (.int .i64 0)), .d (.lit (.string ⟨#[]⟩)), .nil, .d (.lit (.string ⟨#[]⟩)), .nil] [(0, 1, .k (.d (.lit (.int .i64 1)))), (3, 4, .t 4)], none⟩,
     ⟨none, .sto 9 (.t 2) (.t 5), none⟩] [2]) (
   .ret))
def rs27 : List RV := [.c 2 9 true]
theorem k27 : okFn G.tab Tryz.f27 1 c27 rs27 = true := by kernel_rfl

/-- testbench/tseq.ValidProp -/
def c21 : Cd :=
 .seq (
  .ops [
    ⟨(some 1), .box 39 (.t 0), none⟩,
    ⟨(some 2), .mv (.k (.d (.lit (.int .i64 0)))), none⟩] [1]) (
  .seq (
   .seq (
    .ops [
      ⟨(some 4), .fa 0 (.t 1), none⟩,
      ⟨(some 5), .load 1 false (.t 4), none⟩,
      ⟨(some 6), .call 44 [.t 5], none⟩,
      ⟨(some 7), .un .not (.t 6), none⟩] [1, 7]) (
    .cond (.t 7) (
     .seq (
      .ops [
        ⟨(some 2), .mv (.k (.d (.lit (.int .i64 7)))), none⟩] [2]) (
      .ret)) (
     .skip))) (
   .seq (
    .seq (
     .ops [
       ⟨(some 8), .fa 1 (.t 1), none⟩,
       ⟨(some 9), .load 1 false (.t 8), none⟩,
       ⟨(some 10), .mv (.t 9), none⟩,
       ⟨(some 11), .fa 2 (.t 1), (some (10, true))⟩,
       ⟨(some 12), .load 1 false (.t 11), (some (10, true))⟩,
       ⟨(some 13), .mv (.t 12), (some (10, true))⟩,
       ⟨(some 14), .fa 3 (.t 1), (some (13, false))⟩,
       ⟨(some 15), .load 9 true (.t 14), (some (13, false))⟩,
       ⟨(some 16), .bld [.d (.lit (.int .i64 0)), .d (.lit (.int .i64 0)), .d (.lit (.int .i64 0)), .d (.lit (.int .i64 0)), .d (.lit (.int .i64 0)), .d (.lit (.string ⟨#[]⟩)), .nil, .d (.lit (.string ⟨#[]⟩)), .nil] [], (some (13, false))⟩,
       ⟨(some 17), .call 45 [.t 15, .t 16], (some (13, false))⟩,
       ⟨(some 18), .un .not (.t 17), (some (13, false))⟩,
       ⟨(some 19), .pick (.t 13) (.k (.d (.lit (.bool true)))) (.t 18), (some (10, true))⟩,
       ⟨(some 20), .pick (.t 10) (.t 19) (.k (.d (.lit (.bool false)))), none⟩] [1, 20]) (
     .cond (.t 20) (
      .seq (
       .ops [
         ⟨(some 2), .mv (.k (.d (.lit (.int .i64 1)))), none⟩] [2]) (
       .ret)) (
      .skip))) (
    .seq (
     .seq (
      .ops [
        ⟨(some 21), .fa 1 (.t 1), none⟩,
        ⟨(some 22), .load 1 false (.t 21), none⟩,
        ⟨(some 23), .un .not (.t 22), none⟩] [1, 23]) (
      .cond (.t 23) (
       .seq (
        .ops [
          ⟨(some 24), .fa 3 (.t 1), none⟩,
          ⟨(some 25), .load 9 true (.t 24), none⟩,
          ⟨(some 26), .call 8 [.t 25], none⟩,
          ⟨(some 3), .mv (.t 26), none⟩] [1, 3]) (
        .seq (
         .ops [
           ⟨(some 27), .mv (.t 3), none⟩,
           ⟨(some 28), .bin .neq (.t 27) (.k (.d (.lit (.int .i64 0)))), none⟩] [1, 3, 28]) (
         .cond (.t 28) (
          .seq (
           .ops [
             ⟨(some 29), .mv (.t 3), none⟩,
             ⟨(some 2), .mv (.t 29), none⟩] [2]) (
           .ret)) (
          .skip)))) (
       .skip))) (
     .seq (
      .ops [
        ⟨(some 30), .fa 12 (.t 1), none⟩,
        ⟨(some 31), .load 9 true (.t 30), none⟩,
        ⟨(some 32), .call 8 [.t 31], none⟩,
        ⟨(some 2), .mv (.t 32), none⟩] [2]) (
      .ret)))))
def rs21 : List RV := [.t 2 false]
theorem k21 : okFn G.tab Tryz.f21 1 c21 rs21 = true := by kernel_rfl

/-- testbench/tseq.Valid -/
def c8 : Cd :=
 .seq (
  .ops [
    ⟨(some 1), .box 27 (.t 0), none⟩,
    ⟨(some 2), .mv (.k (.d (.lit (.int .i64 0)))), none⟩] [1]) (
  .seq (
   .seq (
    .ops [
      ⟨(some 3), .load 9 true (.t 1), none⟩,
      ⟨(some 4), .call 23 [.t 3], none⟩,
      ⟨(some 5), .bin .gtr (.t 4) (.k (.d (.lit (.int .i64 8)))), none⟩,
      ⟨(some 6), .mv (.t 5), none⟩,
      ⟨(some 7), .load 9 true (.t 1), (some (6, false))⟩,
      ⟨(some 8), .call 11 [.t 7], (some (6, false))⟩,
      ⟨(some 9), .bin .gtr (.t 8) (.k (.d (.lit (.int .i64 100)))), (some (6, false))⟩,
      ⟨(some 10), .pick (.t 6) (.k (.d (.lit (.bool true)))) (.t 9), none⟩] [1, 10]) (
    .cond (.t 10) (
     .seq (
      .ops [
        ⟨(some 2), .mv (.k (.d (.lit (.int .i64 2)))), none⟩] [2]) (
      .ret)) (
     .skip))) (
   .seq (
    .ops [
      ⟨(some 11), .load 9 true (.t 1), none⟩,
      ⟨(some 12), .call 24 [.t 11, .k (.d (.lit (.bool false)))], none⟩,
      ⟨(some 2), .mv (.t 12), none⟩] [2]) (
    .ret)))
def rs8 : List RV := [.t 2 false]
theorem k8 : okFn G.tab Tryz.f8 1 c8 rs8 = true := by kernel_rfl

/-- testbench/tseq.Size -/
def c11 : Cd :=
 .seq (
  .ops [
    ⟨(some 1), .box 27 (.t 0), none⟩,
    ⟨(some 2), .mv (.k (.d (.lit (.int .i64 0)))), none⟩] [1]) (
  .seq (
   .ops [
     ⟨(some 3), .load 9 true (.t 1), none⟩,
     ⟨(some 4), .call 28 [.t 3, .k (.fn 29 [])], none⟩,
     ⟨(some 2), .mv (.t 4), none⟩] [2]) (
   .ret))
def rs11 : List RV := [.t 2 false]
theorem k11 : okFn G.tab Tryz.f11 1 c11 rs11 = true := by kernel_rfl

/-- testbench/tseq.Size$1 -/
def c29 : Cd :=
 .seq (
  .ops [
    ⟨(some 2), .box 27 (.t 0), none⟩,
    ⟨(some 4), .mv (.k (.d (.lit (.int .i64 0)))), none⟩] [1]) (
  .seq (
   .ops [
     ⟨(some 5), .mv (.t 1), none⟩,
     ⟨(some 6), .call 30 [.t 5], none⟩,
     ⟨(some 7), .bin .add (.k (.d (.lit (.int .i64 1)))) (.t 6), none⟩,
     ⟨(some 4), .mv (.t 7), none⟩] [4]) (
   .ret))
def rs29 : List RV := [.t 4 false]
theorem k29 : okFn G.tab Tryz.f29 2 c29 rs29 = true := by kernel_rfl

/-- testbench/tseq.sum -/
def c30 : Cd :=
 .seq (
  .ops [
    ⟨(some 2), .mv (.k (.d (.lit (.int .i64 0)))), none⟩] [0]) (
  .seq (
   .ops [
     ⟨(some 3), .mv (.k (.d (.lit (.int .i64 0)))), none⟩] [0, 3]) (
   .seq (
    .seq (
     .ops [
       ⟨(some 6), .mv (.t 0), none⟩,
       ⟨(some 7), .len false (.t 6), none⟩,
       ⟨(some 8), .mv (.k (.d (.lit (.int .i64 0)))), none⟩] [3, 6, 7, 8]) (
     .block 0 (
      .loop (
       .seq (
        .ops [
          ⟨(some 9), .bin .lss (.t 8) (.t 7), none⟩] [3, 6, 7, 8, 9]) (
        .seq (
         .cond (.t 9) (
          .skip) (
          .exit 0)) (
         .seq (
          .block 1 (
           .seq (
            .ops [
              ⟨(some 10), .ia 1 (.t 6) (.t 8), none⟩,
              ⟨(some 11), .load 1 false (.t 10), none⟩,
              ⟨(some 5), .mv (.t 11), none⟩] [3, 5, 6, 7, 8]) (
            .ops [
              ⟨(some 12), .mv (.t 3), none⟩,
              ⟨(some 13), .mv (.t 5), none⟩,
              ⟨(some 14), .bin .add (.t 12) (.t 13), none⟩,
              ⟨(some 3), .mv (.t 14), none⟩] [3, 6, 7, 8]))) (
          .ops [
            ⟨(some 15), .bin .add (.t 8) (.k (.d (.lit (.int .i64 1)))), none⟩,
            ⟨(some 8), .mv (.t 15), none⟩] [3, 6, 7, 8]))))))) (
    .seq (
     .ops [
       ⟨(some 16), .mv (.t 3), none⟩,
       ⟨(some 2), .mv (.t 16), none⟩] [2]) (
     .ret))))
def rs30 : List RV := [.t 2 false]
theorem k30 : okFn G.tab Tryz.f30 1 c30 rs30 = true := by kernel_rfl

/-- testbench/tseq.Min -/
def c16 : Cd :=
 .seq (
  .ops [
    ⟨(some 1), .box 27 (.t 0), none⟩,
    ⟨(some 2), .mv (.k (.d (.lit (.int .i64 0)))), none⟩] [1]) (
  .seq (
   .seq (
    .ops [
      ⟨(some 3), .load 9 true (.t 1), none⟩,
      ⟨(some 4), .call 8 [.t 3], none⟩,
      ⟨(some 5), .bin .neq (.t 4) (.k (.d (.lit (.int .i64 0)))), none⟩] [1, 5]) (
    .cond (.t 5) (
     .seq (
      .ops [
        ⟨(some 2), .mv (.k (.d (.lit (.int .i64 0)))), none⟩] [2]) (
      .ret)) (
     .skip))) (
   .seq (
    .ops [
      ⟨(some 6), .load 9 true (.t 1), none⟩,
      ⟨(some 7), .call 28 [.t 6, .k (.fn 36 [])], none⟩,
      ⟨(some 2), .mv (.t 7), none⟩] [2]) (
    .ret)))
def rs16 : List RV := [.t 2 false]
theorem k16 : okFn G.tab Tryz.f16 1 c16 rs16 = true := by kernel_rfl

/-- testbench/tseq.Min$1 -/
def c36 : Cd :=
 .seq (
  .ops [
    ⟨(some 2), .box 27 (.t 0), none⟩,
    ⟨(some 4), .mv (.k (.d (.lit (.int .i64 0)))), none⟩] [1, 2]) (
  .seq (
   .ops [
     ⟨(some 5), .load 9 true (.t 2), none⟩,
     ⟨(some 6), .mv (.t 1), none⟩,
     ⟨(some 7), .fa 1 (.t 2), none⟩,
     ⟨(some 8), .load 1 false (.t 7), none⟩,
     ⟨(some 9), .call 37 [.t 5, .t 6, .t 8, .k (.fn 38 [])], none⟩,
     ⟨(some 4), .mv (.t 9), none⟩] [4]) (
   .ret))
def rs36 : List RV := [.t 4 false]
theorem k36 : okFn G.tab Tryz.f36 2 c36 rs36 = true := by kernel_rfl

/-- testbench/tseq.Min$1$1 -/
def c38 : Cd :=
 .seq (
  .ops [
    ⟨(some 2), .mv (.k (.d (.lit (.int .i64 0)))), none⟩] [0]) (
  .seq (
   .ops [
     ⟨(some 3), .mv (.t 0), none⟩,
     ⟨(some 4), .call 39 [.t 3], none⟩,
     ⟨(some 2), .mv (.t 4), none⟩] [2]) (
   .ret))
def rs38 : List RV := [.t 2 false]
theorem k38 : okFn G.tab Tryz.f38 1 c38 rs38 = true := by kernel_rfl

/-- testbench/tseq.Max -/
def c18 : Cd :=
 .seq (
  .ops [
    ⟨(some 1), .box 27 (.t 0), none⟩,
    ⟨(some 2), .mv (.k (.d (.lit (.int .i64 0)))), none⟩] [1]) (
  .seq (
   .seq (
    .ops [
      ⟨(some 3), .load 9 true (.t 1), none⟩,
      ⟨(some 4), .call 8 [.t 3], none⟩,
      ⟨(some 5), .bin .neq (.t 4) (.k (.d (.lit (.int .i64 0)))), none⟩] [1, 5]) (
    .cond (.t 5) (
     .seq (
      .ops [
        ⟨(some 2), .mv (.k (.d (.lit (.int .i64 0)))), none⟩] [2]) (
      .ret)) (
     .skip))) (
   .seq (
    .ops [
      ⟨(some 6), .load 9 true (.t 1), none⟩,
      ⟨(some 7), .call 28 [.t 6, .k (.fn 41 [])], none⟩,
      ⟨(some 2), .mv (.t 7), none⟩] [2]) (
    .ret)))
def rs18 : List RV := [.t 2 false]
theorem k18 : okFn G.tab Tryz.f18 1 c18 rs18 = true := by kernel_rfl

/-- testbench/tseq.Max$1 -/
def c41 : Cd :=
 .seq (
  .ops [
    ⟨(some 2), .box 27 (.t 0), none⟩,
    ⟨(some 4), .mv (.k (.d (.lit (.int .i64 0)))), none⟩] [1, 2]) (
  .seq (
   .ops [
     ⟨(some 5), .load 9 true (.t 2), none⟩,
     ⟨(some 6), .mv (.t 1), none⟩,
     ⟨(some 7), .fa 2 (.t 2), none⟩,
     ⟨(some 8), .load 1 false (.t 7), none⟩,
     ⟨(some 9), .call 37 [.t 5, .t 6, .t 8, .k (.fn 42 [])], none⟩,
     ⟨(some 4), .mv (.t 9), none⟩] [4]) (
   .ret))
def rs41 : List RV := [.t 4 false]
theorem k41 : okFn G.tab Tryz.f41 2 c41 rs41 = true := by kernel_rfl

/-- testbench/tseq.Max$1$1 -/
def c42 : Cd :=
 .seq (
  .ops [
    ⟨(some 2), .mv (.k (.d (.lit (.int .i64 0)))), none⟩] [0]) (
  .seq (
   .ops [
     ⟨(some 3), .mv (.t 0), none⟩,
     ⟨(some 4), .call 43 [.t 3], none⟩,
     ⟨(some 2), .mv (.t 4), none⟩] [2]) (
   .ret))
def rs42 : List RV := [.t 2 false]
theorem k42 : okFn G.tab Tryz.f42 1 c42 rs42 = true := by kernel_rfl

/-- testbench/tseq.length -/
def c37 : Cd :=
 .seq (
  .ops [
    ⟨(some 4), .box 27 (.t 0), none⟩,
    ⟨(some 8), .mv (.k (.d (.lit (.int .i64 0)))), none⟩] [1, 2, 3, 4]) (
  .seq (
   .seq (
    .ops [
      ⟨(some 9), .fa 0 (.t 4), none⟩,
      ⟨(some 10), .load 1 false (.t 9), none⟩] [1, 2, 3, 10]) (
    .block 0 (
     .seq (
      .ops [
        ⟨(some 12), .bin .eql (.t 10) (.k (.d (.lit (.int .i64 2)))), none⟩,
        ⟨(some 11), .mv (.t 12), none⟩] [1, 2, 3, 10, 11]) (
      .cond (.t 11) (
       .seq (
        .draw [
          ⟨(some 13), .mv (.t 1), none⟩,
          ⟨(some 14), .ia 1 (.t 13) (.k (.d (.lit (.int .i64 0)))), none⟩,
          ⟨(some 15), .load 1 false (.t 14), none⟩,
          ⟨(some 16), .mv (.t 1), none⟩,
          ⟨(some 17), .ia 1 (.t 16) (.k (.d (.lit (.int .i64 1)))), none⟩,
          ⟨(some 18), .load 1 false (.t 17), none⟩,
          ⟨(some 19), .bin .add (.t 15) (.t 18), none⟩,
          ⟨(some 20), .mv (.t 2), none⟩,
          ⟨(some 21), .bin .add (.t 19) (.t 20), none⟩,
          ⟨(some 22), .bin .sub (.t 21) (.k (.d (.lit (.int .i64 1)))), none⟩,
          ⟨(some 8), .mv (.t 22), none⟩] [8]) (
        .ret)) (
       .seq (
        .ops [
          ⟨(some 24), .bin .eql (.t 10) (.k (.d (.lit (.int .i64 3)))), none⟩,
          ⟨(some 23), .mv (.t 24), none⟩] [1, 2, 3, 10, 23]) (
        .cond (.t 23) (
         .seq (
          .ops [
            ⟨(some 25), .mv (.t 1), none⟩,
            ⟨(some 26), .ia 1 (.t 25) (.k (.d (.lit (.int .i64 0)))), none⟩,
            ⟨(some 27), .load 1 false (.t 26), none⟩,
            ⟨(some 28), .mv (.t 2), none⟩,
            ⟨(some 29), .bin .mul (.t 27) (.t 28), none⟩,
            ⟨(some 8), .mv (.t 29), none⟩] [8]) (
          .ret)) (
         .seq (
          .ops [
            ⟨(some 31), .bin .eql (.t 10) (.k (.d (.lit (.int .i64 4)))), none⟩,
            ⟨(some 30), .mv (.t 31), none⟩] [1, 3, 10, 30]) (
          .cond (.t 30) (
           .seq (
            .ops [
              ⟨(some 32), .mv (.t 3), none⟩,
              ⟨(some 33), .mv (.t 1), none⟩,
              ⟨(some 34), .callv (.t 32) [.t 33], none⟩,
              ⟨(some 8), .mv (.t 34), none⟩] [8]) (
            .ret)) (
           .seq (
            .ops [
              ⟨(some 36), .bin .eql (.t 10) (.k (.d (.lit (.int .i64 5)))), none⟩,
              ⟨(some 35), .mv (.t 36), none⟩] [1, 10, 35]) (
            .cond (.t 35) (
             .seq (
              .ops [
                ⟨(some 37), .mv (.t 1), none⟩,
                ⟨(some 38), .call 43 [.t 37], none⟩,
                ⟨(some 8), .mv (.t 38), none⟩] [8]) (
              .ret)) (
             .seq (
              .seq (
               .ops [
                 ⟨(some 40), .bin .eql (.t 10) (.k (.d (.lit (.int .i64 6)))), none⟩,
                 ⟨(some 39), .mv (.t 40), none⟩] [1, 10, 39]) (
               .cond (.t 39) (
                .skip) (
                .ops [
                  ⟨(some 41), .bin .eql (.t 10) (.k (.d (.lit (.int .i64 7)))), none⟩,
                  ⟨(some 39), .mv (.t 41), none⟩] [1, 39]))) (
              .cond (.t 39) (
               .seq (
                .ops [
                  ⟨(some 42), .mv (.t 1), none⟩,
                  ⟨(some 43), .ia 1 (.t 42) (.k (.d (.lit (.int .i64 0)))), none⟩,
                  ⟨(some 44), .load 1 false (.t 43), none⟩,
                  ⟨(some 8), .mv (.t 44), none⟩] [8]) (
                .ret)) (
               .skip))))))))))))) (
   .seq (
    .ops [
      ⟨(some 8), .mv (.k (.d (.lit (.int .i64 1)))), none⟩] [8]) (
    .ret)))
def rs37 : List RV := [.t 8 false]
theorem k37 : okFn G.tab Tryz.f37 4 c37 rs37 = true := by kernel_rfl

/-- testbench/tseq.depth -/
def c23 : Cd :=
 .seq (
  .ops [
    ⟨(some 1), .box 27 (.t 0), none⟩,
    ⟨(some 2), .mv (.k (.d (.lit (.int .i64 0)))), none⟩] [1]) (
  .seq (
   .ops [
     ⟨(some 3), .load 9 true (.t 1), none⟩,
     ⟨(some 4), .call 28 [.t 3, .k (.fn 48 [])], none⟩,
     ⟨(some 2), .mv (.t 4), none⟩] [2]) (
   .ret))
def rs23 : List RV := [.t 2 false]
theorem k23 : okFn G.tab Tryz.f23 1 c23 rs23 = true := by kernel_rfl

/-- testbench/tseq.depth$1 -/
def c48 : Cd :=
 .seq (
  .ops [
    ⟨(some 2), .box 27 (.t 0), none⟩,
    ⟨(some 4), .mv (.k (.d (.lit (.int .i64 0)))), none⟩] [1]) (
  .seq (
   .ops [
     ⟨(some 5), .mvo 1, none⟩,
     ⟨(some 6), .mks 3 1 [.k (.d (.lit (.int .i64 0)))], none⟩,
     ⟨(some 7), .app 3 1 8 5 (.t 6), none⟩,
     ⟨(some 8), .call 43 [.t 7], none⟩,
     ⟨(some 9), .bin .add (.k (.d (.lit (.int .i64 1)))) (.t 8), none⟩,
     ⟨(some 4), .mv (.t 9), none⟩] [4]) (
   .ret))
def rs48 : List RV := [.t 4 false]
theorem k48 : okFn G.tab Tryz.f48 2 c48 rs48 = true := by kernel_rfl

/-- testbench/tseq.check -/
def c24 : Cd :=
 .seq (
  .ops [
    ⟨(some 2), .box 27 (.t 0), none⟩,
    ⟨(some 4), .mv (.k (.d (.lit (.int .i64 0)))), none⟩] [1, 2]) (
  .seq (
   .seq (
    .ops [
      ⟨(some 9), .load 9 true (.t 2), none⟩,
      ⟨(some 10), .mv (.t 1), none⟩,
      ⟨(some 11), .call 49 [.t 9, .t 10], none⟩,
      ⟨(some 5), .mv (.t 11), none⟩] [1, 2, 5]) (
    .seq (
     .ops [
       ⟨(some 12), .mv (.t 5), none⟩,
       ⟨(some 13), .bin .neq (.t 12) (.k (.d (.lit (.int .i64 0)))), none⟩] [1, 2, 5, 13]) (
     .cond (.t 13) (
      .seq (
       .ops [
         ⟨(some 14), .mv (.t 5), none⟩,
         ⟨(some 4), .mv (.t 14), none⟩] [4]) (
       .ret)) (
      .skip)))) (
   .seq (
    .seq (
     .ops [
       ⟨(some 15), .fa 8 (.t 2), none⟩,
       ⟨(some 16), .load 1 false (.t 15), none⟩,
       ⟨(some 17), .len false (.t 16), none⟩,
       ⟨(some 18), .mv (.k (.d (.lit (.int .i64 0)))), none⟩] [1, 2, 16, 17, 18]) (
     .block 0 (
      .loop (
       .seq (
        .ops [
          ⟨(some 19), .bin .lss (.t 18) (.t 17), none⟩] [1, 2, 16, 17, 18, 19]) (
        .seq (
         .cond (.t 19) (
          .skip) (
          .exit 0)) (
         .seq (
          .block 1 (
           .seq (
            .ops [
              ⟨(some 20), .ia 9 (.t 16) (.t 18), none⟩,
              ⟨(some 21), .load 9 true (.t 20), none⟩,
              ⟨(some 7), .new 27 [.d (.lit (.int .i64 0)), .d (.lit (.int .i64 0)), .d (.lit (.int .i64 0)), .d (.lit (.int .i64 0)), .d (.lit (.int .i64 0)), .d (.lit (.string ⟨#[]⟩)), .nil, .d (.lit (.string ⟨#[]⟩)), .nil], none⟩,
              ⟨none, .sto 9 (.t 7) (.t 21), none⟩] [1, 2, 7, 16, 17, 18]) (
            .seq (
             .ops [
               ⟨(some 22), .load 9 true (.t 7), none⟩,
               ⟨(some 23), .mv (.t 1), none⟩,
               ⟨(some 24), .mv (.t 23), none⟩,
               ⟨(some 25), .fa 0 (.t 2), (some (24, false))⟩,
               ⟨(some 26), .load 1 false (.t 25), (some (24, false))⟩,
               ⟨(some 27), .bin .eql (.t 26) (.k (.d (.lit (.int .i64 5)))), (some (24, false))⟩,
               ⟨(some 28), .pick (.t 24) (.k (.d (.lit (.bool true)))) (.t 27), none⟩,
               ⟨(some 29), .call 24 [.t 22, .t 28], none⟩,
               ⟨(some 8), .mv (.t 29), none⟩] [1, 2, 8, 16, 17, 18]) (
             .seq (
              .ops [
                ⟨(some 30), .mv (.t 8), none⟩,
                ⟨(some 31), .bin .neq (.t 30) (.k (.d (.lit (.int .i64 0)))), none⟩] [1, 2, 8, 16, 17, 18, 31]) (
              .cond (.t 31) (
               .seq (
                .ops [
                  ⟨(some 32), .mv (.t 8), none⟩,
                  ⟨(some 4), .mv (.t 32), none⟩] [4]) (
                .ret)) (
               .skip)))))) (
          .ops [
            ⟨(some 33), .bin .add (.t 18) (.k (.d (.lit (.int .i64 1)))), none⟩,
            ⟨(some 18), .mv (.t 33), none⟩] [1, 2, 16, 17, 18]))))))) (
    .seq (
     .ops [
       ⟨(some 4), .mv (.k (.d (.lit (.int .i64 0)))), none⟩] [4]) (
     .ret))))
def rs24 : List RV := [.t 4 false]
theorem k24 : okFn G.tab Tryz.f24 2 c24 rs24 = true := by kernel_rfl

/-- testbench/tseq.node -/
def c49 : Cd :=
 .seq (
  .ops [
    ⟨(some 2), .box 27 (.t 0), none⟩,
    ⟨(some 4), .mv (.k (.d (.lit (.int .i64 0)))), none⟩] [1, 2]) (
  .seq (
   .seq (
    .ops [
      ⟨(some 7), .load 9 true (.t 2), none⟩,
      ⟨(some 8), .call 66 [.t 7], none⟩,
      ⟨(some 9), .un .not (.t 8), none⟩,
      ⟨(some 10), .mv (.t 9), none⟩,
      ⟨(some 11), .fa 0 (.t 2), (some (10, false))⟩,
      ⟨(some 12), .load 1 false (.t 11), (some (10, false))⟩,
      ⟨(some 13), .call 67 [.t 12], (some (10, false))⟩,
      ⟨(some 14), .un .not (.t 13), (some (10, false))⟩,
      ⟨(some 15), .mv (.t 14), (some (10, false))⟩,
      ⟨(some 16), .fa 3 (.t 2), (some (15, true))⟩,
      ⟨(some 17), .load 4 true (.t 16), (some (15, true))⟩,
      ⟨(some 18), .call 68 [.t 17], (some (15, true))⟩,
      ⟨(some 19), .un .not (.t 18), (some (15, true))⟩,
      ⟨(some 20), .pick (.t 15) (.t 19) (.k (.d (.lit (.bool false)))), (some (10, false))⟩,
      ⟨(some 21), .pick (.t 10) (.k (.d (.lit (.bool true)))) (.t 20), none⟩,
      ⟨(some 22), .mv (.t 21), none⟩,
      ⟨(some 23), .fa 0 (.t 2), (some (22, false))⟩,
      ⟨(some 24), .load 1 false (.t 23), (some (22, false))⟩,
      ⟨(some 25), .bin .neq (.t 24) (.k (.d (.lit (.int .i64 6)))), (some (22, false))⟩,
      ⟨(some 26), .mv (.t 25), (some (22, false))⟩,
      ⟨(some 27), .fa 7 (.t 2), (some (26, true))⟩,
      ⟨(some 28), .load 1 false (.t 27), (some (26, true))⟩,
      ⟨(some 29), .bin .neq (.t 28) (.k (.d (.lit (.string ⟨#[]⟩)))), (some (26, true))⟩,
      ⟨(some 30), .pick (.t 26) (.t 29) (.k (.d (.lit (.bool false)))), (some (22, false))⟩,
      ⟨(some 31), .pick (.t 22) (.k (.d (.lit (.bool true)))) (.t 30), none⟩] [1, 2, 31]) (
    .cond (.t 31) (
     .seq (
      .ops [
        ⟨(some 4), .mv (.k (.d (.lit (.int .i64 1)))), none⟩] [4]) (
      .ret)) (
     .skip))) (
   .seq (
    .seq (
     .ops [
       ⟨(some 32), .fa 0 (.t 2), none⟩,
       ⟨(some 33), .load 1 false (.t 32), none⟩,
       ⟨(some 34), .bin .eql (.t 33) (.k (.d (.lit (.int .i64 6)))), none⟩,
       ⟨(some 35), .mv (.t 34), none⟩,
       ⟨(some 36), .fa 7 (.t 2), (some (35, true))⟩,
       ⟨(some 37), .load 1 false (.t 36), (some (35, true))⟩,
       ⟨(some 38), .call 44 [.t 37], (some (35, true))⟩,
       ⟨(some 39), .un .not (.t 38), (some (35, true))⟩,
       ⟨(some 40), .pick (.t 35) (.t 39) (.k (.d (.lit (.bool false)))), none⟩] [1, 2, 40]) (
     .cond (.t 40) (
      .seq (
       .ops [
         ⟨(some 4), .mv (.k (.d (.lit (.int .i64 7)))), none⟩] [4]) (
       .ret)) (
      .skip))) (
    .seq (
     .seq (
      .ops [
        ⟨(some 41), .fa 0 (.t 2), none⟩,
        ⟨(some 42), .load 1 false (.t 41), none⟩,
        ⟨(some 43), .call 67 [.t 42], none⟩] [1, 2, 43]) (
      .cond (.t 43) (
       .seq (
        .ops [
          ⟨(some 44), .fa 3 (.t 2), none⟩,
          ⟨(some 45), .load 4 true (.t 44), none⟩,
          ⟨(some 46), .call 69 [.t 45], none⟩,
          ⟨(some 5), .mv (.t 46), none⟩] [1, 2, 5]) (
        .seq (
         .ops [
           ⟨(some 47), .mv (.t 5), none⟩,
           ⟨(some 48), .bin .neq (.t 47) (.k (.d (.lit (.int .i64 0)))), none⟩] [1, 2, 5, 48]) (
         .cond (.t 48) (
          .seq (
           .ops [
             ⟨(some 49), .mv (.t 5), none⟩,
             ⟨(some 4), .mv (.t 49), none⟩] [4]) (
           .ret)) (
          .skip)))) (
       .skip))) (
     .seq (
      .seq (
       .ops [
         ⟨(some 50), .fa 0 (.t 2), none⟩,
         ⟨(some 51), .load 1 false (.t 50), none⟩,
         ⟨(some 52), .bin .eql (.t 51) (.k (.d (.lit (.int .i64 6)))), none⟩,
         ⟨(some 53), .mv (.t 52), none⟩,
         ⟨(some 54), .mv (.t 1), (some (53, true))⟩,
         ⟨(some 55), .pick (.t 53) (.t 54) (.k (.d (.lit (.bool false)))), none⟩] [2, 55]) (
       .cond (.t 55) (
        .seq (
         .ops [
           ⟨(some 4), .mv (.k (.d (.lit (.int .i64 13)))), none⟩] [4]) (
         .ret)) (
        .skip))) (
      .seq (
       .seq (
        .ops [
          ⟨(some 56), .fa 0 (.t 2), none⟩,
          ⟨(some 57), .load 1 false (.t 56), none⟩,
          ⟨(some 58), .bin .eql (.t 57) (.k (.d (.lit (.int .i64 7)))), none⟩] [2, 58]) (
        .cond (.t 58) (
         .seq (
          .ops [
            ⟨(some 59), .fa 8 (.t 2), none⟩,
            ⟨(some 60), .load 1 false (.t 59), none⟩,
            ⟨(some 61), .ia 9 (.t 60) (.k (.d (.lit (.int .i64 0)))), none⟩,
            ⟨(some 62), .load 9 true (.t 61), none⟩,
            ⟨(some 63), .call 31 [.t 62], none⟩,
            ⟨(some 6), .new 34 [.nil], none⟩,
            ⟨none, .sto 1 (.t 6) (.t 63), none⟩] [2, 6]) (
          .seq (
           .ops [
             ⟨(some 64), .fa 3 (.t 2), none⟩,
             ⟨(some 65), .load 4 true (.t 64), none⟩,
             ⟨(some 66), .call 71 [.t 65], none⟩,
             ⟨(some 67), .mkfn 72 [.t 6], none⟩,
             ⟨(some 68), .call 70 [.t 66, .t 67], none⟩] [68]) (
           .cond (.t 68) (
            .seq (
             .ops [
               ⟨(some 4), .mv (.k (.d (.lit (.int .i64 13)))), none⟩] [4]) (
             .ret)) (
            .skip)))) (
         .skip))) (
       .seq (
        .ops [
          ⟨(some 4), .mv (.k (.d (.lit (.int .i64 0)))), none⟩] [4]) (
        .ret)))))))
def rs49 : List RV := [.t 4 false]
theorem k49 : okFn G.tab Tryz.f49 2 c49 rs49 = true := by kernel_rfl

/-- testbench/tseq.node$1 -/
def c72 : Cd :=
 .seq (
  .ops [
    ⟨(some 3), .mv (.k (.d (.lit (.bool false)))), none⟩] [0, 1]) (
  .seq (
   .ops [
     ⟨(some 4), .load 1 false (.t 1), none⟩,
     ⟨(some 5), .mv (.t 0), none⟩,
     ⟨(some 6), .call 73 [.t 4, .t 5], none⟩,
     ⟨(some 3), .mv (.t 6), none⟩] [3]) (
   .ret))
def rs72 : List RV := [.t 3 false]
theorem k72 : okFn G.tab Tryz.f72 2 c72 rs72 = true := by kernel_rfl

/-- testbench/tseq.shape -/
def c66 : Cd :=
 .seq (
  .ops [
    ⟨(some 1), .box 27 (.t 0), none⟩,
    ⟨(some 2), .mv (.k (.d (.lit (.bool false)))), none⟩] [1]) (
  .seq (
   .draw [
     ⟨(some 7), .fa 1 (.t 1), none⟩,
     ⟨(some 8), .load 1 false (.t 7), none⟩,
     ⟨(some 9), .bin .eql (.t 8) (.k (.d (.lit (.int .i64 0)))), none⟩,
     ⟨(some 10), .mv (.t 9), none⟩,
     ⟨(some 11), .fa 2 (.t 1), (some (10, true))⟩,
     ⟨(some 12), .load 1 false (.t 11), (some (10, true))⟩,
     ⟨(some 13), .bin .eql (.t 12) (.k (.d (.lit (.int .i64 0)))), (some (10, true))⟩,
     ⟨(some 14), .pick (.t 10) (.t 13) (.k (.d (.lit (.bool false)))), none⟩,
     ⟨(some 3), .mv (.k (.d (.lit (.int .i64 1)))), none⟩,
     ⟨(some 4), .mv (.k (.d (.lit (.int .i64 1)))), none⟩,
     ⟨(some 5), .mv (.t 14), none⟩] [1, 3, 4, 5]) (
   .seq (
    .ops [
      ⟨(some 15), .fa 1 (.t 1), none⟩,
      ⟨(some 16), .load 1 false (.t 15), none⟩,
      ⟨(some 17), .fa 2 (.t 1), none⟩,
      ⟨(some 18), .load 1 false (.t 17), none⟩,
      ⟨(some 19), .bin .leq (.t 16) (.t 18), none⟩,
      ⟨(some 20), .mv (.t 19), none⟩,
      ⟨(some 21), .fa 2 (.t 1), (some (20, true))⟩,
      ⟨(some 22), .load 1 false (.t 21), (some (20, true))⟩,
      ⟨(some 23), .bin .leq (.t 22) (.k (.d (.lit (.int .i64 16)))), (some (20, true))⟩,
      ⟨(some 24), .pick (.t 20) (.t 23) (.k (.d (.lit (.bool false)))), none⟩,
      ⟨(some 6), .mv (.t 24), none⟩] [1, 3, 4, 5, 6]) (
    .seq (
     .seq (
      .ops [
        ⟨(some 25), .fa 0 (.t 1), none⟩,
        ⟨(some 26), .load 1 false (.t 25), none⟩] [1, 3, 4, 5, 6, 26]) (
      .block 0 (
       .seq (
        .ops [
          ⟨(some 28), .bin .eql (.t 26) (.k (.d (.lit (.int .i64 1)))), none⟩,
          ⟨(some 27), .mv (.t 28), none⟩] [1, 3, 4, 5, 6, 26, 27]) (
        .cond (.t 27) (
         .ops [
           ⟨(some 3), .mv (.k (.d (.lit (.int .i64 0)))), none⟩,
           ⟨(some 4), .mv (.k (.d (.lit (.int .i64 0)))), none⟩] [1, 3, 4, 5]) (
         .seq (
          .ops [
            ⟨(some 30), .bin .eql (.t 26) (.k (.d (.lit (.int .i64 2)))), none⟩,
            ⟨(some 29), .mv (.t 30), none⟩] [1, 3, 4, 5, 6, 26, 29]) (
          .cond (.t 29) (
           .ops [
             ⟨(some 31), .fa 1 (.t 1), none⟩,
             ⟨(some 32), .load 1 false (.t 31), none⟩,
             ⟨(some 33), .bin .geq (.t 32) (.k (.d (.lit (.int .i64 0)))), none⟩,
             ⟨(some 34), .mv (.t 33), none⟩,
             ⟨(some 35), .mv (.t 6), (some (34, true))⟩,
             ⟨(some 36), .pick (.t 34) (.t 35) (.k (.d (.lit (.bool false)))), none⟩,
             ⟨(some 3), .mv (.k (.d (.lit (.int .i64 2)))), none⟩,
             ⟨(some 4), .mv (.k (.d (.lit (.int .i64 2)))), none⟩,
             ⟨(some 5), .mv (.t 36), none⟩] [1, 3, 4, 5]) (
           .seq (
            .ops [
              ⟨(some 38), .bin .eql (.t 26) (.k (.d (.lit (.int .i64 3)))), none⟩,
              ⟨(some 37), .mv (.t 38), none⟩] [1, 3, 4, 5, 6, 26, 37]) (
            .cond (.t 37) (
             .ops [
               ⟨(some 39), .fa 1 (.t 1), none⟩,
               ⟨(some 40), .load 1 false (.t 39), none⟩,
               ⟨(some 41), .bin .geq (.t 40) (.k (.d (.lit (.int .i64 1)))), none⟩,
               ⟨(some 42), .mv (.t 41), none⟩,
               ⟨(some 43), .mv (.t 6), (some (42, true))⟩,
               ⟨(some 44), .pick (.t 42) (.t 43) (.k (.d (.lit (.bool false)))), none⟩,
               ⟨(some 5), .mv (.t 44), none⟩] [1, 3, 4, 5]) (
             .seq (
              .seq (
               .ops [
                 ⟨(some 46), .bin .eql (.t 26) (.k (.d (.lit (.int .i64 4)))), none⟩,
                 ⟨(some 45), .mv (.t 46), none⟩] [1, 3, 4, 5, 26, 45]) (
               .cond (.t 45) (
                .skip) (
                .ops [
                  ⟨(some 47), .bin .eql (.t 26) (.k (.d (.lit (.int .i64 5)))), none⟩,
                  ⟨(some 45), .mv (.t 47), none⟩] [1, 3, 4, 5, 26, 45]))) (
              .cond (.t 45) (
               .ops [
                 ⟨(some 3), .mv (.k (.d (.lit (.int .i64 2)))), none⟩,
                 ⟨(some 4), .mv (.k (.d (.lit (.int .i64 8)))), none⟩] [1, 3, 4, 5]) (
               .seq (
                .seq (
                 .ops [
                   ⟨(some 49), .bin .eql (.t 26) (.k (.d (.lit (.int .i64 6)))), none⟩,
                   ⟨(some 48), .mv (.t 49), none⟩] [1, 3, 4, 5, 26, 48]) (
                 .cond (.t 48) (
                  .skip) (
                  .ops [
                    ⟨(some 50), .bin .eql (.t 26) (.k (.d (.lit (.int .i64 7)))), none⟩,
                    ⟨(some 48), .mv (.t 50), none⟩] [1, 3, 4, 5, 48]))) (
                .cond (.t 48) (
                 .skip) (
                 .seq (
                  .ops [
                    ⟨(some 2), .mv (.k (.d (.lit (.bool false)))), none⟩] [2]) (
                  .ret)))))))))))))) (
     .seq (
      .ops [
        ⟨(some 51), .fa 8 (.t 1), none⟩,
        ⟨(some 52), .load 1 false (.t 51), none⟩,
        ⟨(some 53), .len false (.t 52), none⟩,
        ⟨(some 54), .mv (.t 3), none⟩,
        ⟨(some 55), .bin .geq (.t 53) (.t 54), none⟩,
        ⟨(some 56), .mv (.t 55), none⟩,
        ⟨(some 57), .fa 8 (.t 1), (some (56, true))⟩,
        ⟨(some 58), .load 1 false (.t 57), (some (56, true))⟩,
        ⟨(some 59), .len false (.t 58), (some (56, true))⟩,
        ⟨(some 60), .mv (.t 4), (some (56, true))⟩,
        ⟨(some 61), .bin .leq (.t 59) (.t 60), (some (56, true))⟩,
        ⟨(some 62), .pick (.t 56) (.t 61) (.k (.d (.lit (.bool false)))), none⟩,
        ⟨(some 63), .mv (.t 62), none⟩,
        ⟨(some 64), .mv (.t 5), (some (63, true))⟩,
        ⟨(some 65), .pick (.t 63) (.t 64) (.k (.d (.lit (.bool false)))), none⟩,
        ⟨(some 2), .mv (.t 65), none⟩] [2]) (
      .ret)))))
def rs66 : List RV := [.t 2 false]
theorem k66 : okFn G.tab Tryz.f66 1 c66 rs66 = true := by kernel_rfl

/-- testbench/tseq.written -/
def c67 : Cd :=
 .seq (
  .ops [
    ⟨(some 2), .mv (.k (.d (.lit (.bool false)))), none⟩] [0]) (
  .seq (
   .ops [
     ⟨(some 3), .mv (.t 0), none⟩,
     ⟨(some 4), .bin .eql (.t 3) (.k (.d (.lit (.int .i64 1)))), none⟩,
     ⟨(some 5), .mv (.t 4), none⟩,
     ⟨(some 6), .mv (.t 0), (some (5, false))⟩,
     ⟨(some 7), .bin .eql (.t 6) (.k (.d (.lit (.int .i64 6)))), (some (5, false))⟩,
     ⟨(some 8), .pick (.t 5) (.k (.d (.lit (.bool true)))) (.t 7), none⟩,
     ⟨(some 9), .mv (.t 8), none⟩,
     ⟨(some 10), .mv (.t 0), (some (9, false))⟩,
     ⟨(some 11), .bin .eql (.t 10) (.k (.d (.lit (.int .i64 7)))), (some (9, false))⟩,
     ⟨(some 12), .pick (.t 9) (.k (.d (.lit (.bool true)))) (.t 11), none⟩,
     ⟨(some 2), .mv (.t 12), none⟩] [2]) (
   .ret))
def rs67 : List RV := [.t 2 false]
theorem k67 : okFn G.tab Tryz.f67 1 c67 rs67 = true := by kernel_rfl

/-- testbench/tseq.zero -/
def c68 : Cd :=
 .seq (
  .ops [
    ⟨(some 1), .box 24 (.t 0), none⟩,
    ⟨(some 2), .mv (.k (.d (.lit (.bool false)))), none⟩] [1]) (
  .seq (
   .ops [
     ⟨(some 3), .fa 0 (.t 1), none⟩,
     ⟨(some 4), .load 1 false (.t 3), none⟩,
     ⟨(some 5), .bin .eql (.t 4) (.k (.d (.lit (.int .i64 0)))), none⟩,
     ⟨(some 6), .mv (.t 5), none⟩,
     ⟨(some 7), .fa 1 (.t 1), (some (6, true))⟩,
     ⟨(some 8), .load 1 false (.t 7), (some (6, true))⟩,
     ⟨(some 9), .bin .eql (.t 8) (.k (.d (.lit (.int .i64 0)))), (some (6, true))⟩,
     ⟨(some 10), .pick (.t 6) (.t 9) (.k (.d (.lit (.bool false)))), none⟩,
     ⟨(some 11), .mv (.t 10), none⟩,
     ⟨(some 12), .fa 2 (.t 1), (some (11, true))⟩,
     ⟨(some 13), .load 1 false (.t 12), (some (11, true))⟩,
     ⟨(some 14), .bin .eql (.t 13) (.k (.d (.lit (.string ⟨#[]⟩)))), (some (11, true))⟩,
     ⟨(some 15), .pick (.t 11) (.t 14) (.k (.d (.lit (.bool false)))), none⟩,
     ⟨(some 16), .mv (.t 15), none⟩,
     ⟨(some 17), .fa 3 (.t 1), (some (16, true))⟩,
     ⟨(some 18), .load 1 false (.t 17), (some (16, true))⟩,
     ⟨(some 19), .len false (.t 18), (some (16, true))⟩,
     ⟨(some 20), .bin .eql (.t 19) (.k (.d (.lit (.int .i64 0)))), (some (16, true))⟩,
     ⟨(some 21), .pick (.t 16) (.t 20) (.k (.d (.lit (.bool false)))), none⟩,
     ⟨(some 2), .mv (.t 21), none⟩] [2]) (
   .ret))
def rs68 : List RV := [.t 2 false]
theorem k68 : okFn G.tab Tryz.f68 1 c68 rs68 = true := by kernel_rfl

/-- testbench/tseq.Same -/
def c45 : Cd :=
 .seq (
  .ops [
    ⟨(some 2), .box 27 (.t 0), none⟩,
    ⟨(some 3), .box 27 (.t 1), none⟩,
    ⟨(some 4), .mv (.k (.d (.lit (.bool false)))), none⟩] [2, 3]) (
  .seq (
   .ops [
     ⟨(some 5), .fa 0 (.t 2), none⟩,
     ⟨(some 6), .load 1 false (.t 5), none⟩,
     ⟨(some 7), .fa 0 (.t 3), none⟩,
     ⟨(some 8), .load 1 false (.t 7), none⟩,
     ⟨(some 9), .bin .eql (.t 6) (.t 8), none⟩,
     ⟨(some 10), .mv (.t 9), none⟩,
     ⟨(some 11), .fa 1 (.t 2), (some (10, true))⟩,
     ⟨(some 12), .load 1 false (.t 11), (some (10, true))⟩,
     ⟨(some 13), .fa 1 (.t 3), (some (10, true))⟩,
     ⟨(some 14), .load 1 false (.t 13), (some (10, true))⟩,
     ⟨(some 15), .bin .eql (.t 12) (.t 14), (some (10, true))⟩,
     ⟨(some 16), .pick (.t 10) (.t 15) (.k (.d (.lit (.bool false)))), none⟩,
     ⟨(some 17), .mv (.t 16), none⟩,
     ⟨(some 18), .fa 2 (.t 2), (some (17, true))⟩,
     ⟨(some 19), .load 1 false (.t 18), (some (17, true))⟩,
     ⟨(some 20), .fa 2 (.t 3), (some (17, true))⟩,
     ⟨(some 21), .load 1 false (.t 20), (some (17, true))⟩,
     ⟨(some 22), .bin .eql (.t 19) (.t 21), (some (17, true))⟩,
     ⟨(some 23), .pick (.t 17) (.t 22) (.k (.d (.lit (.bool false)))), none⟩,
     ⟨(some 24), .mv (.t 23), none⟩,
     ⟨(some 25), .fa 7 (.t 2), (some (24, true))⟩,
     ⟨(some 26), .load 1 false (.t 25), (some (24, true))⟩,
     ⟨(some 27), .fa 7 (.t 3), (some (24, true))⟩,
     ⟨(some 28), .load 1 false (.t 27), (some (24, true))⟩,
     ⟨(some 29), .bin .eql (.t 26) (.t 28), (some (24, true))⟩,
     ⟨(some 30), .pick (.t 24) (.t 29) (.k (.d (.lit (.bool false)))), none⟩,
     ⟨(some 31), .mv (.t 30), none⟩,
     ⟨(some 32), .fa 3 (.t 2), (some (31, true))⟩,
     ⟨(some 33), .load 4 true (.t 32), (some (31, true))⟩,
     ⟨(some 34), .fa 3 (.t 3), (some (31, true))⟩,
     ⟨(some 35), .load 4 true (.t 34), (some (31, true))⟩,
     ⟨(some 36), .call 60 [.t 33, .t 35], (some (31, true))⟩,
     ⟨(some 37), .pick (.t 31) (.t 36) (.k (.d (.lit (.bool false)))), none⟩,
     ⟨(some 38), .mv (.t 37), none⟩,
     ⟨(some 39), .fa 8 (.t 2), (some (38, true))⟩,
     ⟨(some 40), .load 1 false (.t 39), (some (38, true))⟩,
     ⟨(some 41), .fa 8 (.t 3), (some (38, true))⟩,
     ⟨(some 42), .load 1 false (.t 41), (some (38, true))⟩,
     ⟨(some 43), .call 61 [.t 40, .t 42, .k (.fn 45 [])], (some (38, true))⟩,
     ⟨(some 44), .pick (.t 38) (.t 43) (.k (.d (.lit (.bool false)))), none⟩,
     ⟨(some 4), .mv (.t 44), none⟩] [4]) (
   .ret))
def rs45 : List RV := [.t 4 false]
theorem k45 : okFn G.tab Tryz.f45 2 c45 rs45 = true := by kernel_rfl

/-- testbench/testbenchref39.zero -/
def c65 : Cd :=
 .seq (
  .ops [
    ⟨(some 1), .box 24 (.t 0), none⟩,
    ⟨(some 2), .mv (.k (.d (.lit (.bool false)))), none⟩] [1]) (
  .seq (
   .ops [
     ⟨(some 3), .fa 0 (.t 1), none⟩,
     ⟨(some 4), .load 1 false (.t 3), none⟩,
     ⟨(some 5), .bin .eql (.t 4) (.k (.d (.lit (.int .i64 0)))), none⟩,
     ⟨(some 6), .mv (.t 5), none⟩,
     ⟨(some 7), .fa 1 (.t 1), (some (6, true))⟩,
     ⟨(some 8), .load 1 false (.t 7), (some (6, true))⟩,
     ⟨(some 9), .bin .eql (.t 8) (.k (.d (.lit (.int .i64 0)))), (some (6, true))⟩,
     ⟨(some 10), .pick (.t 6) (.t 9) (.k (.d (.lit (.bool false)))), none⟩,
     ⟨(some 11), .mv (.t 10), none⟩,
     ⟨(some 12), .fa 2 (.t 1), (some (11, true))⟩,
     ⟨(some 13), .load 1 false (.t 12), (some (11, true))⟩,
     ⟨(some 14), .bin .eql (.t 13) (.k (.d (.lit (.string ⟨#[]⟩)))), (some (11, true))⟩,
     ⟨(some 15), .pick (.t 11) (.t 14) (.k (.d (.lit (.bool false)))), none⟩,
     ⟨(some 16), .mv (.t 15), none⟩,
     ⟨(some 17), .fa 3 (.t 1), (some (16, true))⟩,
     ⟨(some 18), .load 1 false (.t 17), (some (16, true))⟩,
     ⟨(some 19), .len false (.t 18), (some (16, true))⟩,
     ⟨(some 20), .bin .eql (.t 19) (.k (.d (.lit (.int .i64 0)))), (some (16, true))⟩,
     ⟨(some 21), .pick (.t 16) (.t 20) (.k (.d (.lit (.bool false)))), none⟩,
     ⟨(some 2), .mv (.t 21), none⟩] [2]) (
   .ret))
def rs65 : List RV := [.t 2 false]
theorem k65 : okFn G.tab Tryz.f65 1 c65 rs65 = true := by kernel_rfl

/-- testbench/testbenchref39.empty -/
def c47 : Cd :=
 .seq (
  .ops [
    ⟨(some 1), .box 27 (.t 0), none⟩,
    ⟨(some 2), .mv (.k (.d (.lit (.bool false)))), none⟩] [1]) (
  .seq (
   .ops [
     ⟨(some 3), .fa 0 (.t 1), none⟩,
     ⟨(some 4), .load 1 false (.t 3), none⟩,
     ⟨(some 5), .bin .eql (.t 4) (.k (.d (.lit (.int .i64 0)))), none⟩,
     ⟨(some 6), .mv (.t 5), none⟩,
     ⟨(some 7), .fa 1 (.t 1), (some (6, true))⟩,
     ⟨(some 8), .load 1 false (.t 7), (some (6, true))⟩,
     ⟨(some 9), .bin .eql (.t 8) (.k (.d (.lit (.int .i64 0)))), (some (6, true))⟩,
     ⟨(some 10), .pick (.t 6) (.t 9) (.k (.d (.lit (.bool false)))), none⟩,
     ⟨(some 11), .mv (.t 10), none⟩,
     ⟨(some 12), .fa 2 (.t 1), (some (11, true))⟩,
     ⟨(some 13), .load 1 false (.t 12), (some (11, true))⟩,
     ⟨(some 14), .bin .eql (.t 13) (.k (.d (.lit (.int .i64 0)))), (some (11, true))⟩,
     ⟨(some 15), .pick (.t 11) (.t 14) (.k (.d (.lit (.bool false)))), none⟩,
     ⟨(some 16), .mv (.t 15), none⟩,
     ⟨(some 17), .fa 3 (.t 1), (some (16, true))⟩,
     ⟨(some 18), .load 4 true (.t 17), (some (16, true))⟩,
     ⟨(some 19), .call 65 [.t 18], (some (16, true))⟩,
     ⟨(some 20), .pick (.t 16) (.t 19) (.k (.d (.lit (.bool false)))), none⟩,
     ⟨(some 21), .mv (.t 20), none⟩,
     ⟨(some 22), .fa 7 (.t 1), (some (21, true))⟩,
     ⟨(some 23), .load 1 false (.t 22), (some (21, true))⟩,
     ⟨(some 24), .bin .eql (.t 23) (.k (.d (.lit (.string ⟨#[]⟩)))), (some (21, true))⟩,
     ⟨(some 25), .pick (.t 21) (.t 24) (.k (.d (.lit (.bool false)))), none⟩,
     ⟨(some 26), .mv (.t 25), none⟩,
     ⟨(some 27), .fa 8 (.t 1), (some (26, true))⟩,
     ⟨(some 28), .load 1 false (.t 27), (some (26, true))⟩,
     ⟨(some 29), .len false (.t 28), (some (26, true))⟩,
     ⟨(some 30), .bin .eql (.t 29) (.k (.d (.lit (.int .i64 0)))), (some (26, true))⟩,
     ⟨(some 31), .pick (.t 26) (.t 30) (.k (.d (.lit (.bool false)))), none⟩,
     ⟨(some 2), .mv (.t 31), none⟩] [2]) (
   .ret))
def rs47 : List RV := [.t 2 false]
theorem k47 : okFn G.tab Tryz.f47 1 c47 rs47 = true := by kernel_rfl

/-- testbench/testbenchref39.room -/
def c25 : Cd :=
 .seq (
  .ops [
    ⟨(some 3), .box 27 (.t 0), none⟩,
    ⟨(some 6), .mv (.k (.d (.lit (.int .i64 0)))), none⟩] [1, 2, 3]) (
  .seq (
   .seq (
    .ops [
      ⟨(some 8), .mv (.t 1), none⟩,
      ⟨(some 9), .bin .lss (.t 8) (.k (.d (.lit (.int .i64 1)))), none⟩,
      ⟨(some 10), .mv (.t 9), none⟩,
      ⟨(some 11), .mv (.t 2), (some (10, false))⟩,
      ⟨(some 12), .bin .lss (.t 11) (.k (.d (.lit (.int .i64 1)))), (some (10, false))⟩,
      ⟨(some 13), .pick (.t 10) (.k (.d (.lit (.bool true)))) (.t 12), none⟩] [1, 2, 3, 13]) (
    .cond (.t 13) (
     .seq (
      .ops [
        ⟨(some 6), .mv (.k (.d (.lit (.int .i64 (-1))))), none⟩] [6]) (
      .ret)) (
     .skip))) (
   .seq (
    .ops [
      ⟨(some 14), .mv (.t 1), none⟩,
      ⟨(some 15), .bin .sub (.t 14) (.k (.d (.lit (.int .i64 1)))), none⟩,
      ⟨(some 1), .mv (.t 15), none⟩] [1, 2, 3]) (
    .seq (
     .seq (
      .ops [
        ⟨(some 7), .mv (.k (.d (.lit (.int .i64 0)))), none⟩] [1, 2, 3, 7]) (
      .block 0 (
       .loop (
        .seq (
         .seq (
          .ops [
            ⟨(some 16), .mv (.t 7), none⟩,
            ⟨(some 17), .fa 8 (.t 3), none⟩,
            ⟨(some 18), .load 1 false (.t 17), none⟩,
            ⟨(some 19), .len false (.t 18), none⟩,
            ⟨(some 20), .bin .lss (.t 16) (.t 19), none⟩] [1, 2, 3, 7, 20]) (
          .cond (.t 20) (
           .skip) (
           .exit 0))) (
         .seq (
          .block 1 (
           .seq (
            .ops [
              ⟨(some 23), .fa 8 (.t 3), none⟩,
              ⟨(some 24), .load 1 false (.t 23), none⟩,
              ⟨(some 25), .mv (.t 7), none⟩,
              ⟨(some 26), .ia 9 (.t 24) (.t 25), none⟩,
              ⟨(some 27), .load 9 true (.t 26), none⟩,
              ⟨(some 28), .mv (.t 1), none⟩,
              ⟨(some 29), .mv (.t 2), none⟩,
              ⟨(some 30), .bin .sub (.t 29) (.k (.d (.lit (.int .i64 1)))), none⟩,
              ⟨(some 31), .call 25 [.t 27, .t 28, .t 30], none⟩,
              ⟨(some 1), .mv (.t 31), none⟩] [1, 2, 3, 7]) (
            .seq (
             .ops [
               ⟨(some 32), .mv (.t 1), none⟩,
               ⟨(some 33), .bin .lss (.t 32) (.k (.d (.lit (.int .i64 0)))), none⟩] [1, 2, 3, 7, 33]) (
             .cond (.t 33) (
              .seq (
               .ops [
                 ⟨(some 6), .mv (.k (.d (.lit (.int .i64 (-1))))), none⟩] [6]) (
               .ret)) (
              .skip))))) (
          .ops [
            ⟨(some 21), .mv (.t 7), none⟩,
            ⟨(some 22), .bin .add (.t 21) (.k (.d (.lit (.int .i64 1)))), none⟩,
            ⟨(some 7), .mv (.t 22), none⟩] [1, 2, 3, 7])))))) (
     .seq (
      .ops [
        ⟨(some 34), .mv (.t 1), none⟩,
        ⟨(some 6), .mv (.t 34), none⟩] [6]) (
      .ret)))))
def rs25 : List RV := [.t 6 false]
theorem k25 : okFn G.tab Tryz.f25 3 c25 rs25 = true := by kernel_rfl

/-- testbench/testbenchref39.Size -/
def c12 : Cd :=
 .seq (
  .ops [
    ⟨(some 1), .box 27 (.t 0), none⟩,
    ⟨(some 2), .mv (.k (.d (.lit (.int .i64 0)))), none⟩] [1]) (
  .seq (
   .ops [
     ⟨(some 3), .mv (.k (.d (.lit (.int .i64 1)))), none⟩] [1, 3]) (
   .seq (
    .seq (
     .ops [
       ⟨(some 4), .mv (.k (.d (.lit (.int .i64 0)))), none⟩] [1, 3, 4]) (
     .block 0 (
      .loop (
       .seq (
        .seq (
         .ops [
           ⟨(some 5), .mv (.t 4), none⟩,
           ⟨(some 6), .fa 8 (.t 1), none⟩,
           ⟨(some 7), .load 1 false (.t 6), none⟩,
           ⟨(some 8), .len false (.t 7), none⟩,
           ⟨(some 9), .bin .lss (.t 5) (.t 8), none⟩] [1, 3, 4, 9]) (
         .cond (.t 9) (
          .skip) (
          .exit 0))) (
        .seq (
         .block 1 (
          .ops [
            ⟨(some 12), .mv (.t 3), none⟩,
            ⟨(some 13), .fa 8 (.t 1), none⟩,
            ⟨(some 14), .load 1 false (.t 13), none⟩,
            ⟨(some 15), .mv (.t 4), none⟩,
            ⟨(some 16), .ia 9 (.t 14) (.t 15), none⟩,
            ⟨(some 17), .load 9 true (.t 16), none⟩,
            ⟨(some 18), .call 12 [.t 17], none⟩,
            ⟨(some 19), .bin .add (.t 12) (.t 18), none⟩,
            ⟨(some 3), .mv (.t 19), none⟩] [1, 3, 4])) (
         .ops [
           ⟨(some 10), .mv (.t 4), none⟩,
           ⟨(some 11), .bin .add (.t 10) (.k (.d (.lit (.int .i64 1)))), none⟩,
           ⟨(some 4), .mv (.t 11), none⟩] [1, 3, 4])))))) (
    .seq (
     .ops [
       ⟨(some 20), .mv (.t 3), none⟩,
       ⟨(some 2), .mv (.t 20), none⟩] [2]) (
     .ret))))
def rs12 : List RV := [.t 2 false]
theorem k12 : okFn G.tab Tryz.f12 1 c12 rs12 = true := by kernel_rfl

/-- testbench/testbenchref39.shaped -/
def c50 : Cd :=
 .seq (
  .ops [
    ⟨(some 1), .box 27 (.t 0), none⟩,
    ⟨(some 2), .mv (.k (.d (.lit (.bool false)))), none⟩] [1]) (
  .seq (
   .ops [
     ⟨(some 7), .fa 8 (.t 1), none⟩,
     ⟨(some 8), .load 1 false (.t 7), none⟩,
     ⟨(some 9), .len false (.t 8), none⟩,
     ⟨(some 3), .mv (.t 9), none⟩] [1, 3]) (
   .seq (
    .ops [
      ⟨(some 10), .fa 1 (.t 1), none⟩,
      ⟨(some 11), .load 1 false (.t 10), none⟩,
      ⟨(some 12), .bin .geq (.t 11) (.k (.d (.lit (.int .i64 0)))), none⟩,
      ⟨(some 13), .mv (.t 12), none⟩,
      ⟨(some 14), .fa 1 (.t 1), (some (13, true))⟩,
      ⟨(some 15), .load 1 false (.t 14), (some (13, true))⟩,
      ⟨(some 16), .fa 2 (.t 1), (some (13, true))⟩,
      ⟨(some 17), .load 1 false (.t 16), (some (13, true))⟩,
      ⟨(some 18), .bin .leq (.t 15) (.t 17), (some (13, true))⟩,
      ⟨(some 19), .pick (.t 13) (.t 18) (.k (.d (.lit (.bool false)))), none⟩,
      ⟨(some 20), .mv (.t 19), none⟩,
      ⟨(some 21), .fa 2 (.t 1), (some (20, true))⟩,
      ⟨(some 22), .load 1 false (.t 21), (some (20, true))⟩,
      ⟨(some 23), .bin .leq (.t 22) (.k (.d (.lit (.int .i64 16)))), (some (20, true))⟩,
      ⟨(some 24), .pick (.t 20) (.t 23) (.k (.d (.lit (.bool false)))), none⟩,
      ⟨(some 4), .mv (.t 24), none⟩] [1, 3, 4]) (
    .seq (
     .ops [
       ⟨(some 25), .fa 1 (.t 1), none⟩,
       ⟨(some 26), .load 1 false (.t 25), none⟩,
       ⟨(some 27), .bin .eql (.t 26) (.k (.d (.lit (.int .i64 0)))), none⟩,
       ⟨(some 28), .mv (.t 27), none⟩,
       ⟨(some 29), .fa 2 (.t 1), (some (28, true))⟩,
       ⟨(some 30), .load 1 false (.t 29), (some (28, true))⟩,
       ⟨(some 31), .bin .eql (.t 30) (.k (.d (.lit (.int .i64 0)))), (some (28, true))⟩,
       ⟨(some 32), .pick (.t 28) (.t 31) (.k (.d (.lit (.bool false)))), none⟩,
       ⟨(some 5), .mv (.t 32), none⟩] [1, 3, 4, 5]) (
     .seq (
      .ops [
        ⟨(some 33), .fa 3 (.t 1), none⟩,
        ⟨(some 34), .load 4 true (.t 33), none⟩,
        ⟨(some 35), .call 65 [.t 34], none⟩,
        ⟨(some 36), .mv (.t 35), none⟩,
        ⟨(some 37), .fa 7 (.t 1), (some (36, true))⟩,
        ⟨(some 38), .load 1 false (.t 37), (some (36, true))⟩,
        ⟨(some 39), .bin .eql (.t 38) (.k (.d (.lit (.string ⟨#[]⟩)))), (some (36, true))⟩,
        ⟨(some 40), .pick (.t 36) (.t 39) (.k (.d (.lit (.bool false)))), none⟩,
        ⟨(some 6), .mv (.t 40), none⟩] [1, 3, 4, 5, 6]) (
      .seq (
       .seq (
        .ops [
          ⟨(some 41), .fa 0 (.t 1), none⟩,
          ⟨(some 42), .load 1 false (.t 41), none⟩] [1, 3, 4, 5, 6, 42]) (
        .block 0 (
         .seq (
          .ops [
            ⟨(some 44), .bin .eql (.t 42) (.k (.d (.lit (.int .i64 1)))), none⟩,
            ⟨(some 43), .mv (.t 44), none⟩] [1, 3, 4, 5, 6, 42, 43]) (
          .cond (.t 43) (
           .seq (
            .ops [
              ⟨(some 45), .mv (.t 3), none⟩,
              ⟨(some 46), .bin .eql (.t 45) (.k (.d (.lit (.int .i64 0)))), none⟩,
              ⟨(some 47), .mv (.t 46), none⟩,
              ⟨(some 48), .mv (.t 5), (some (47, true))⟩,
              ⟨(some 49), .pick (.t 47) (.t 48) (.k (.d (.lit (.bool false)))), none⟩,
              ⟨(some 50), .mv (.t 49), none⟩,
              ⟨(some 51), .fa 7 (.t 1), (some (50, true))⟩,
              ⟨(some 52), .load 1 false (.t 51), (some (50, true))⟩,
              ⟨(some 53), .bin .eql (.t 52) (.k (.d (.lit (.string ⟨#[]⟩)))), (some (50, true))⟩,
              ⟨(some 54), .pick (.t 50) (.t 53) (.k (.d (.lit (.bool false)))), none⟩,
              ⟨(some 2), .mv (.t 54), none⟩] [2]) (
            .ret)) (
           .seq (
            .ops [
              ⟨(some 56), .bin .eql (.t 42) (.k (.d (.lit (.int .i64 2)))), none⟩,
              ⟨(some 55), .mv (.t 56), none⟩] [1, 3, 4, 5, 6, 42, 55]) (
            .cond (.t 55) (
             .seq (
              .ops [
                ⟨(some 57), .mv (.t 3), none⟩,
                ⟨(some 58), .bin .eql (.t 57) (.k (.d (.lit (.int .i64 2)))), none⟩,
                ⟨(some 59), .mv (.t 58), none⟩,
                ⟨(some 60), .mv (.t 4), (some (59, true))⟩,
                ⟨(some 61), .pick (.t 59) (.t 60) (.k (.d (.lit (.bool false)))), none⟩,
                ⟨(some 62), .mv (.t 61), none⟩,
                ⟨(some 63), .mv (.t 6), (some (62, true))⟩,
                ⟨(some 64), .pick (.t 62) (.t 63) (.k (.d (.lit (.bool false)))), none⟩,
                ⟨(some 2), .mv (.t 64), none⟩] [2]) (
              .ret)) (
             .seq (
              .ops [
                ⟨(some 66), .bin .eql (.t 42) (.k (.d (.lit (.int .i64 3)))), none⟩,
                ⟨(some 65), .mv (.t 66), none⟩] [1, 3, 4, 5, 6, 42, 65]) (
              .cond (.t 65) (
               .seq (
                .ops [
                  ⟨(some 67), .mv (.t 3), none⟩,
                  ⟨(some 68), .bin .eql (.t 67) (.k (.d (.lit (.int .i64 1)))), none⟩,
                  ⟨(some 69), .mv (.t 68), none⟩,
                  ⟨(some 70), .mv (.t 4), (some (69, true))⟩,
                  ⟨(some 71), .pick (.t 69) (.t 70) (.k (.d (.lit (.bool false)))), none⟩,
                  ⟨(some 72), .mv (.t 71), none⟩,
                  ⟨(some 73), .fa 1 (.t 1), (some (72, true))⟩,
                  ⟨(some 74), .load 1 false (.t 73), (some (72, true))⟩,
                  ⟨(some 75), .bin .geq (.t 74) (.k (.d (.lit (.int .i64 1)))), (some (72, true))⟩,
                  ⟨(some 76), .pick (.t 72) (.t 75) (.k (.d (.lit (.bool false)))), none⟩,
                  ⟨(some 77), .mv (.t 76), none⟩,
                  ⟨(some 78), .mv (.t 6), (some (77, true))⟩,
                  ⟨(some 79), .pick (.t 77) (.t 78) (.k (.d (.lit (.bool false)))), none⟩,
                  ⟨(some 2), .mv (.t 79), none⟩] [2]) (
                .ret)) (
               .seq (
                .seq (
                 .ops [
                   ⟨(some 81), .bin .eql (.t 42) (.k (.d (.lit (.int .i64 4)))), none⟩,
                   ⟨(some 80), .mv (.t 81), none⟩] [1, 3, 5, 6, 42, 80]) (
                 .cond (.t 80) (
                  .skip) (
                  .ops [
                    ⟨(some 82), .bin .eql (.t 42) (.k (.d (.lit (.int .i64 5)))), none⟩,
                    ⟨(some 80), .mv (.t 82), none⟩] [1, 3, 5, 6, 42, 80]))) (
                .cond (.t 80) (
                 .seq (
                  .ops [
                    ⟨(some 83), .mv (.t 3), none⟩,
                    ⟨(some 84), .bin .geq (.t 83) (.k (.d (.lit (.int .i64 2)))), none⟩,
                    ⟨(some 85), .mv (.t 84), none⟩,
                    ⟨(some 86), .mv (.t 3), (some (85, true))⟩,
                    ⟨(some 87), .bin .leq (.t 86) (.k (.d (.lit (.int .i64 8)))), (some (85, true))⟩,
                    ⟨(some 88), .pick (.t 85) (.t 87) (.k (.d (.lit (.bool false)))), none⟩,
                    ⟨(some 89), .mv (.t 88), none⟩,
                    ⟨(some 90), .mv (.t 5), (some (89, true))⟩,
                    ⟨(some 91), .pick (.t 89) (.t 90) (.k (.d (.lit (.bool false)))), none⟩,
                    ⟨(some 92), .mv (.t 91), none⟩,
                    ⟨(some 93), .mv (.t 6), (some (92, true))⟩,
                    ⟨(some 94), .pick (.t 92) (.t 93) (.k (.d (.lit (.bool false)))), none⟩,
                    ⟨(some 2), .mv (.t 94), none⟩] [2]) (
                  .ret)) (
                 .seq (
                  .ops [
                    ⟨(some 96), .bin .eql (.t 42) (.k (.d (.lit (.int .i64 6)))), none⟩,
                    ⟨(some 95), .mv (.t 96), none⟩] [1, 3, 5, 42, 95]) (
                  .cond (.t 95) (
                   .seq (
                    .ops [
                      ⟨(some 97), .mv (.t 3), none⟩,
                      ⟨(some 98), .bin .eql (.t 97) (.k (.d (.lit (.int .i64 1)))), none⟩,
                      ⟨(some 99), .mv (.t 98), none⟩,
                      ⟨(some 100), .mv (.t 5), (some (99, true))⟩,
                      ⟨(some 101), .pick (.t 99) (.t 100) (.k (.d (.lit (.bool false)))), none⟩,
                      ⟨(some 2), .mv (.t 101), none⟩] [2]) (
                    .ret)) (
                   .seq (
                    .ops [
                      ⟨(some 103), .bin .eql (.t 42) (.k (.d (.lit (.int .i64 7)))), none⟩,
                      ⟨(some 102), .mv (.t 103), none⟩] [1, 3, 5, 102]) (
                    .cond (.t 102) (
                     .seq (
                      .ops [
                        ⟨(some 104), .mv (.t 3), none⟩,
                        ⟨(some 105), .bin .eql (.t 104) (.k (.d (.lit (.int .i64 1)))), none⟩,
                        ⟨(some 106), .mv (.t 105), none⟩,
                        ⟨(some 107), .mv (.t 5), (some (106, true))⟩,
                        ⟨(some 108), .pick (.t 106) (.t 107) (.k (.d (.lit (.bool false)))), none⟩,
                        ⟨(some 109), .mv (.t 108), none⟩,
                        ⟨(some 110), .fa 7 (.t 1), (some (109, true))⟩,
                        ⟨(some 111), .load 1 false (.t 110), (some (109, true))⟩,
                        ⟨(some 112), .bin .eql (.t 111) (.k (.d (.lit (.string ⟨#[]⟩)))), (some (109, true))⟩,
                        ⟨(some 113), .pick (.t 109) (.t 112) (.k (.d (.lit (.bool false)))), none⟩,
                        ⟨(some 2), .mv (.t 113), none⟩] [2]) (
                      .ret)) (
                     .skip))))))))))))))) (
       .seq (
        .ops [
          ⟨(some 2), .mv (.k (.d (.lit (.bool false)))), none⟩] [2]) (
        .ret)))))))
def rs50 : List RV := [.t 2 false]
theorem k50 : okFn G.tab Tryz.f50 1 c50 rs50 = true := by kernel_rfl

/-- testbench/testbenchref39.sets -/
def c34 : Cd :=
 .seq (
  .ops [
    ⟨(some 2), .box 27 (.t 0), none⟩,
    ⟨(some 4), .nilo 9 1, none⟩] [1, 2]) (
  .seq (
   .seq (
    .ops [
      ⟨(some 6), .load 9 true (.t 2), none⟩,
      ⟨(some 7), .call 25 [.t 6, .k (.d (.lit (.int .i64 100))), .k (.d (.lit (.int .i64 8)))], none⟩,
      ⟨(some 8), .bin .lss (.t 7) (.k (.d (.lit (.int .i64 0)))), none⟩] [1, 2, 8]) (
    .cond (.t 8) (
     .seq (
      .ops [
        ⟨(some 9), .mvo 1, none⟩,
        ⟨(some 4), .mvo 9, none⟩] [4]) (
      .ret)) (
     .skip))) (
   .seq (
    .seq (
     .ops [
       ⟨(some 10), .fa 0 (.t 2), none⟩,
       ⟨(some 11), .load 1 false (.t 10), none⟩,
       ⟨(some 12), .bin .eql (.t 11) (.k (.d (.lit (.int .i64 6)))), none⟩] [1, 2, 12]) (
     .cond (.t 12) (
      .ops [
        ⟨(some 13), .mvo 1, none⟩,
        ⟨(some 14), .fa 7 (.t 2), none⟩,
        ⟨(some 15), .load 1 false (.t 14), none⟩,
        ⟨(some 16), .mks 9 1 [.t 15], none⟩,
        ⟨(some 17), .app 9 1 16 13 (.t 16), none⟩,
        ⟨(some 1), .mvo 17, none⟩] [1, 2]) (
      .skip))) (
    .seq (
     .seq (
      .ops [
        ⟨(some 5), .mv (.k (.d (.lit (.int .i64 0)))), none⟩] [1, 2, 5]) (
      .block 0 (
       .loop (
        .seq (
         .seq (
          .ops [
            ⟨(some 18), .mv (.t 5), none⟩,
            ⟨(some 19), .fa 8 (.t 2), none⟩,
            ⟨(some 20), .load 1 false (.t 19), none⟩,
            ⟨(some 21), .len false (.t 20), none⟩,
            ⟨(some 22), .bin .lss (.t 18) (.t 21), none⟩] [1, 2, 5, 22]) (
          .cond (.t 22) (
           .skip) (
           .exit 0))) (
         .seq (
          .block 1 (
           .ops [
             ⟨(some 25), .fa 8 (.t 2), none⟩,
             ⟨(some 26), .load 1 false (.t 25), none⟩,
             ⟨(some 27), .mv (.t 5), none⟩,
             ⟨(some 28), .ia 9 (.t 26) (.t 27), none⟩,
             ⟨(some 29), .load 9 true (.t 28), none⟩,
             ⟨(some 30), .mvo 1, none⟩,
             ⟨(some 31), .callm (.k (.fn 34 [])) [.t 29] 30, none⟩,
             ⟨(some 1), .mvo 31, none⟩] [1, 2, 5])) (
          .ops [
            ⟨(some 23), .mv (.t 5), none⟩,
            ⟨(some 24), .bin .add (.t 23) (.k (.d (.lit (.int .i64 1)))), none⟩,
            ⟨(some 5), .mv (.t 24), none⟩] [1, 2, 5])))))) (
     .seq (
      .ops [
        ⟨(some 32), .mvo 1, none⟩,
        ⟨(some 4), .mvo 32, none⟩] [4]) (
      .ret)))))
def rs34 : List RV := [.t 4 true]
theorem k34 : okFn G.tab Tryz.f34 2 c34 rs34 = true := by kernel_rfl

/-- testbench/testbenchref39.has -/
def c35 : Cd :=
 .seq (
  .ops [
    ⟨(some 4), .mv (.k (.d (.lit (.bool false)))), none⟩] [0, 1]) (
  .seq (
   .seq (
    .ops [
      ⟨(some 5), .mv (.k (.d (.lit (.int .i64 0)))), none⟩] [0, 1, 5]) (
    .block 0 (
     .loop (
      .seq (
       .seq (
        .ops [
          ⟨(some 6), .mv (.t 5), none⟩,
          ⟨(some 7), .mv (.t 0), none⟩,
          ⟨(some 8), .len false (.t 7), none⟩,
          ⟨(some 9), .bin .lss (.t 6) (.t 8), none⟩] [0, 1, 5, 9]) (
        .cond (.t 9) (
         .skip) (
         .exit 0))) (
       .seq (
        .block 1 (
         .seq (
          .ops [
            ⟨(some 12), .mv (.t 0), none⟩,
            ⟨(some 13), .mv (.t 5), none⟩,
            ⟨(some 14), .ia 1 (.t 12) (.t 13), none⟩,
            ⟨(some 15), .load 1 false (.t 14), none⟩,
            ⟨(some 16), .mv (.t 1), none⟩,
            ⟨(some 17), .bin .eql (.t 15) (.t 16), none⟩] [0, 1, 5, 17]) (
          .cond (.t 17) (
           .seq (
            .ops [
              ⟨(some 4), .mv (.k (.d (.lit (.bool true)))), none⟩] [4]) (
            .ret)) (
           .skip)))) (
        .ops [
          ⟨(some 10), .mv (.t 5), none⟩,
          ⟨(some 11), .bin .add (.t 10) (.k (.d (.lit (.int .i64 1)))), none⟩,
          ⟨(some 5), .mv (.t 11), none⟩] [0, 1, 5])))))) (
   .seq (
    .ops [
      ⟨(some 4), .mv (.k (.d (.lit (.bool false)))), none⟩] [4]) (
    .ret)))
def rs35 : List RV := [.t 4 false]
theorem k35 : okFn G.tab Tryz.f35 2 c35 rs35 = true := by kernel_rfl

/-- testbench/testbenchref39.wrong -/
def c26 : Cd :=
 .seq (
  .ops [
    ⟨(some 2), .box 27 (.t 0), none⟩,
    ⟨(some 4), .mv (.k (.d (.lit (.int .i64 0)))), none⟩] [1, 2]) (
  .seq (
   .seq (
    .ops [
      ⟨(some 11), .load 9 true (.t 2), none⟩,
      ⟨(some 12), .call 50 [.t 11], none⟩,
      ⟨(some 13), .un .not (.t 12), none⟩] [1, 2, 13]) (
    .cond (.t 13) (
     .seq (
      .ops [
        ⟨(some 4), .mv (.k (.d (.lit (.int .i64 1)))), none⟩] [4]) (
      .ret)) (
     .skip))) (
   .seq (
    .seq (
     .ops [
       ⟨(some 14), .fa 0 (.t 2), none⟩,
       ⟨(some 15), .load 1 false (.t 14), none⟩,
       ⟨(some 16), .bin .eql (.t 15) (.k (.d (.lit (.int .i64 6)))), none⟩,
       ⟨(some 17), .mv (.t 16), none⟩,
       ⟨(some 18), .fa 7 (.t 2), (some (17, true))⟩,
       ⟨(some 19), .load 1 false (.t 18), (some (17, true))⟩,
       ⟨(some 20), .call 46 [.t 19], (some (17, true))⟩,
       ⟨(some 21), .un .not (.t 20), (some (17, true))⟩,
       ⟨(some 22), .pick (.t 17) (.t 21) (.k (.d (.lit (.bool false)))), none⟩] [1, 2, 22]) (
     .cond (.t 22) (
      .seq (
       .ops [
         ⟨(some 4), .mv (.k (.d (.lit (.int .i64 7)))), none⟩] [4]) (
       .ret)) (
      .skip))) (
    .seq (
     .seq (
      .ops [
        ⟨(some 23), .fa 0 (.t 2), none⟩,
        ⟨(some 24), .load 1 false (.t 23), none⟩,
        ⟨(some 25), .bin .eql (.t 24) (.k (.d (.lit (.int .i64 1)))), none⟩,
        ⟨(some 26), .mv (.t 25), none⟩,
        ⟨(some 27), .fa 0 (.t 2), (some (26, false))⟩,
        ⟨(some 28), .load 1 false (.t 27), (some (26, false))⟩,
        ⟨(some 29), .bin .eql (.t 28) (.k (.d (.lit (.int .i64 6)))), (some (26, false))⟩,
        ⟨(some 30), .pick (.t 26) (.k (.d (.lit (.bool true)))) (.t 29), none⟩,
        ⟨(some 31), .mv (.t 30), none⟩,
        ⟨(some 32), .fa 0 (.t 2), (some (31, false))⟩,
        ⟨(some 33), .load 1 false (.t 32), (some (31, false))⟩,
        ⟨(some 34), .bin .eql (.t 33) (.k (.d (.lit (.int .i64 7)))), (some (31, false))⟩,
        ⟨(some 35), .pick (.t 31) (.k (.d (.lit (.bool true)))) (.t 34), none⟩] [1, 2, 35]) (
      .cond (.t 35) (
       .seq (
        .ops [
          ⟨(some 36), .fa 3 (.t 2), none⟩,
          ⟨(some 37), .load 4 true (.t 36), none⟩,
          ⟨(some 38), .call 51 [.t 37], none⟩,
          ⟨(some 5), .mv (.t 38), none⟩] [1, 2, 5]) (
        .seq (
         .ops [
           ⟨(some 39), .mv (.t 5), none⟩,
           ⟨(some 40), .bin .neq (.t 39) (.k (.d (.lit (.int .i64 0)))), none⟩] [1, 2, 5, 40]) (
         .cond (.t 40) (
          .seq (
           .ops [
             ⟨(some 41), .mv (.t 5), none⟩,
             ⟨(some 4), .mv (.t 41), none⟩] [4]) (
           .ret)) (
          .skip)))) (
       .skip))) (
     .seq (
      .seq (
       .ops [
         ⟨(some 42), .fa 0 (.t 2), none⟩,
         ⟨(some 43), .load 1 false (.t 42), none⟩,
         ⟨(some 44), .bin .eql (.t 43) (.k (.d (.lit (.int .i64 6)))), none⟩,
         ⟨(some 45), .mv (.t 44), none⟩,
         ⟨(some 46), .mv (.t 1), (some (45, true))⟩,
         ⟨(some 47), .pick (.t 45) (.t 46) (.k (.d (.lit (.bool false)))), none⟩] [1, 2, 47]) (
       .cond (.t 47) (
        .seq (
         .ops [
           ⟨(some 4), .mv (.k (.d (.lit (.int .i64 13)))), none⟩] [4]) (
         .ret)) (
        .skip))) (
      .seq (
       .seq (
        .ops [
          ⟨(some 48), .fa 0 (.t 2), none⟩,
          ⟨(some 49), .load 1 false (.t 48), none⟩,
          ⟨(some 50), .bin .eql (.t 49) (.k (.d (.lit (.int .i64 7)))), none⟩] [1, 2, 50]) (
        .cond (.t 50) (
         .seq (
          .draw [
            ⟨(some 51), .fa 3 (.t 2), none⟩,
            ⟨(some 52), .load 4 true (.t 51), none⟩,
            ⟨(some 53), .call 52 [.t 52], none⟩,
            ⟨(some 54), .fa 8 (.t 2), none⟩,
            ⟨(some 55), .load 1 false (.t 54), none⟩,
            ⟨(some 56), .ia 9 (.t 55) (.k (.d (.lit (.int .i64 0)))), none⟩,
            ⟨(some 57), .load 9 true (.t 56), none⟩,
            ⟨(some 58), .calln 34 [.t 57, .k (.nil)], none⟩,
            ⟨(some 6), .mv (.t 53), none⟩,
            ⟨(some 7), .mv (.t 58), none⟩] [1, 2, 6, 7]) (
          .seq (
           .ops [
             ⟨(some 8), .mv (.k (.d (.lit (.int .i64 0)))), none⟩] [1, 2, 6, 7, 8]) (
           .block 0 (
            .loop (
             .seq (
              .seq (
               .ops [
                 ⟨(some 59), .mv (.t 8), none⟩,
                 ⟨(some 60), .mv (.t 6), none⟩,
                 ⟨(some 61), .len false (.t 60), none⟩,
                 ⟨(some 62), .bin .lss (.t 59) (.t 61), none⟩] [1, 2, 6, 7, 8, 62]) (
               .cond (.t 62) (
                .skip) (
                .exit 0))) (
              .seq (
               .block 1 (
                .seq (
                 .ops [
                   ⟨(some 65), .mv (.t 7), none⟩,
                   ⟨(some 66), .mv (.t 6), none⟩,
                   ⟨(some 67), .mv (.t 8), none⟩,
                   ⟨(some 68), .ia 1 (.t 66) (.t 67), none⟩,
                   ⟨(some 69), .load 1 false (.t 68), none⟩,
                   ⟨(some 70), .call 35 [.t 65, .t 69], none⟩] [1, 2, 6, 7, 8, 70]) (
                 .cond (.t 70) (
                  .seq (
                   .ops [
                     ⟨(some 4), .mv (.k (.d (.lit (.int .i64 13)))), none⟩] [4]) (
                   .ret)) (
                  .skip)))) (
               .ops [
                 ⟨(some 63), .mv (.t 8), none⟩,
                 ⟨(some 64), .bin .add (.t 63) (.k (.d (.lit (.int .i64 1)))), none⟩,
                 ⟨(some 8), .mv (.t 64), none⟩] [1, 2, 6, 7, 8]))))))) (
         .skip))) (
       .seq (
        .seq (
         .ops [
           ⟨(some 9), .mv (.k (.d (.lit (.int .i64 0)))), none⟩] [1, 2, 9]) (
         .block 2 (
          .loop (
           .seq (
            .seq (
             .ops [
               ⟨(some 71), .mv (.t 9), none⟩,
               ⟨(some 72), .fa 8 (.t 2), none⟩,
               ⟨(some 73), .load 1 false (.t 72), none⟩,
               ⟨(some 74), .len false (.t 73), none⟩,
               ⟨(some 75), .bin .lss (.t 71) (.t 74), none⟩] [1, 2, 9, 75]) (
             .cond (.t 75) (
              .skip) (
              .exit 2))) (
            .seq (
             .block 3 (
              .seq (
               .draw [
                 ⟨(some 78), .fa 8 (.t 2), none⟩,
                 ⟨(some 79), .load 1 false (.t 78), none⟩,
                 ⟨(some 80), .mv (.t 9), none⟩,
                 ⟨(some 81), .ia 9 (.t 79) (.t 80), none⟩,
                 ⟨(some 82), .load 9 true (.t 81), none⟩,
                 ⟨(some 83), .mv (.t 1), none⟩,
                 ⟨(some 84), .mv (.t 83), none⟩,
                 ⟨(some 85), .fa 0 (.t 2), (some (84, false))⟩,
                 ⟨(some 86), .load 1 false (.t 85), (some (84, false))⟩,
                 ⟨(some 87), .bin .eql (.t 86) (.k (.d (.lit (.int .i64 5)))), (some (84, false))⟩,
                 ⟨(some 88), .pick (.t 84) (.k (.d (.lit (.bool true)))) (.t 87), none⟩,
                 ⟨(some 89), .call 26 [.t 82, .t 88], none⟩,
                 ⟨(some 10), .mv (.t 89), none⟩] [1, 2, 9, 10]) (
               .seq (
                .ops [
                  ⟨(some 90), .mv (.t 10), none⟩,
                  ⟨(some 91), .bin .neq (.t 90) (.k (.d (.lit (.int .i64 0)))), none⟩] [1, 2, 9, 10, 91]) (
                .cond (.t 91) (
                 .seq (
                  .ops [
                    ⟨(some 92), .mv (.t 10), none⟩,
                    ⟨(some 4), .mv (.t 92), none⟩] [4]) (
                  .ret)) (
                 .skip))))) (
             .ops [
               ⟨(some 76), .mv (.t 9), none⟩,
               ⟨(some 77), .bin .add (.t 76) (.k (.d (.lit (.int .i64 1)))), none⟩,
               ⟨(some 9), .mv (.t 77), none⟩] [1, 2, 9])))))) (
        .seq (
         .ops [
           ⟨(some 4), .mv (.k (.d (.lit (.int .i64 0)))), none⟩] [4]) (
         .ret))))))))
def rs26 : List RV := [.t 4 false]
theorem k26 : okFn G.tab Tryz.f26 2 c26 rs26 = true := by kernel_rfl

/-- testbench/testbenchref39.Valid -/
def c9 : Cd :=
 .seq (
  .ops [
    ⟨(some 1), .box 27 (.t 0), none⟩,
    ⟨(some 2), .mv (.k (.d (.lit (.int .i64 0)))), none⟩] [1]) (
  .seq (
   .seq (
    .ops [
      ⟨(some 3), .load 9 true (.t 1), none⟩,
      ⟨(some 4), .call 25 [.t 3, .k (.d (.lit (.int .i64 100))), .k (.d (.lit (.int .i64 8)))], none⟩,
      ⟨(some 5), .bin .lss (.t 4) (.k (.d (.lit (.int .i64 0)))), none⟩] [1, 5]) (
    .cond (.t 5) (
     .seq (
      .ops [
        ⟨(some 2), .mv (.k (.d (.lit (.int .i64 2)))), none⟩] [2]) (
      .ret)) (
     .skip))) (
   .seq (
    .ops [
      ⟨(some 6), .load 9 true (.t 1), none⟩,
      ⟨(some 7), .call 26 [.t 6, .k (.d (.lit (.bool false)))], none⟩,
      ⟨(some 2), .mv (.t 7), none⟩] [2]) (
    .ret)))
def rs9 : List RV := [.t 2 false]
theorem k9 : okFn G.tab Tryz.f9 1 c9 rs9 = true := by kernel_rfl

/-- testbench/testbenchref39.Locals -/
def c15 : Cd :=
 .seq (
  .ops [
    ⟨(some 1), .box 27 (.t 0), none⟩,
    ⟨(some 2), .mv (.k (.nil)), none⟩] [1]) (
  .seq (
   .seq (
    .ops [
      ⟨(some 7), .load 9 true (.t 1), none⟩,
      ⟨(some 8), .call 9 [.t 7], none⟩,
      ⟨(some 9), .bin .neq (.t 8) (.k (.d (.lit (.int .i64 0)))), none⟩] [1, 9]) (
    .cond (.t 9) (
     .seq (
      .ops [
        ⟨(some 2), .mv (.k (.nil)), none⟩] [2]) (
      .ret)) (
     .skip))) (
   .seq (
    .ops [
      ⟨(some 10), .load 9 true (.t 1), none⟩,
      ⟨(some 11), .calln 34 [.t 10, .k (.nil)], none⟩,
      ⟨(some 3), .mv (.t 11), none⟩] [3]) (
    .seq (
     .ops [
       ⟨(some 4), .nilo 9 1, none⟩] [3, 4]) (
     .seq (
      .block 0 (
       .loop (
        .seq (
         .seq (
          .ops [
            ⟨(some 12), .mv (.t 4), none⟩,
            ⟨(some 13), .len false (.t 12), none⟩,
            ⟨(some 14), .mv (.t 3), none⟩,
            ⟨(some 15), .len false (.t 14), none⟩,
            ⟨(some 16), .bin .lss (.t 13) (.t 15), none⟩] [3, 4, 16]) (
          .cond (.t 16) (
           .skip) (
           .exit 0))) (
         .block 1 (
          .seq (
           .ops [
             ⟨(some 5), .mv (.k (.d (.lit (.string ⟨#[]⟩)))), none⟩] [3, 4, 5]) (
           .seq (
            .seq (
             .ops [
               ⟨(some 6), .mv (.k (.d (.lit (.int .i64 0)))), none⟩] [3, 4, 5, 6]) (
             .block 2 (
              .loop (
               .seq (
                .seq (
                 .ops [
                   ⟨(some 17), .mv (.t 6), none⟩,
                   ⟨(some 18), .mv (.t 3), none⟩,
                   ⟨(some 19), .len false (.t 18), none⟩,
                   ⟨(some 20), .bin .lss (.t 17) (.t 19), none⟩] [3, 4, 5, 6, 20]) (
                 .cond (.t 20) (
                  .skip) (
                  .exit 2))) (
                .seq (
                 .block 3 (
                  .seq (
                   .ops [
                     ⟨(some 23), .mv (.t 4), none⟩,
                     ⟨(some 24), .mv (.t 3), none⟩,
                     ⟨(some 25), .mv (.t 6), none⟩,
                     ⟨(some 26), .ia 1 (.t 24) (.t 25), none⟩,
                     ⟨(some 27), .load 1 false (.t 26), none⟩,
                     ⟨(some 28), .call 35 [.t 23, .t 27], none⟩,
                     ⟨(some 29), .un .not (.t 28), none⟩,
                     ⟨(some 30), .mv (.t 29), none⟩,
                     ⟨(some 31), .mv (.t 5), (some (30, true))⟩,
                     ⟨(some 32), .bin .eql (.t 31) (.k (.d (.lit (.string ⟨#[]⟩)))), (some (30, true))⟩,
                     ⟨(some 33), .mv (.t 32), (some (30, true))⟩,
                     ⟨(some 34), .mv (.t 3), (some (33, false))⟩,
                     ⟨(some 35), .mv (.t 6), (some (33, false))⟩,
                     ⟨(some 36), .ia 1 (.t 34) (.t 35), (some (33, false))⟩,
                     ⟨(some 37), .load 1 false (.t 36), (some (33, false))⟩,
                     ⟨(some 38), .mv (.t 5), (some (33, false))⟩,
                     ⟨(some 39), .bin .lss (.t 37) (.t 38), (some (33, false))⟩,
                     ⟨(some 40), .pick (.t 33) (.k (.d (.lit (.bool true)))) (.t 39), (some (30, true))⟩,
                     ⟨(some 41), .pick (.t 30) (.t 40) (.k (.d (.lit (.bool false)))), none⟩] [3, 4, 5, 6, 41]) (
                   .cond (.t 41) (
                    .ops [
                      ⟨(some 42), .mv (.t 3), none⟩,
                      ⟨(some 43), .mv (.t 6), none⟩,
                      ⟨(some 44), .ia 1 (.t 42) (.t 43), none⟩,
                      ⟨(some 45), .load 1 false (.t 44), none⟩,
                      ⟨(some 5), .mv (.t 45), none⟩] [3, 4, 5, 6]) (
                    .skip)))) (
                 .ops [
                   ⟨(some 21), .mv (.t 6), none⟩,
                   ⟨(some 22), .bin .add (.t 21) (.k (.d (.lit (.int .i64 1)))), none⟩,
                   ⟨(some 6), .mv (.t 22), none⟩] [3, 4, 5, 6])))))) (
            .seq (
             .seq (
              .ops [
                ⟨(some 46), .mv (.t 5), none⟩,
                ⟨(some 47), .bin .eql (.t 46) (.k (.d (.lit (.string ⟨#[]⟩)))), none⟩] [3, 4, 5, 47]) (
              .cond (.t 47) (
               .exit 0) (
               .skip))) (
             .ops [
               ⟨(some 48), .mvo 4, none⟩,
               ⟨(some 49), .mv (.t 5), none⟩,
               ⟨(some 50), .mks 9 1 [.t 49], none⟩,
               ⟨(some 51), .app 9 1 16 48 (.t 50), none⟩,
               ⟨(some 4), .mvo 51, none⟩] [3, 4])))))))) (
      .seq (
       .ops [
         ⟨(some 52), .mv (.t 4), none⟩,
         ⟨(some 2), .mv (.t 52), none⟩] [2]) (
       .ret))))))
def rs15 : List RV := [.t 2 false]
theorem k15 : okFn G.tab Tryz.f15 1 c15 rs15 = true := by kernel_rfl

/-- testbench/testbenchref39.lengths -/
def c40 : Cd :=
 .seq (
  .ops [
    ⟨(some 1), .box 27 (.t 0), none⟩,
    ⟨(some 2), .mv (.k (.d (.lit (.int .i64 0)))), none⟩,
    ⟨(some 3), .mv (.k (.d (.lit (.int .i64 0)))), none⟩] [1]) (
  .seq (
   .seq (
    .ops [
      ⟨(some 11), .fa 0 (.t 1), none⟩,
      ⟨(some 12), .load 1 false (.t 11), none⟩,
      ⟨(some 13), .bin .eql (.t 12) (.k (.d (.lit (.int .i64 1)))), none⟩] [1, 13]) (
    .cond (.t 13) (
     .seq (
      .ops [
        ⟨(some 2), .mv (.k (.d (.lit (.int .i64 1)))), none⟩,
        ⟨(some 3), .mv (.k (.d (.lit (.int .i64 1)))), none⟩] [2, 3]) (
      .ret)) (
     .skip))) (
   .seq (
    .ops [
      ⟨(some 15), .fa 8 (.t 1), none⟩,
      ⟨(some 16), .load 1 false (.t 15), none⟩,
      ⟨(some 17), .ia 9 (.t 16) (.k (.d (.lit (.int .i64 0)))), none⟩,
      ⟨(some 18), .load 9 true (.t 17), none⟩,
      ⟨(some 19), .call 40 [.t 18], none⟩,
      ⟨(some 14), .mv (.t 19), none⟩,
      ⟨(some 20), .ext (.t 14) 0, none⟩,
      ⟨(some 21), .ext (.t 14) 1, none⟩,
      ⟨(some 4), .mv (.t 20), none⟩,
      ⟨(some 5), .mv (.t 21), none⟩] [1, 4, 5]) (
    .seq (
     .seq (
      .ops [
        ⟨(some 22), .fa 0 (.t 1), none⟩,
        ⟨(some 23), .load 1 false (.t 22), none⟩] [1, 4, 5, 23]) (
      .block 0 (
       .seq (
        .ops [
          ⟨(some 25), .bin .eql (.t 23) (.k (.d (.lit (.int .i64 2)))), none⟩,
          ⟨(some 24), .mv (.t 25), none⟩] [1, 4, 5, 23, 24]) (
        .cond (.t 24) (
         .seq (
          .ops [
            ⟨(some 27), .fa 8 (.t 1), none⟩,
            ⟨(some 28), .load 1 false (.t 27), none⟩,
            ⟨(some 29), .ia 9 (.t 28) (.k (.d (.lit (.int .i64 1)))), none⟩,
            ⟨(some 30), .load 9 true (.t 29), none⟩,
            ⟨(some 31), .call 40 [.t 30], none⟩,
            ⟨(some 26), .mv (.t 31), none⟩,
            ⟨(some 32), .ext (.t 26) 0, none⟩,
            ⟨(some 33), .ext (.t 26) 1, none⟩,
            ⟨(some 6), .mv (.t 32), none⟩,
            ⟨(some 7), .mv (.t 33), none⟩] [1, 4, 5, 6, 7]) (
          .seq (
           .draw [
             ⟨(some 34), .mv (.t 4), none⟩,
             ⟨(some 35), .fa 1 (.t 1), none⟩,
             ⟨(some 36), .load 1 false (.t 35), none⟩,
             ⟨(some 37), .bin .add (.t 34) (.t 36), none⟩,
             ⟨(some 38), .mv (.t 6), none⟩,
             ⟨(some 39), .bin .add (.t 37) (.t 38), none⟩,
             ⟨(some 40), .bin .sub (.t 39) (.k (.d (.lit (.int .i64 1)))), none⟩,
             ⟨(some 41), .mv (.t 5), none⟩,
             ⟨(some 42), .fa 2 (.t 1), none⟩,
             ⟨(some 43), .load 1 false (.t 42), none⟩,
             ⟨(some 44), .bin .add (.t 41) (.t 43), none⟩,
             ⟨(some 45), .mv (.t 7), none⟩,
             ⟨(some 46), .bin .add (.t 44) (.t 45), none⟩,
             ⟨(some 47), .bin .sub (.t 46) (.k (.d (.lit (.int .i64 1)))), none⟩,
             ⟨(some 2), .mv (.t 40), none⟩,
             ⟨(some 3), .mv (.t 47), none⟩] [2, 3]) (
           .ret))) (
         .seq (
          .ops [
            ⟨(some 49), .bin .eql (.t 23) (.k (.d (.lit (.int .i64 3)))), none⟩,
            ⟨(some 48), .mv (.t 49), none⟩] [1, 4, 5, 48]) (
          .cond (.t 48) (
           .seq (
            .draw [
              ⟨(some 50), .mv (.t 4), none⟩,
              ⟨(some 51), .fa 1 (.t 1), none⟩,
              ⟨(some 52), .load 1 false (.t 51), none⟩,
              ⟨(some 53), .bin .mul (.t 50) (.t 52), none⟩,
              ⟨(some 54), .mv (.t 5), none⟩,
              ⟨(some 55), .fa 2 (.t 1), none⟩,
              ⟨(some 56), .load 1 false (.t 55), none⟩,
              ⟨(some 57), .bin .mul (.t 54) (.t 56), none⟩,
              ⟨(some 2), .mv (.t 53), none⟩,
              ⟨(some 3), .mv (.t 57), none⟩] [2, 3]) (
            .ret)) (
           .skip))))))) (
     .seq (
      .seq (
       .ops [
         ⟨(some 8), .mv (.k (.d (.lit (.int .i64 1)))), none⟩] [1, 4, 5, 8]) (
       .block 1 (
        .loop (
         .seq (
          .seq (
           .ops [
             ⟨(some 58), .mv (.t 8), none⟩,
             ⟨(some 59), .fa 8 (.t 1), none⟩,
             ⟨(some 60), .load 1 false (.t 59), none⟩,
             ⟨(some 61), .len false (.t 60), none⟩,
             ⟨(some 62), .bin .lss (.t 58) (.t 61), none⟩] [1, 4, 5, 8, 62]) (
           .cond (.t 62) (
            .skip) (
            .exit 1))) (
          .seq (
           .block 2 (
            .seq (
             .ops [
               ⟨(some 66), .fa 8 (.t 1), none⟩,
               ⟨(some 67), .load 1 false (.t 66), none⟩,
               ⟨(some 68), .mv (.t 8), none⟩,
               ⟨(some 69), .ia 9 (.t 67) (.t 68), none⟩,
               ⟨(some 70), .load 9 true (.t 69), none⟩,
               ⟨(some 71), .call 40 [.t 70], none⟩,
               ⟨(some 65), .mv (.t 71), none⟩,
               ⟨(some 72), .ext (.t 65) 0, none⟩,
               ⟨(some 73), .ext (.t 65) 1, none⟩,
               ⟨(some 9), .mv (.t 72), none⟩,
               ⟨(some 10), .mv (.t 73), none⟩] [1, 4, 5, 8, 9, 10]) (
             .seq (
              .seq (
               .ops [
                 ⟨(some 74), .fa 0 (.t 1), none⟩,
                 ⟨(some 75), .load 1 false (.t 74), none⟩,
                 ⟨(some 76), .bin .eql (.t 75) (.k (.d (.lit (.int .i64 4)))), none⟩] [1, 4, 5, 8, 9, 10, 76]) (
               .cond (.t 76) (
                .ops [
                  ⟨(some 77), .mv (.t 4), none⟩,
                  ⟨(some 78), .mv (.t 9), none⟩,
                  ⟨(some 79), .mx false (.t 77) (.t 78), none⟩,
                  ⟨(some 4), .mv (.t 79), none⟩] [1, 4, 5, 8, 10]) (
                .ops [
                  ⟨(some 80), .mv (.t 4), none⟩,
                  ⟨(some 81), .mv (.t 9), none⟩,
                  ⟨(some 82), .mx true (.t 80) (.t 81), none⟩,
                  ⟨(some 4), .mv (.t 82), none⟩] [1, 4, 5, 8, 10]))) (
              .ops [
                ⟨(some 83), .mv (.t 5), none⟩,
                ⟨(some 84), .mv (.t 10), none⟩,
                ⟨(some 85), .mx true (.t 83) (.t 84), none⟩,
                ⟨(some 5), .mv (.t 85), none⟩] [1, 4, 5, 8])))) (
           .ops [
             ⟨(some 63), .mv (.t 8), none⟩,
             ⟨(some 64), .bin .add (.t 63) (.k (.d (.lit (.int .i64 1)))), none⟩,
             ⟨(some 8), .mv (.t 64), none⟩] [1, 4, 5, 8])))))) (
      .seq (
       .ops [
         ⟨(some 86), .mv (.t 4), none⟩,
         ⟨(some 87), .mv (.t 5), none⟩,
         ⟨(some 2), .mv (.t 86), none⟩,
         ⟨(some 3), .mv (.t 87), none⟩] [2, 3]) (
       .ret))))))
def rs40 : List RV := [.t 2 false, .t 3 false]
theorem k40 : okFn G.tab Tryz.f40 1 c40 rs40 = true := by kernel_rfl

/-- testbench/testbenchref39.Min -/
def c17 : Cd :=
 .seq (
  .ops [
    ⟨(some 1), .box 27 (.t 0), none⟩,
    ⟨(some 2), .mv (.k (.d (.lit (.int .i64 0)))), none⟩] [1]) (
  .seq (
   .seq (
    .ops [
      ⟨(some 5), .load 9 true (.t 1), none⟩,
      ⟨(some 6), .call 9 [.t 5], none⟩,
      ⟨(some 7), .bin .neq (.t 6) (.k (.d (.lit (.int .i64 0)))), none⟩] [1, 7]) (
    .cond (.t 7) (
     .seq (
      .ops [
        ⟨(some 2), .mv (.k (.d (.lit (.int .i64 0)))), none⟩] [2]) (
      .ret)) (
     .skip))) (
   .seq (
    .ops [
      ⟨(some 9), .load 9 true (.t 1), none⟩,
      ⟨(some 10), .call 40 [.t 9], none⟩,
      ⟨(some 8), .mv (.t 10), none⟩,
      ⟨(some 11), .ext (.t 8) 0, none⟩,
      ⟨(some 12), .ext (.t 8) 1, none⟩,
      ⟨(some 3), .mv (.t 11), none⟩,
      ⟨(some 4), .mv (.t 12), none⟩] [3]) (
    .seq (
     .ops [
       ⟨(some 13), .mv (.t 3), none⟩,
       ⟨(some 2), .mv (.t 13), none⟩] [2]) (
     .ret))))
def rs17 : List RV := [.t 2 false]
theorem k17 : okFn G.tab Tryz.f17 1 c17 rs17 = true := by kernel_rfl

/-- testbench/testbenchref39.Max -/
def c19 : Cd :=
 .seq (
  .ops [
    ⟨(some 1), .box 27 (.t 0), none⟩,
    ⟨(some 2), .mv (.k (.d (.lit (.int .i64 0)))), none⟩] [1]) (
  .seq (
   .seq (
    .ops [
      ⟨(some 5), .load 9 true (.t 1), none⟩,
      ⟨(some 6), .call 9 [.t 5], none⟩,
      ⟨(some 7), .bin .neq (.t 6) (.k (.d (.lit (.int .i64 0)))), none⟩] [1, 7]) (
    .cond (.t 7) (
     .seq (
      .ops [
        ⟨(some 2), .mv (.k (.d (.lit (.int .i64 0)))), none⟩] [2]) (
      .ret)) (
     .skip))) (
   .seq (
    .ops [
      ⟨(some 9), .load 9 true (.t 1), none⟩,
      ⟨(some 10), .call 40 [.t 9], none⟩,
      ⟨(some 8), .mv (.t 10), none⟩,
      ⟨(some 11), .ext (.t 8) 0, none⟩,
      ⟨(some 12), .ext (.t 8) 1, none⟩,
      ⟨(some 3), .mv (.t 11), none⟩,
      ⟨(some 4), .mv (.t 12), none⟩] [4]) (
    .seq (
     .ops [
       ⟨(some 13), .mv (.t 4), none⟩,
       ⟨(some 2), .mv (.t 13), none⟩] [2]) (
     .ret))))
def rs19 : List RV := [.t 2 false]
theorem k19 : okFn G.tab Tryz.f19 1 c19 rs19 = true := by kernel_rfl

/-- testbench/testbenchref39.ValidProp -/
def c22 : Cd :=
 .seq (
  .ops [
    ⟨(some 1), .box 39 (.t 0), none⟩,
    ⟨(some 2), .mv (.k (.d (.lit (.int .i64 0)))), none⟩] [1]) (
  .seq (
   .seq (
    .ops [
      ⟨(some 4), .fa 0 (.t 1), none⟩,
      ⟨(some 5), .load 1 false (.t 4), none⟩,
      ⟨(some 6), .call 46 [.t 5], none⟩,
      ⟨(some 7), .un .not (.t 6), none⟩] [1, 7]) (
    .cond (.t 7) (
     .seq (
      .ops [
        ⟨(some 2), .mv (.k (.d (.lit (.int .i64 7)))), none⟩] [2]) (
      .ret)) (
     .skip))) (
   .seq (
    .seq (
     .ops [
       ⟨(some 8), .fa 1 (.t 1), none⟩,
       ⟨(some 9), .load 1 false (.t 8), none⟩,
       ⟨(some 10), .mv (.t 9), none⟩,
       ⟨(some 11), .fa 2 (.t 1), (some (10, true))⟩,
       ⟨(some 12), .load 1 false (.t 11), (some (10, true))⟩,
       ⟨(some 13), .mv (.t 12), (some (10, true))⟩,
       ⟨(some 14), .fa 3 (.t 1), (some (13, false))⟩,
       ⟨(some 15), .load 9 true (.t 14), (some (13, false))⟩,
       ⟨(some 16), .call 47 [.t 15], (some (13, false))⟩,
       ⟨(some 17), .un .not (.t 16), (some (13, false))⟩,
       ⟨(some 18), .pick (.t 13) (.k (.d (.lit (.bool true)))) (.t 17), (some (10, true))⟩,
       ⟨(some 19), .pick (.t 10) (.t 18) (.k (.d (.lit (.bool false)))), none⟩] [1, 19]) (
     .cond (.t 19) (
      .seq (
       .ops [
         ⟨(some 2), .mv (.k (.d (.lit (.int .i64 1)))), none⟩] [2]) (
       .ret)) (
      .skip))) (
    .seq (
     .seq (
      .ops [
        ⟨(some 20), .fa 1 (.t 1), none⟩,
        ⟨(some 21), .load 1 false (.t 20), none⟩,
        ⟨(some 22), .un .not (.t 21), none⟩] [1, 22]) (
      .cond (.t 22) (
       .seq (
        .ops [
          ⟨(some 23), .fa 3 (.t 1), none⟩,
          ⟨(some 24), .load 9 true (.t 23), none⟩,
          ⟨(some 25), .call 9 [.t 24], none⟩,
          ⟨(some 3), .mv (.t 25), none⟩] [1, 3]) (
        .seq (
         .ops [
           ⟨(some 26), .mv (.t 3), none⟩,
           ⟨(some 27), .bin .neq (.t 26) (.k (.d (.lit (.int .i64 0)))), none⟩] [1, 3, 27]) (
         .cond (.t 27) (
          .seq (
           .ops [
             ⟨(some 28), .mv (.t 3), none⟩,
             ⟨(some 2), .mv (.t 28), none⟩] [2]) (
           .ret)) (
          .skip)))) (
       .skip))) (
     .seq (
      .ops [
        ⟨(some 29), .fa 12 (.t 1), none⟩,
        ⟨(some 30), .load 9 true (.t 29), none⟩,
        ⟨(some 31), .call 9 [.t 30], none⟩,
        ⟨(some 2), .mv (.t 31), none⟩] [2]) (
      .ret)))))
def rs22 : List RV := [.t 2 false]
theorem k22 : okFn G.tab Tryz.f22 1 c22 rs22 = true := by kernel_rfl

/-- testbench/tseq.fold[int] -/
def c28 : Cd :=
 .seq (
  .ops [
    ⟨(some 2), .box 27 (.t 0), none⟩,
    ⟨(some 4), .mv (.k (.d (.lit (.int .i64 0)))), none⟩] [1, 2]) (
  .seq (
   .ops [
     ⟨(some 8), .fa 8 (.t 2), none⟩,
     ⟨(some 9), .load 1 false (.t 8), none⟩,
     ⟨(some 10), .len false (.t 9), none⟩,
     ⟨(some 11), .mkc 3 1 8 (.t 10), none⟩,
     ⟨(some 5), .mvo 11, none⟩] [1, 2, 5]) (
   .seq (
    .seq (
     .ops [
       ⟨(some 12), .fa 8 (.t 2), none⟩,
       ⟨(some 13), .load 1 false (.t 12), none⟩,
       ⟨(some 14), .len false (.t 13), none⟩,
       ⟨(some 15), .mv (.k (.d (.lit (.int .i64 0)))), none⟩] [1, 2, 5, 13, 14, 15]) (
     .block 0 (
      .loop (
       .seq (
        .ops [
          ⟨(some 16), .bin .lss (.t 15) (.t 14), none⟩] [1, 2, 5, 13, 14, 15, 16]) (
        .seq (
         .cond (.t 16) (
          .skip) (
          .exit 0)) (
         .seq (
          .block 1 (
           .seq (
            .ops [
              ⟨(some 17), .ia 9 (.t 13) (.t 15), none⟩,
              ⟨(some 18), .load 9 true (.t 17), none⟩,
              ⟨(some 7), .new 27 [.d (.lit (.int .i64 0)), .d (.lit (.int .i64 0)), .d (.lit (.int .i64 0)), .d (.lit (.int .i64 0)), .d (.lit (.int .i64 0)), .d (.lit (.string ⟨#[]⟩)), .nil, .d (.lit (.string ⟨#[]⟩)), .nil], none⟩,
              ⟨none, .sto 9 (.t 7) (.t 18), none⟩] [1, 2, 5, 7, 13, 14, 15]) (
            .ops [
              ⟨(some 19), .mvo 5, none⟩,
              ⟨(some 20), .load 9 true (.t 7), none⟩,
              ⟨(some 21), .mv (.t 1), none⟩,
              ⟨(some 22), .call 28 [.t 20, .t 21], none⟩,
              ⟨(some 23), .mks 3 1 [.t 22], none⟩,
              ⟨(some 24), .app 3 1 8 19 (.t 23), none⟩,
              ⟨(some 5), .mvo 24, none⟩] [1, 2, 5, 13, 14, 15]))) (
          .ops [
            ⟨(some 25), .bin .add (.t 15) (.k (.d (.lit (.int .i64 1)))), none⟩,
            ⟨(some 15), .mv (.t 25), none⟩] [1, 2, 5, 13, 14, 15]))))))) (
    .seq (
     .ops [
       ⟨(some 26), .mv (.t 1), none⟩,
       ⟨(some 27), .load 9 true (.t 2), none⟩,
       ⟨(some 28), .mvo 5, none⟩,
       ⟨(some 29), .callm (.t 26) [.t 27] 28, none⟩,
       ⟨(some 4), .mv (.t 29), none⟩] [4]) (
     .ret))))
def rs28 : List RV := [.t 4 false]
theorem k28 : okFn G.tab Tryz.f28 2 c28 rs28 = true := by kernel_rfl

/-- testbench/tseq.fold[[]string] -/
def c53 : Cd :=
 .seq (
  .ops [
    ⟨(some 2), .box 27 (.t 0), none⟩,
    ⟨(some 4), .nilo 9 1, none⟩] [1, 2]) (
  .seq (
   .ops [
     ⟨(some 8), .fa 8 (.t 2), none⟩,
     ⟨(some 9), .load 1 false (.t 8), none⟩,
     ⟨(some 10), .len false (.t 9), none⟩,
     ⟨(some 11), .mkc 34 1 24 (.t 10), none⟩,
     ⟨(some 5), .mvo 11, none⟩] [1, 2, 5]) (
   .seq (
    .seq (
     .ops [
       ⟨(some 12), .fa 8 (.t 2), none⟩,
       ⟨(some 13), .load 1 false (.t 12), none⟩,
       ⟨(some 14), .len false (.t 13), none⟩,
       ⟨(some 15), .mv (.k (.d (.lit (.int .i64 0)))), none⟩] [1, 2, 5, 13, 14, 15]) (
     .block 0 (
      .loop (
       .seq (
        .ops [
          ⟨(some 16), .bin .lss (.t 15) (.t 14), none⟩] [1, 2, 5, 13, 14, 15, 16]) (
        .seq (
         .cond (.t 16) (
          .skip) (
          .exit 0)) (
         .seq (
          .block 1 (
           .seq (
            .ops [
              ⟨(some 17), .ia 9 (.t 13) (.t 15), none⟩,
              ⟨(some 18), .load 9 true (.t 17), none⟩,
              ⟨(some 7), .new 27 [.d (.lit (.int .i64 0)), .d (.lit (.int .i64 0)), .d (.lit (.int .i64 0)), .d (.lit (.int .i64 0)), .d (.lit (.int .i64 0)), .d (.lit (.string ⟨#[]⟩)), .nil, .d (.lit (.string ⟨#[]⟩)), .nil], none⟩,
              ⟨none, .sto 9 (.t 7) (.t 18), none⟩] [1, 2, 5, 7, 13, 14, 15]) (
            .ops [
              ⟨(some 19), .mvo 5, none⟩,
              ⟨(some 20), .load 9 true (.t 7), none⟩,
              ⟨(some 21), .mv (.t 1), none⟩,
              ⟨(some 22), .call 53 [.t 20, .t 21], none⟩,
              ⟨(some 23), .mks 34 1 [.t 22], none⟩,
              ⟨(some 24), .app 34 1 24 19 (.t 23), none⟩,
              ⟨(some 5), .mvo 24, none⟩] [1, 2, 5, 13, 14, 15]))) (
          .ops [
            ⟨(some 25), .bin .add (.t 15) (.k (.d (.lit (.int .i64 1)))), none⟩,
            ⟨(some 15), .mv (.t 25), none⟩] [1, 2, 5, 13, 14, 15]))))))) (
    .seq (
     .ops [
       ⟨(some 26), .mv (.t 1), none⟩,
       ⟨(some 27), .load 9 true (.t 2), none⟩,
       ⟨(some 28), .mvo 5, none⟩,
       ⟨(some 29), .callm (.t 26) [.t 27] 28, none⟩,
       ⟨(some 4), .mvo 29, none⟩] [4]) (
     .ret))))
def rs53 : List RV := [.t 4 true]
theorem k53 : okFn G.tab Tryz.f53 2 c53 rs53 = true := by kernel_rfl

/-- testbench/tseq.names -/
def c31 : Cd :=
 .seq (
  .ops [
    ⟨(some 1), .box 27 (.t 0), none⟩,
    ⟨(some 2), .nilo 9 1, none⟩] [1]) (
  .seq (
   .ops [
     ⟨(some 3), .load 9 true (.t 1), none⟩,
     ⟨(some 4), .call 53 [.t 3, .k (.fn 54 [])], none⟩,
     ⟨(some 2), .mvo 4, none⟩] [2]) (
   .ret))
def rs31 : List RV := [.t 2 true]
theorem k31 : okFn G.tab Tryz.f31 1 c31 rs31 = true := by kernel_rfl

/-- testbench/tseq.names$1 -/
def c54 : Cd :=
 .seq (
  .ops [
    ⟨(some 2), .box 27 (.t 0), none⟩,
    ⟨(some 4), .nilo 9 1, none⟩] [1, 2]) (
  .seq (
   .ops [
     ⟨(some 6), .mv (.t 1), none⟩,
     ⟨(some 7), .call 55 [.t 6], none⟩,
     ⟨(some 5), .mvo 7, none⟩] [2, 5]) (
   .seq (
    .seq (
     .ops [
       ⟨(some 8), .fa 0 (.t 2), none⟩,
       ⟨(some 9), .load 1 false (.t 8), none⟩,
       ⟨(some 10), .bin .eql (.t 9) (.k (.d (.lit (.int .i64 6)))), none⟩] [2, 5, 10]) (
     .cond (.t 10) (
      .ops [
        ⟨(some 11), .mvo 5, none⟩,
        ⟨(some 12), .fa 7 (.t 2), none⟩,
        ⟨(some 13), .load 1 false (.t 12), none⟩,
        ⟨(some 14), .mks 9 1 [.t 13], none⟩,
        ⟨(some 15), .app 9 1 16 11 (.t 14), none⟩,
        ⟨(some 5), .mvo 15, none⟩] [5]) (
      .skip))) (
    .seq (
     .ops [
       ⟨(some 16), .mvo 5, none⟩,
       ⟨(some 4), .mvo 16, none⟩] [4]) (
     .ret))))
def rs54 : List RV := [.t 4 true]
theorem k54 : okFn G.tab Tryz.f54 2 c54 rs54 = true := by kernel_rfl

/-- testbench/tseq.Locals -/
def c14 : Cd :=
 .seq (
  .ops [
    ⟨(some 1), .box 27 (.t 0), none⟩,
    ⟨(some 2), .mv (.k (.nil)), none⟩] [1]) (
  .seq (
   .seq (
    .ops [
      ⟨(some 4), .load 9 true (.t 1), none⟩,
      ⟨(some 5), .call 8 [.t 4], none⟩,
      ⟨(some 6), .bin .neq (.t 5) (.k (.d (.lit (.int .i64 0)))), none⟩] [1, 6]) (
    .cond (.t 6) (
     .seq (
      .ops [
        ⟨(some 2), .mv (.k (.nil)), none⟩] [2]) (
      .ret)) (
     .skip))) (
   .seq (
    .ops [
      ⟨(some 7), .load 9 true (.t 1), none⟩,
      ⟨(some 8), .call 31 [.t 7], none⟩,
      ⟨(some 3), .mv (.t 8), none⟩] [3]) (
    .seq (
     .ops [
       ⟨(some 9), .mv (.t 3), none⟩,
       ⟨(some 10), .call 32 [.t 9], none⟩] [3]) (
     .seq (
      .ops [
        ⟨(some 11), .mv (.t 3), none⟩,
        ⟨(some 12), .call 33 [.t 11], none⟩,
        ⟨(some 2), .mv (.t 12), none⟩] [2]) (
      .ret)))))
def rs14 : List RV := [.t 2 false]
theorem k14 : okFn G.tab Tryz.f14 1 c14 rs14 = true := by kernel_rfl

/-- slices.Concat[[]string,string] -/
def c55 : Cd :=
 .seq (
  .ops [
    ⟨(some 2), .nilo 9 1, none⟩] [0]) (
  .seq (
   .ops [
     ⟨(some 3), .mv (.k (.d (.lit (.int .i64 0)))), none⟩] [0, 3]) (
   .seq (
    .seq (
     .ops [
       ⟨(some 9), .mv (.t 0), none⟩,
       ⟨(some 10), .len false (.t 9), none⟩,
       ⟨(some 11), .mv (.k (.d (.lit (.int .i64 0)))), none⟩] [0, 3, 9, 10, 11]) (
     .block 0 (
      .loop (
       .seq (
        .ops [
          ⟨(some 12), .bin .lss (.t 11) (.t 10), none⟩] [0, 3, 9, 10, 11, 12]) (
        .seq (
         .cond (.t 12) (
          .skip) (
          .exit 0)) (
         .seq (
          .block 1 (
           .seq (
            .ops [
              ⟨(some 13), .ia 1 (.t 9) (.t 11), none⟩,
              ⟨(some 14), .load 1 false (.t 13), none⟩,
              ⟨(some 5), .mv (.t 14), none⟩] [0, 3, 5, 9, 10, 11]) (
            .seq (
             .ops [
               ⟨(some 15), .mv (.t 3), none⟩,
               ⟨(some 16), .mv (.t 5), none⟩,
               ⟨(some 17), .len false (.t 16), none⟩,
               ⟨(some 18), .bin .add (.t 15) (.t 17), none⟩,
               ⟨(some 3), .mv (.t 18), none⟩] [0, 3, 9, 10, 11]) (
             .seq (
              .ops [
                ⟨(some 19), .mv (.t 3), none⟩,
                ⟨(some 20), .bin .lss (.t 19) (.k (.d (.lit (.int .i64 0)))), none⟩] [0, 3, 9, 10, 11, 20]) (
              .cond (.t 20) (
               .ops [
                 ⟨(some 21), .mki 9 (.k (.d (.lit (.string ⟨#[108, 101, 110, 32, 111, 117, 116, 32, 111, 102, 32, 114, 97, 110, 103, 101]⟩)))), none⟩,
                 ⟨none, .pan (.t 21), none⟩] [0, 3, 9, 10, 11]) (
               .skip)))))) (
          .ops [
            ⟨(some 22), .bin .add (.t 11) (.k (.d (.lit (.int .i64 1)))), none⟩,
            ⟨(some 11), .mv (.t 22), none⟩] [0, 3, 9, 10, 11]))))))) (
    .seq (
     .ops [
       ⟨(some 23), .mv (.t 3), none⟩,
       ⟨(some 24), .calln 75 [.k (.nil), .t 23], none⟩,
       ⟨(some 6), .mvo 24, none⟩] [0, 6]) (
     .seq (
      .seq (
       .ops [
         ⟨(some 25), .mv (.t 0), none⟩,
         ⟨(some 26), .len false (.t 25), none⟩,
         ⟨(some 27), .mv (.k (.d (.lit (.int .i64 0)))), none⟩] [6, 25, 26, 27]) (
       .block 2 (
        .loop (
         .seq (
          .ops [
            ⟨(some 28), .bin .lss (.t 27) (.t 26), none⟩] [6, 25, 26, 27, 28]) (
          .seq (
           .cond (.t 28) (
            .skip) (
            .exit 2)) (
           .seq (
            .block 3 (
             .seq (
              .ops [
                ⟨(some 29), .ia 1 (.t 25) (.t 27), none⟩,
                ⟨(some 30), .load 1 false (.t 29), none⟩,
                ⟨(some 8), .mv (.t 30), none⟩] [6, 8, 25, 26, 27]) (
              .ops [
                ⟨(some 31), .mvo 6, none⟩,
                ⟨(some 32), .mv (.t 8), none⟩,
                ⟨(some 33), .app 9 1 16 31 (.t 32), none⟩,
                ⟨(some 6), .mvo 33, none⟩] [6, 25, 26, 27]))) (
            .ops [
              ⟨(some 34), .bin .add (.t 27) (.k (.d (.lit (.int .i64 1)))), none⟩,
              ⟨(some 27), .mv (.t 34), none⟩] [6, 25, 26, 27]))))))) (
      .seq (
       .ops [
         ⟨(some 35), .mvo 6, none⟩,
         ⟨(some 2), .mvo 35, none⟩] [2]) (
       .ret))))))
def rs55 : List RV := [.t 2 true]
theorem k55 : okFn G.tab Tryz.f55 1 c55 rs55 = true := by kernel_rfl

/-- slices.Min[[]int,int] -/
def c39 : Cd :=
 .seq (
  .ops [
    ⟨(some 2), .mv (.k (.d (.lit (.int .i64 0)))), none⟩] [0]) (
  .seq (
   .seq (
    .ops [
      ⟨(some 5), .mv (.t 0), none⟩,
      ⟨(some 6), .len false (.t 5), none⟩,
      ⟨(some 7), .bin .lss (.t 6) (.k (.d (.lit (.int .i64 1)))), none⟩] [0, 7]) (
    .cond (.t 7) (
     .ops [
       ⟨(some 8), .mki 9 (.k (.d (.lit (.string ⟨#[115, 108, 105, 99, 101, 115, 46, 77, 105, 110, 58, 32, 101, 109, 112, 116, 121, 32, 108, 105, 115, 116]⟩)))), none⟩,
       ⟨none, .pan (.t 8), none⟩] [0]) (
     .skip))) (
   .seq (
    .ops [
      ⟨(some 9), .mv (.t 0), none⟩,
      ⟨(some 10), .ia 1 (.t 9) (.k (.d (.lit (.int .i64 0)))), none⟩,
      ⟨(some 11), .load 1 false (.t 10), none⟩,
      ⟨(some 3), .mv (.t 11), none⟩] [0, 3]) (
    .seq (
     .seq (
      .ops [
        ⟨(some 4), .mv (.k (.d (.lit (.int .i64 1)))), none⟩] [0, 3, 4]) (
      .block 0 (
       .loop (
        .seq (
         .seq (
          .ops [
            ⟨(some 12), .mv (.t 4), none⟩,
            ⟨(some 13), .mv (.t 0), none⟩,
            ⟨(some 14), .len false (.t 13), none⟩,
            ⟨(some 15), .bin .lss (.t 12) (.t 14), none⟩] [0, 3, 4, 15]) (
          .cond (.t 15) (
           .skip) (
           .exit 0))) (
         .seq (
          .block 1 (
           .ops [
             ⟨(some 18), .mv (.t 3), none⟩,
             ⟨(some 19), .mv (.t 0), none⟩,
             ⟨(some 20), .mv (.t 4), none⟩,
             ⟨(some 21), .ia 1 (.t 19) (.t 20), none⟩,
             ⟨(some 22), .load 1 false (.t 21), none⟩,
             ⟨(some 23), .mx false (.t 18) (.t 22), none⟩,
             ⟨(some 3), .mv (.t 23), none⟩] [0, 3, 4])) (
          .ops [
            ⟨(some 16), .mv (.t 4), none⟩,
            ⟨(some 17), .bin .add (.t 16) (.k (.d (.lit (.int .i64 1)))), none⟩,
            ⟨(some 4), .mv (.t 17), none⟩] [0, 3, 4])))))) (
     .seq (
      .ops [
        ⟨(some 24), .mv (.t 3), none⟩,
        ⟨(some 2), .mv (.t 24), none⟩] [2]) (
      .ret)))))
def rs39 : List RV := [.t 2 false]
theorem k39 : okFn G.tab Tryz.f39 1 c39 rs39 = true := by kernel_rfl

/-- slices.Max[[]int,int] -/
def c43 : Cd :=
 .seq (
  .ops [
    ⟨(some 2), .mv (.k (.d (.lit (.int .i64 0)))), none⟩] [0]) (
  .seq (
   .seq (
    .ops [
      ⟨(some 5), .mv (.t 0), none⟩,
      ⟨(some 6), .len false (.t 5), none⟩,
      ⟨(some 7), .bin .lss (.t 6) (.k (.d (.lit (.int .i64 1)))), none⟩] [0, 7]) (
    .cond (.t 7) (
     .ops [
       ⟨(some 8), .mki 9 (.k (.d (.lit (.string ⟨#[115, 108, 105, 99, 101, 115, 46, 77, 97, 120, 58, 32, 101, 109, 112, 116, 121, 32, 108, 105, 115, 116]⟩)))), none⟩,
       ⟨none, .pan (.t 8), none⟩] [0]) (
     .skip))) (
   .seq (
    .ops [
      ⟨(some 9), .mv (.t 0), none⟩,
      ⟨(some 10), .ia 1 (.t 9) (.k (.d (.lit (.int .i64 0)))), none⟩,
      ⟨(some 11), .load 1 false (.t 10), none⟩,
      ⟨(some 3), .mv (.t 11), none⟩] [0, 3]) (
    .seq (
     .seq (
      .ops [
        ⟨(some 4), .mv (.k (.d (.lit (.int .i64 1)))), none⟩] [0, 3, 4]) (
      .block 0 (
       .loop (
        .seq (
         .seq (
          .ops [
            ⟨(some 12), .mv (.t 4), none⟩,
            ⟨(some 13), .mv (.t 0), none⟩,
            ⟨(some 14), .len false (.t 13), none⟩,
            ⟨(some 15), .bin .lss (.t 12) (.t 14), none⟩] [0, 3, 4, 15]) (
          .cond (.t 15) (
           .skip) (
           .exit 0))) (
         .seq (
          .block 1 (
           .ops [
             ⟨(some 18), .mv (.t 3), none⟩,
             ⟨(some 19), .mv (.t 0), none⟩,
             ⟨(some 20), .mv (.t 4), none⟩,
             ⟨(some 21), .ia 1 (.t 19) (.t 20), none⟩,
             ⟨(some 22), .load 1 false (.t 21), none⟩,
             ⟨(some 23), .mx true (.t 18) (.t 22), none⟩,
             ⟨(some 3), .mv (.t 23), none⟩] [0, 3, 4])) (
          .ops [
            ⟨(some 16), .mv (.t 4), none⟩,
            ⟨(some 17), .bin .add (.t 16) (.k (.d (.lit (.int .i64 1)))), none⟩,
            ⟨(some 4), .mv (.t 17), none⟩] [0, 3, 4])))))) (
     .seq (
      .ops [
        ⟨(some 24), .mv (.t 3), none⟩,
        ⟨(some 2), .mv (.t 24), none⟩] [2]) (
      .ret)))))
def rs43 : List RV := [.t 2 false]
theorem k43 : okFn G.tab Tryz.f43 1 c43 rs43 = true := by kernel_rfl

/-- slices.ContainsFunc[[]string,string] -/
def c70 : Cd :=
 .seq (
  .ops [
    ⟨(some 4), .mv (.k (.d (.lit (.bool false)))), none⟩] [0, 1]) (
  .seq (
   .ops [
     ⟨(some 5), .mv (.t 0), none⟩,
     ⟨(some 6), .mv (.t 1), none⟩,
     ⟨(some 7), .call 98 [.t 5, .t 6], none⟩,
     ⟨(some 8), .bin .geq (.t 7) (.k (.d (.lit (.int .i64 0)))), none⟩,
     ⟨(some 4), .mv (.t 8), none⟩] [4]) (
   .ret))
def rs70 : List RV := [.t 4 false]
theorem k70 : okFn G.tab Tryz.f70 2 c70 rs70 = true := by kernel_rfl

/-- slices.IndexFunc[[]string,string] -/
def c98 : Cd :=
 .seq (
  .ops [
    ⟨(some 4), .mv (.k (.d (.lit (.int .i64 0)))), none⟩] [0, 1]) (
  .seq (
   .seq (
    .ops [
      ⟨(some 6), .mv (.t 0), none⟩,
      ⟨(some 7), .len false (.t 6), none⟩,
      ⟨(some 8), .mv (.k (.d (.lit (.int .i64 0)))), none⟩] [0, 1, 7, 8]) (
    .block 0 (
     .loop (
      .seq (
       .ops [
         ⟨(some 9), .bin .lss (.t 8) (.t 7), none⟩] [0, 1, 7, 8, 9]) (
       .seq (
        .cond (.t 9) (
         .skip) (
         .exit 0)) (
        .seq (
         .block 1 (
          .seq (
           .ops [
             ⟨(some 10), .mv (.t 8), none⟩,
             ⟨(some 5), .mv (.t 10), none⟩] [0, 1, 5, 7, 8]) (
           .seq (
            .ops [
              ⟨(some 11), .mv (.t 1), none⟩,
              ⟨(some 12), .mv (.t 0), none⟩,
              ⟨(some 13), .mv (.t 5), none⟩,
              ⟨(some 14), .ia 1 (.t 12) (.t 13), none⟩,
              ⟨(some 15), .load 1 false (.t 14), none⟩,
              ⟨(some 16), .callv (.t 11) [.t 15], none⟩] [0, 1, 5, 7, 8, 16]) (
            .cond (.t 16) (
             .seq (
              .ops [
                ⟨(some 17), .mv (.t 5), none⟩,
                ⟨(some 4), .mv (.t 17), none⟩] [4]) (
              .ret)) (
             .skip))))) (
         .ops [
           ⟨(some 18), .bin .add (.t 8) (.k (.d (.lit (.int .i64 1)))), none⟩,
           ⟨(some 8), .mv (.t 18), none⟩] [0, 1, 7, 8]))))))) (
   .seq (
    .ops [
      ⟨(some 4), .mv (.k (.d (.lit (.int .i64 (-1))))), none⟩] [4]) (
    .ret)))
def rs98 : List RV := [.t 4 false]
theorem k98 : okFn G.tab Tryz.f98 2 c98 rs98 = true := by kernel_rfl

/-- slices.Contains[[]string,string] -/
def c73 : Cd :=
 .seq (
  .ops [
    ⟨(some 4), .mv (.k (.d (.lit (.bool false)))), none⟩] [0, 1]) (
  .seq (
   .ops [
     ⟨(some 5), .mv (.t 0), none⟩,
     ⟨(some 6), .mv (.t 1), none⟩,
     ⟨(some 7), .call 100 [.t 5, .t 6], none⟩,
     ⟨(some 8), .bin .geq (.t 7) (.k (.d (.lit (.int .i64 0)))), none⟩,
     ⟨(some 4), .mv (.t 8), none⟩] [4]) (
   .ret))
def rs73 : List RV := [.t 4 false]
theorem k73 : okFn G.tab Tryz.f73 2 c73 rs73 = true := by kernel_rfl

/-- slices.Index[[]string,string] -/
def c100 : Cd :=
 .seq (
  .ops [
    ⟨(some 4), .mv (.k (.d (.lit (.int .i64 0)))), none⟩] [0, 1]) (
  .seq (
   .seq (
    .ops [
      ⟨(some 6), .mv (.t 0), none⟩,
      ⟨(some 7), .len false (.t 6), none⟩,
      ⟨(some 8), .mv (.k (.d (.lit (.int .i64 0)))), none⟩] [0, 1, 7, 8]) (
    .block 0 (
     .loop (
      .seq (
       .ops [
         ⟨(some 9), .bin .lss (.t 8) (.t 7), none⟩] [0, 1, 7, 8, 9]) (
       .seq (
        .cond (.t 9) (
         .skip) (
         .exit 0)) (
        .seq (
         .block 1 (
          .seq (
           .ops [
             ⟨(some 10), .mv (.t 8), none⟩,
             ⟨(some 5), .mv (.t 10), none⟩] [0, 1, 5, 7, 8]) (
           .seq (
            .ops [
              ⟨(some 11), .mv (.t 1), none⟩,
              ⟨(some 12), .mv (.t 0), none⟩,
              ⟨(some 13), .mv (.t 5), none⟩,
              ⟨(some 14), .ia 1 (.t 12) (.t 13), none⟩,
              ⟨(some 15), .load 1 false (.t 14), none⟩,
              ⟨(some 16), .bin .eql (.t 11) (.t 15), none⟩] [0, 1, 5, 7, 8, 16]) (
            .cond (.t 16) (
             .seq (
              .ops [
                ⟨(some 17), .mv (.t 5), none⟩,
                ⟨(some 4), .mv (.t 17), none⟩] [4]) (
              .ret)) (
             .skip))))) (
         .ops [
           ⟨(some 18), .bin .add (.t 8) (.k (.d (.lit (.int .i64 1)))), none⟩,
           ⟨(some 8), .mv (.t 18), none⟩] [0, 1, 7, 8]))))))) (
   .seq (
    .ops [
      ⟨(some 4), .mv (.k (.d (.lit (.int .i64 (-1))))), none⟩] [4]) (
    .ret)))
def rs100 : List RV := [.t 4 false]
theorem k100 : okFn G.tab Tryz.f100 2 c100 rs100 = true := by kernel_rfl

/-- slices.EqualFunc[[]testbench/api.Tseq,[]testbench/api.Tseq,testbench/api.Tseq,testbench/api.Tseq] -/
def c61 : Cd :=
 .seq (
  .ops [
    ⟨(some 6), .mv (.k (.d (.lit (.bool false)))), none⟩] [0, 1, 2]) (
  .seq (
   .seq (
    .ops [
      ⟨(some 10), .mv (.t 0), none⟩,
      ⟨(some 11), .len false (.t 10), none⟩,
      ⟨(some 12), .mv (.t 1), none⟩,
      ⟨(some 13), .len false (.t 12), none⟩,
      ⟨(some 14), .bin .neq (.t 11) (.t 13), none⟩] [0, 1, 2, 14]) (
    .cond (.t 14) (
     .seq (
      .ops [
        ⟨(some 6), .mv (.k (.d (.lit (.bool false)))), none⟩] [6]) (
      .ret)) (
     .skip))) (
   .seq (
    .seq (
     .ops [
       ⟨(some 15), .mv (.t 0), none⟩,
       ⟨(some 16), .len false (.t 15), none⟩,
       ⟨(some 17), .mv (.k (.d (.lit (.int .i64 0)))), none⟩] [1, 2, 15, 16, 17]) (
     .block 0 (
      .loop (
       .seq (
        .ops [
          ⟨(some 18), .bin .lss (.t 17) (.t 16), none⟩] [1, 2, 15, 16, 17, 18]) (
        .seq (
         .cond (.t 18) (
          .skip) (
          .exit 0)) (
         .seq (
          .block 1 (
           .seq (
            .ops [
              ⟨(some 19), .mv (.t 17), none⟩,
              ⟨(some 20), .ia 9 (.t 15) (.t 17), none⟩,
              ⟨(some 21), .load 9 true (.t 20), none⟩,
              ⟨(some 8), .new 27 [.d (.lit (.int .i64 0)), .d (.lit (.int .i64 0)), .d (.lit (.int .i64 0)), .d (.lit (.int .i64 0)), .d (.lit (.int .i64 0)), .d (.lit (.string ⟨#[]⟩)), .nil, .d (.lit (.string ⟨#[]⟩)), .nil], none⟩,
              ⟨(some 7), .mv (.t 19), none⟩,
              ⟨none, .sto 9 (.t 8) (.t 21), none⟩] [1, 2, 7, 8, 15, 16, 17]) (
            .seq (
             .ops [
               ⟨(some 22), .mv (.t 1), none⟩,
               ⟨(some 23), .mv (.t 7), none⟩,
               ⟨(some 24), .ia 9 (.t 22) (.t 23), none⟩,
               ⟨(some 25), .load 9 true (.t 24), none⟩,
               ⟨(some 9), .new 27 [.d (.lit (.int .i64 0)), .d (.lit (.int .i64 0)), .d (.lit (.int .i64 0)), .d (.lit (.int .i64 0)), .d (.lit (.int .i64 0)), .d (.lit (.string ⟨#[]⟩)), .nil, .d (.lit (.string ⟨#[]⟩)), .nil], none⟩,
               ⟨none, .sto 9 (.t 9) (.t 25), none⟩] [1, 2, 8, 9, 15, 16, 17]) (
             .seq (
              .ops [
                ⟨(some 26), .mv (.t 2), none⟩,
                ⟨(some 27), .load 9 true (.t 8), none⟩,
                ⟨(some 28), .load 9 true (.t 9), none⟩,
                ⟨(some 29), .callv (.t 26) [.t 27, .t 28], none⟩,
                ⟨(some 30), .un .not (.t 29), none⟩] [1, 2, 15, 16, 17, 30]) (
              .cond (.t 30) (
               .seq (
                .ops [
                  ⟨(some 6), .mv (.k (.d (.lit (.bool false)))), none⟩] [6]) (
                .ret)) (
               .skip)))))) (
          .ops [
            ⟨(some 31), .bin .add (.t 17) (.k (.d (.lit (.int .i64 1)))), none⟩,
            ⟨(some 17), .mv (.t 31), none⟩] [1, 2, 15, 16, 17]))))))) (
    .seq (
     .ops [
       ⟨(some 6), .mv (.k (.d (.lit (.bool true)))), none⟩] [6]) (
     .ret))))
def rs61 : List RV := [.t 6 false]
theorem k61 : okFn G.tab Tryz.f61 3 c61 rs61 = true := by kernel_rfl

end Go.Proofs.YtbhippphcmkjnaaGreatDoor
