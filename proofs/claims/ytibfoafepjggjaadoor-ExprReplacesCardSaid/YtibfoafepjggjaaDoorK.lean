/-
  Code of functions in the plain world.
-/
import Derived.Test.YtibfoafepjggjaaDoorProg
import Derived.Test.YtibfoafepjggjaaDoorA20
import Derived.KernelRfl
import Derived.Test.YtibfoafepjggjaaDoorNames
namespace Go.Proofs.YtibfoafepjggjaaDoor
open Go.RowKit
set_option maxRecDepth 100000

noncomputable def G : Cx := cx Tryd.prog (fun g => if g = 0 then some [.sl (kwList.map fun s => [.lit (.string s)])] else none) (by kernel_rfl)
/-- testbench/expr.Same -/
def c29 : Cd :=
 .seq (
  .ops [
    ⟨(some 2), .box 24 (.t 0), none⟩,
    ⟨(some 3), .box 24 (.t 1), none⟩,
    ⟨(some 4), .mv (.k (.d (.lit (.bool false)))), none⟩] [2, 3]) (
  .seq (
   .ops [
     ⟨(some 5), .fa 0 (.t 2), none⟩,
     ⟨(some 6), .load 1 false (.t 5), none⟩,
     ⟨(some 7), .fa 0 (.t 3), none⟩,
     ⟨(some 8), .load 1 false (.t 7), none⟩,
     ⟨(some 9), .bin .eql (.t 6) (.t 8), none⟩,
     ⟨(some 10), .mv (.t 9), none⟩,
     ⟨(some 11), .fa 1 (.t 2), (some (10, true))⟩,
     ⟨(some 12), .load 1 false (.t 11), (some (10, true))⟩,
     ⟨(some 13), .fa 1 (.t 3), (some (10, true))⟩,
     ⟨(some 14), .load 1 false (.t 13), (some (10, true))⟩,
     ⟨(some 15), .bin .eql (.t 12) (.t 14), (some (10, true))⟩,
     ⟨(some 16), .pick (.t 10) (.t 15) (.k (.d (.lit (.bool false)))), none⟩,
     ⟨(some 17), .mv (.t 16), none⟩,
     ⟨(some 18), .fa 2 (.t 2), (some (17, true))⟩,
     ⟨(some 19), .load 1 false (.t 18), (some (17, true))⟩,
     ⟨(some 20), .fa 2 (.t 3), (some (17, true))⟩,
     ⟨(some 21), .load 1 false (.t 20), (some (17, true))⟩,
     ⟨(some 22), .bin .eql (.t 19) (.t 21), (some (17, true))⟩,
     ⟨(some 23), .pick (.t 17) (.t 22) (.k (.d (.lit (.bool false)))), none⟩,
     ⟨(some 24), .mv (.t 23), none⟩,
     ⟨(some 25), .fa 3 (.t 2), (some (24, true))⟩,
     ⟨(some 26), .load 1 false (.t 25), (some (24, true))⟩,
     ⟨(some 27), .fa 3 (.t 3), (some (24, true))⟩,
     ⟨(some 28), .load 1 false (.t 27), (some (24, true))⟩,
     ⟨(some 29), .call 51 [.t 26, .t 28, .k (.fn 29 [])], (some (24, true))⟩,
     ⟨(some 30), .pick (.t 24) (.t 29) (.k (.d (.lit (.bool false)))), none⟩,
     ⟨(some 4), .mv (.t 30), none⟩] [4]) (
   .ret))
def rs29 : List RV := [.t 4 false]
theorem k29 : okFn G.tab Tryd.f29 2 c29 rs29 = true := by kernel_rfl

/-- testbench/testbenchref08.Same -/
def c30 : Cd :=
 .seq (
  .ops [
    ⟨(some 2), .box 24 (.t 0), none⟩,
    ⟨(some 3), .box 24 (.t 1), none⟩,
    ⟨(some 4), .mv (.k (.d (.lit (.bool false)))), none⟩] [2, 3]) (
  .seq (
   .seq (
    .ops [
      ⟨(some 6), .fa 0 (.t 2), none⟩,
      ⟨(some 7), .load 1 false (.t 6), none⟩,
      ⟨(some 8), .fa 0 (.t 3), none⟩,
      ⟨(some 9), .load 1 false (.t 8), none⟩,
      ⟨(some 10), .bin .neq (.t 7) (.t 9), none⟩,
      ⟨(some 11), .mv (.t 10), none⟩,
      ⟨(some 12), .fa 1 (.t 2), (some (11, false))⟩,
      ⟨(some 13), .load 1 false (.t 12), (some (11, false))⟩,
      ⟨(some 14), .fa 1 (.t 3), (some (11, false))⟩,
      ⟨(some 15), .load 1 false (.t 14), (some (11, false))⟩,
      ⟨(some 16), .bin .neq (.t 13) (.t 15), (some (11, false))⟩,
      ⟨(some 17), .pick (.t 11) (.k (.d (.lit (.bool true)))) (.t 16), none⟩,
      ⟨(some 18), .mv (.t 17), none⟩,
      ⟨(some 19), .fa 2 (.t 2), (some (18, false))⟩,
      ⟨(some 20), .load 1 false (.t 19), (some (18, false))⟩,
      ⟨(some 21), .fa 2 (.t 3), (some (18, false))⟩,
      ⟨(some 22), .load 1 false (.t 21), (some (18, false))⟩,
      ⟨(some 23), .bin .neq (.t 20) (.t 22), (some (18, false))⟩,
      ⟨(some 24), .pick (.t 18) (.k (.d (.lit (.bool true)))) (.t 23), none⟩,
      ⟨(some 25), .mv (.t 24), none⟩,
      ⟨(some 26), .fa 3 (.t 2), (some (25, false))⟩,
      ⟨(some 27), .load 1 false (.t 26), (some (25, false))⟩,
      ⟨(some 28), .len false (.t 27), (some (25, false))⟩,
      ⟨(some 29), .fa 3 (.t 3), (some (25, false))⟩,
      ⟨(some 30), .load 1 false (.t 29), (some (25, false))⟩,
      ⟨(some 31), .len false (.t 30), (some (25, false))⟩,
      ⟨(some 32), .bin .neq (.t 28) (.t 31), (some (25, false))⟩,
      ⟨(some 33), .pick (.t 25) (.k (.d (.lit (.bool true)))) (.t 32), none⟩] [2, 3, 33]) (
    .cond (.t 33) (
     .seq (
      .ops [
        ⟨(some 4), .mv (.k (.d (.lit (.bool false)))), none⟩] [4]) (
      .ret)) (
     .skip))) (
   .seq (
    .seq (
     .ops [
       ⟨(some 5), .mv (.k (.d (.lit (.int .i64 0)))), none⟩] [2, 3, 5]) (
     .block 0 (
      .loop (
       .seq (
        .seq (
         .ops [
           ⟨(some 34), .mv (.t 5), none⟩,
           ⟨(some 35), .fa 3 (.t 2), none⟩,
           ⟨(some 36), .load 1 false (.t 35), none⟩,
           ⟨(some 37), .len false (.t 36), none⟩,
           ⟨(some 38), .bin .lss (.t 34) (.t 37), none⟩] [2, 3, 5, 38]) (
         .cond (.t 38) (
          .skip) (
          .exit 0))) (
        .seq (
         .block 1 (
          .seq (
           .draw [
             ⟨(some 41), .fa 3 (.t 2), none⟩,
             ⟨(some 42), .load 1 false (.t 41), none⟩,
             ⟨(some 43), .mv (.t 5), none⟩,
             ⟨(some 44), .ia 4 (.t 42) (.t 43), none⟩,
             ⟨(some 45), .load 4 true (.t 44), none⟩,
             ⟨(some 46), .fa 3 (.t 3), none⟩,
             ⟨(some 47), .load 1 false (.t 46), none⟩,
             ⟨(some 48), .mv (.t 5), none⟩,
             ⟨(some 49), .ia 4 (.t 47) (.t 48), none⟩,
             ⟨(some 50), .load 4 true (.t 49), none⟩,
             ⟨(some 51), .call 30 [.t 45, .t 50], none⟩,
             ⟨(some 52), .un .not (.t 51), none⟩] [2, 3, 5, 52]) (
           .cond (.t 52) (
            .seq (
             .ops [
               ⟨(some 4), .mv (.k (.d (.lit (.bool false)))), none⟩] [4]) (
             .ret)) (
            .skip)))) (
         .ops [
           ⟨(some 39), .mv (.t 5), none⟩,
           ⟨(some 40), .bin .add (.t 39) (.k (.d (.lit (.int .i64 1)))), none⟩,
           ⟨(some 5), .mv (.t 40), none⟩] [2, 3, 5])))))) (
    .seq (
     .ops [
       ⟨(some 4), .mv (.k (.d (.lit (.bool true)))), none⟩] [4]) (
     .ret))))
def rs30 : List RV := [.t 4 false]
theorem k30 : okFn G.tab Tryd.f30 2 c30 rs30 = true := by kernel_rfl

/-- slices.EqualFunc[[]testbench/api.Expr,[]testbench/api.Expr,testbench/api.Expr,testbench/api.Expr] -/
def c51 : Cd :=
 .seq (
  .ops [
    ⟨(some 6), .mv (.k (.d (.lit (.bool false)))), none⟩] [0, 1, 2]) (
  .seq (
   .seq (
    .ops [
      ⟨(some 10), .mv (.t 0), none⟩,
      ⟨(some 11), .len false (.t 10), none⟩,
      ⟨(some 12), .mv (.t 1), none⟩,
      ⟨(some 13), .len false (.t 12), none⟩,
      ⟨(some 14), .bin .neq (.t 11) (.t 13), none⟩] [0, 1, 2, 14]) (
    .cond (.t 14) (
     .seq (
      .ops [
        ⟨(some 6), .mv (.k (.d (.lit (.bool false)))), none⟩] [6]) (
      .ret)) (
     .skip))) (
   .seq (
    .seq (
     .ops [
       ⟨(some 15), .mv (.t 0), none⟩,
       ⟨(some 16), .len false (.t 15), none⟩,
       ⟨(some 17), .mv (.k (.d (.lit (.int .i64 0)))), none⟩] [1, 2, 15, 16, 17]) (
     .block 0 (
      .loop (
       .seq (
        .ops [
          ⟨(some 18), .bin .lss (.t 17) (.t 16), none⟩] [1, 2, 15, 16, 17, 18]) (
        .seq (
         .cond (.t 18) (
          .skip) (
          .exit 0)) (
         .seq (
          .block 1 (
           .seq (
            .ops [
              ⟨(some 19), .mv (.t 17), none⟩,
              ⟨(some 20), .ia 4 (.t 15) (.t 17), none⟩,
              ⟨(some 21), .load 4 true (.t 20), none⟩,
              ⟨(some 8), .new 24 [.d (.lit (.int .i64 0)), .d (.lit (.int .i64 0)), .d (.lit (.string ⟨#[]⟩)), .nil], none⟩,
              ⟨(some 7), .mv (.t 19), none⟩,
              ⟨none, .sto 4 (.t 8) (.t 21), none⟩] [1, 2, 7, 8, 15, 16, 17]) (
            .seq (
             .ops [
               ⟨(some 22), .mv (.t 1), none⟩,
               ⟨(some 23), .mv (.t 7), none⟩,
               ⟨(some 24), .ia 4 (.t 22) (.t 23), none⟩,
               ⟨(some 25), .load 4 true (.t 24), none⟩,
               ⟨(some 9), .new 24 [.d (.lit (.int .i64 0)), .d (.lit (.int .i64 0)), .d (.lit (.string ⟨#[]⟩)), .nil], none⟩,
               ⟨none, .sto 4 (.t 9) (.t 25), none⟩] [1, 2, 8, 9, 15, 16, 17]) (
             .seq (
              .ops [
                ⟨(some 26), .mv (.t 2), none⟩,
                ⟨(some 27), .load 4 true (.t 8), none⟩,
                ⟨(some 28), .load 4 true (.t 9), none⟩,
                ⟨(some 29), .callv (.t 26) [.t 27, .t 28], none⟩,
                ⟨(some 30), .un .not (.t 29), none⟩] [1, 2, 15, 16, 17, 30]) (
              .cond (.t 30) (
               .seq (
                .ops [
                  ⟨(some 6), .mv (.k (.d (.lit (.bool false)))), none⟩] [6]) (
                .ret)) (
               .skip)))))) (
          .ops [
            ⟨(some 31), .bin .add (.t 17) (.k (.d (.lit (.int .i64 1)))), none⟩,
            ⟨(some 17), .mv (.t 31), none⟩] [1, 2, 15, 16, 17]))))))) (
    .seq (
     .ops [
       ⟨(some 6), .mv (.k (.d (.lit (.bool true)))), none⟩] [6]) (
     .ret))))
def rs51 : List RV := [.t 6 false]
theorem k51 : okFn G.tab Tryd.f51 3 c51 rs51 = true := by kernel_rfl

/-- testbench/testbenchlaw08.ExprSame -/
def c7 : Cd :=
 .seq (
  .ops [
    ⟨(some 2), .box 24 (.t 0), none⟩,
    ⟨(some 3), .box 24 (.t 1), none⟩,
    ⟨(some 4), .mv (.k (.d (.lit (.bool false)))), none⟩] [2, 3]) (
  .seq (
   .seq (
    .ops [
      ⟨(some 5), .load 4 true (.t 2), none⟩,
      ⟨(some 6), .call 9 [.t 5, .k (.d (.lit (.int .i64 60)))], none⟩,
      ⟨(some 7), .un .not (.t 6), none⟩,
      ⟨(some 8), .mv (.t 7), none⟩,
      ⟨(some 9), .load 4 true (.t 3), (some (8, false))⟩,
      ⟨(some 10), .call 9 [.t 9, .k (.d (.lit (.int .i64 60)))], (some (8, false))⟩,
      ⟨(some 11), .un .not (.t 10), (some (8, false))⟩,
      ⟨(some 12), .pick (.t 8) (.k (.d (.lit (.bool true)))) (.t 11), none⟩] [2, 3, 12]) (
    .cond (.t 12) (
     .seq (
      .ops [
        ⟨(some 13), .call 10 [], none⟩,
        ⟨(some 4), .mv (.t 13), none⟩] [4]) (
      .ret)) (
     .skip))) (
   .seq (
    .draw [
      ⟨(some 14), .load 4 true (.t 2), none⟩,
      ⟨(some 15), .load 4 true (.t 3), none⟩,
      ⟨(some 16), .call 29 [.t 14, .t 15], none⟩,
      ⟨(some 17), .load 4 true (.t 2), none⟩,
      ⟨(some 18), .load 4 true (.t 3), none⟩,
      ⟨(some 19), .call 30 [.t 17, .t 18], none⟩,
      ⟨(some 20), .binb .eql (.t 16) (.t 19), none⟩,
      ⟨(some 21), .mv (.t 20), none⟩,
      ⟨(some 22), .load 4 true (.t 3), (some (21, true))⟩,
      ⟨(some 23), .load 4 true (.t 2), (some (21, true))⟩,
      ⟨(some 24), .call 29 [.t 22, .t 23], (some (21, true))⟩,
      ⟨(some 25), .load 4 true (.t 2), (some (21, true))⟩,
      ⟨(some 26), .load 4 true (.t 3), (some (21, true))⟩,
      ⟨(some 27), .call 30 [.t 25, .t 26], (some (21, true))⟩,
      ⟨(some 28), .binb .eql (.t 24) (.t 27), (some (21, true))⟩,
      ⟨(some 29), .pick (.t 21) (.t 28) (.k (.d (.lit (.bool false)))), none⟩,
      ⟨(some 30), .mv (.t 29), none⟩,
      ⟨(some 31), .load 4 true (.t 2), (some (30, true))⟩,
      ⟨(some 32), .load 4 true (.t 2), (some (30, true))⟩,
      ⟨(some 33), .call 29 [.t 31, .t 32], (some (30, true))⟩,
      ⟨(some 34), .pick (.t 30) (.t 33) (.k (.d (.lit (.bool false)))), none⟩,
      ⟨(some 35), .mv (.t 34), none⟩,
      ⟨(some 36), .call 10 [], (some (35, true))⟩,
      ⟨(some 37), .pick (.t 35) (.t 36) (.k (.d (.lit (.bool false)))), none⟩,
      ⟨(some 4), .mv (.t 37), none⟩] [4]) (
    .ret)))
def rs7 : List RV := [.t 4 false]
theorem k7 : okFn G.tab Tryd.f7 2 c7 rs7 = true := by kernel_rfl

/-- testbench/testbenchlaw08.texts -/
def c17 : Cd :=
 .seq (
  .ops [
    ⟨(some 4), .mv (.k (.d (.lit (.bool false)))), none⟩] [0, 1]) (
  .seq (
   .seq (
    .ops [
      ⟨(some 6), .mv (.t 0), none⟩,
      ⟨(some 7), .len false (.t 6), none⟩,
      ⟨(some 8), .mv (.t 1), none⟩,
      ⟨(some 9), .len false (.t 8), none⟩,
      ⟨(some 10), .bin .neq (.t 7) (.t 9), none⟩] [0, 1, 10]) (
    .cond (.t 10) (
     .seq (
      .ops [
        ⟨(some 4), .mv (.k (.d (.lit (.bool false)))), none⟩] [4]) (
      .ret)) (
     .skip))) (
   .seq (
    .seq (
     .ops [
       ⟨(some 5), .mv (.k (.d (.lit (.int .i64 0)))), none⟩] [0, 1, 5]) (
     .block 0 (
      .loop (
       .seq (
        .seq (
         .ops [
           ⟨(some 11), .mv (.t 5), none⟩,
           ⟨(some 12), .mv (.t 0), none⟩,
           ⟨(some 13), .len false (.t 12), none⟩,
           ⟨(some 14), .bin .lss (.t 11) (.t 13), none⟩] [0, 1, 5, 14]) (
         .cond (.t 14) (
          .skip) (
          .exit 0))) (
        .seq (
         .block 1 (
          .seq (
           .draw [
             ⟨(some 17), .mv (.t 0), none⟩,
             ⟨(some 18), .mv (.t 5), none⟩,
             ⟨(some 19), .ia 1 (.t 17) (.t 18), none⟩,
             ⟨(some 20), .load 1 false (.t 19), none⟩,
             ⟨(some 21), .mv (.t 1), none⟩,
             ⟨(some 22), .mv (.t 5), none⟩,
             ⟨(some 23), .ia 1 (.t 21) (.t 22), none⟩,
             ⟨(some 24), .load 1 false (.t 23), none⟩,
             ⟨(some 25), .bin .neq (.t 20) (.t 24), none⟩] [0, 1, 5, 25]) (
           .cond (.t 25) (
            .seq (
             .ops [
               ⟨(some 4), .mv (.k (.d (.lit (.bool false)))), none⟩] [4]) (
             .ret)) (
            .skip)))) (
         .ops [
           ⟨(some 15), .mv (.t 5), none⟩,
           ⟨(some 16), .bin .add (.t 15) (.k (.d (.lit (.int .i64 1)))), none⟩,
           ⟨(some 5), .mv (.t 16), none⟩] [0, 1, 5])))))) (
    .seq (
     .ops [
       ⟨(some 4), .mv (.k (.d (.lit (.bool true)))), none⟩] [4]) (
     .ret))))
def rs17 : List RV := [.t 4 false]
theorem k17 : okFn G.tab Tryd.f17 2 c17 rs17 = true := by kernel_rfl

/-- testbench/testbenchlaw08.ExprShapes -/
def c3 : Cd :=
 .seq (
  .ops [
    ⟨(some 2), .box 24 (.t 0), none⟩,
    ⟨(some 4), .mv (.k (.d (.lit (.bool false)))), none⟩] [1, 2]) (
  .seq (
   .seq (
    .ops [
      ⟨(some 5), .load 4 true (.t 2), none⟩,
      ⟨(some 6), .call 9 [.t 5, .k (.d (.lit (.int .i64 450)))], none⟩,
      ⟨(some 7), .un .not (.t 6), none⟩] [1, 2, 7]) (
    .cond (.t 7) (
     .seq (
      .ops [
        ⟨(some 8), .call 10 [], none⟩,
        ⟨(some 4), .mv (.t 8), none⟩] [4]) (
      .ret)) (
     .skip))) (
   .seq (
    .draw [
      ⟨(some 9), .mv (.t 1), none⟩,
      ⟨(some 10), .call 11 [.t 9], none⟩,
      ⟨(some 11), .mv (.t 1), none⟩,
      ⟨(some 12), .call 12 [.t 11], none⟩,
      ⟨(some 13), .bin .eql (.t 10) (.t 12), none⟩,
      ⟨(some 14), .mv (.t 13), none⟩,
      ⟨(some 15), .fa 0 (.t 2), (some (14, true))⟩,
      ⟨(some 16), .load 1 false (.t 15), (some (14, true))⟩,
      ⟨(some 17), .call 11 [.t 16], (some (14, true))⟩,
      ⟨(some 18), .fa 0 (.t 2), (some (14, true))⟩,
      ⟨(some 19), .load 1 false (.t 18), (some (14, true))⟩,
      ⟨(some 20), .call 12 [.t 19], (some (14, true))⟩,
      ⟨(some 21), .bin .eql (.t 17) (.t 20), (some (14, true))⟩,
      ⟨(some 22), .pick (.t 14) (.t 21) (.k (.d (.lit (.bool false)))), none⟩,
      ⟨(some 23), .mv (.t 22), none⟩,
      ⟨(some 24), .load 4 true (.t 2), (some (23, true))⟩,
      ⟨(some 25), .call 13 [.t 24], (some (23, true))⟩,
      ⟨(some 26), .load 4 true (.t 2), (some (23, true))⟩,
      ⟨(some 27), .call 14 [.t 26], (some (23, true))⟩,
      ⟨(some 28), .bin .eql (.t 25) (.t 27), (some (23, true))⟩,
      ⟨(some 29), .pick (.t 23) (.t 28) (.k (.d (.lit (.bool false)))), none⟩,
      ⟨(some 30), .mv (.t 29), none⟩,
      ⟨(some 31), .load 4 true (.t 2), (some (30, true))⟩,
      ⟨(some 32), .call 15 [.t 31], (some (30, true))⟩,
      ⟨(some 33), .load 4 true (.t 2), (some (30, true))⟩,
      ⟨(some 34), .call 16 [.t 33], (some (30, true))⟩,
      ⟨(some 35), .bin .eql (.t 32) (.t 34), (some (30, true))⟩,
      ⟨(some 36), .pick (.t 30) (.t 35) (.k (.d (.lit (.bool false)))), none⟩,
      ⟨(some 37), .mv (.t 36), none⟩,
      ⟨(some 38), .load 4 true (.t 2), (some (37, true))⟩,
      ⟨(some 39), .call 18 [.t 38], (some (37, true))⟩,
      ⟨(some 40), .load 4 true (.t 2), (some (37, true))⟩,
      ⟨(some 41), .call 19 [.t 40], (some (37, true))⟩,
      ⟨(some 42), .call 17 [.t 39, .t 41], (some (37, true))⟩,
      ⟨(some 43), .pick (.t 37) (.t 42) (.k (.d (.lit (.bool false)))), none⟩,
      ⟨(some 44), .mv (.t 43), none⟩,
      ⟨(some 45), .load 4 true (.t 2), (some (44, true))⟩,
      ⟨(some 46), .call 20 [.t 45], (some (44, true))⟩,
      ⟨(some 47), .load 4 true (.t 2), (some (44, true))⟩,
      ⟨(some 48), .call 21 [.t 47], (some (44, true))⟩,
      ⟨(some 49), .call 17 [.t 46, .t 48], (some (44, true))⟩,
      ⟨(some 50), .pick (.t 44) (.t 49) (.k (.d (.lit (.bool false)))), none⟩,
      ⟨(some 51), .mv (.t 50), none⟩,
      ⟨(some 52), .call 10 [], (some (51, true))⟩,
      ⟨(some 53), .pick (.t 51) (.t 52) (.k (.d (.lit (.bool false)))), none⟩,
      ⟨(some 4), .mv (.t 53), none⟩] [4]) (
    .ret)))
def rs3 : List RV := [.t 4 false]
theorem k3 : okFn G.tab Tryd.f3 2 c3 rs3 = true := by kernel_rfl

/-- testbench/testbenchref08.Subst -/
def c31 : Cd :=
 .seq (
  .ops [
    ⟨(some 3), .box 24 (.t 0), none⟩,
    ⟨(some 5), .box 24 (.t 2), none⟩,
    ⟨(some 6), .new 24 [.d (.lit (.int .i64 0)), .d (.lit (.int .i64 0)), .d (.lit (.string ⟨#[]⟩)), .nil], none⟩] [1, 3, 5, 6]) (
  .seq (
   .seq (
    .ops [
      ⟨(some 9), .fa 0 (.t 3), none⟩,
      ⟨(some 10), .load 1 false (.t 9), none⟩,
      ⟨(some 11), .bin .eql (.t 10) (.k (.d (.lit (.int .i64 2)))), none⟩,
      ⟨(some 12), .mv (.t 11), none⟩,
      ⟨(some 13), .fa 2 (.t 3), (some (12, true))⟩,
      ⟨(some 14), .load 1 false (.t 13), (some (12, true))⟩,
      ⟨(some 15), .mv (.t 1), (some (12, true))⟩,
      ⟨(some 16), .bin .eql (.t 14) (.t 15), (some (12, true))⟩,
      ⟨(some 17), .pick (.t 12) (.t 16) (.k (.d (.lit (.bool false)))), none⟩] [1, 3, 5, 6, 17]) (
    .cond (.t 17) (
     .seq (
      .ops [
        ⟨(some 18), .load 4 true (.t 5), none⟩,
        ⟨none, .sto 4 (.t 6) (.t 18), none⟩] [6]) (
      .ret)) (
     .skip))) (
   .seq (
    .ops [
      ⟨(some 19), .fa 0 (.t 3), none⟩,
      ⟨(some 20), .load 1 false (.t 19), none⟩,
      ⟨(some 21), .fa 1 (.t 3), none⟩,
      ⟨(some 22), .load 1 false (.t 21), none⟩,
      ⟨(some 23), .fa 2 (.t 3), none⟩,
      ⟨(some 24), .load 1 false (.t 23), none⟩,
      ⟨(some 25), .bld [.d (.lit (.int .i64 0)), .d (.lit (.int .i64 0)), .d (.lit (.string ⟨#[]⟩)), .nil] [(0, 1, .t 20), (1, 1, .t 22), (2, 1, .t 24)], none⟩,
      ⟨(some 7), .new 24 [.d (.lit (.int .i64 0)), .d (.lit (.int .i64 0)), .d (.lit (.string ⟨#[]⟩)), .nil], none⟩,
      ⟨none, .sto 4 (.t 7) (.t 25), none⟩] [1, 3, 5, 6, 7]) (
    .seq (
     .seq (
      .ops [
        ⟨(some 8), .mv (.k (.d (.lit (.int .i64 0)))), none⟩] [1, 3, 5, 6, 7, 8]) (
      .block 0 (
       .loop (
        .seq (
         .seq (
          .ops [
            ⟨(some 26), .mv (.t 8), none⟩,
            ⟨(some 27), .fa 3 (.t 3), none⟩,
            ⟨(some 28), .load 1 false (.t 27), none⟩,
            ⟨(some 29), .len false (.t 28), none⟩,
            ⟨(some 30), .bin .lss (.t 26) (.t 29), none⟩] [1, 3, 5, 6, 7, 8, 30]) (
          .cond (.t 30) (
           .skip) (
           .exit 0))) (
         .seq (
          .block 1 (
           .drawa [
             ⟨(some 33), .fa 3 (.t 7), none⟩,
             ⟨(some 34), .ldo (.t 33), none⟩,
             ⟨(some 35), .fa 3 (.t 3), none⟩,
             ⟨(some 36), .load 1 false (.t 35), none⟩,
             ⟨(some 37), .mv (.t 8), none⟩,
             ⟨(some 38), .ia 4 (.t 36) (.t 37), none⟩,
             ⟨(some 39), .load 4 true (.t 38), none⟩,
             ⟨(some 40), .mv (.t 1), none⟩,
             ⟨(some 41), .load 4 true (.t 5), none⟩,
             ⟨(some 42), .call 31 [.t 39, .t 40, .t 41], none⟩,
             ⟨(some 43), .mks 24 4 [.t 42], none⟩,
             ⟨(some 44), .app 24 4 56 34 (.t 43), none⟩,
             ⟨(some 45), .fa 3 (.t 7), none⟩,
             ⟨none, .stoo (.t 45) 44, none⟩] [1, 3, 5, 6, 7, 8])) (
          .ops [
            ⟨(some 31), .mv (.t 8), none⟩,
            ⟨(some 32), .bin .add (.t 31) (.k (.d (.lit (.int .i64 1)))), none⟩,
            ⟨(some 8), .mv (.t 32), none⟩] [1, 3, 5, 6, 7, 8])))))) (
     .seq (
      .ops [
        ⟨(some 46), .load 4 true (.t 7), none⟩,
        ⟨none, .sto 4 (.t 6) (.t 46), none⟩] [6]) (
      .ret)))))
def rs31 : List RV := [.c 6 4 true]
theorem k31 : okFn G.tab Tryd.f31 3 c31 rs31 = true := by kernel_rfl

/-- testbench/testbenchlaw08.ExprSubsts -/
def c8 : Cd :=
 .seq (
  .ops [
    ⟨(some 3), .box 24 (.t 0), none⟩,
    ⟨(some 5), .box 24 (.t 2), none⟩,
    ⟨(some 6), .mv (.k (.d (.lit (.bool false)))), none⟩] [1, 3, 5]) (
  .seq (
   .seq (
    .ops [
      ⟨(some 8), .load 4 true (.t 3), none⟩,
      ⟨(some 9), .call 9 [.t 8, .k (.d (.lit (.int .i64 60)))], none⟩,
      ⟨(some 10), .un .not (.t 9), none⟩,
      ⟨(some 11), .mv (.t 10), none⟩,
      ⟨(some 12), .load 4 true (.t 5), (some (11, false))⟩,
      ⟨(some 13), .call 9 [.t 12, .k (.d (.lit (.int .i64 20)))], (some (11, false))⟩,
      ⟨(some 14), .un .not (.t 13), (some (11, false))⟩,
      ⟨(some 15), .pick (.t 11) (.k (.d (.lit (.bool true)))) (.t 14), none⟩,
      ⟨(some 16), .mv (.t 15), none⟩,
      ⟨(some 17), .mv (.t 1), (some (16, false))⟩,
      ⟨(some 18), .len true (.t 17), (some (16, false))⟩,
      ⟨(some 19), .bin .gtr (.t 18) (.k (.d (.lit (.int .i64 40)))), (some (16, false))⟩,
      ⟨(some 20), .pick (.t 16) (.k (.d (.lit (.bool true)))) (.t 19), none⟩] [1, 3, 5, 20]) (
    .cond (.t 20) (
     .seq (
      .ops [
        ⟨(some 21), .call 10 [], none⟩,
        ⟨(some 6), .mv (.t 21), none⟩] [6]) (
      .ret)) (
     .skip))) (
   .seq (
    .ops [
      ⟨(some 22), .load 4 true (.t 3), none⟩,
      ⟨(some 23), .mv (.t 1), none⟩,
      ⟨(some 24), .load 4 true (.t 5), none⟩,
      ⟨(some 25), .call 28 [.t 22, .t 23, .t 24], none⟩,
      ⟨(some 7), .new 24 [.d (.lit (.int .i64 0)), .d (.lit (.int .i64 0)), .d (.lit (.string ⟨#[]⟩)), .nil], none⟩,
      ⟨none, .sto 4 (.t 7) (.t 25), none⟩] [1, 3, 5, 7]) (
    .seq (
     .draw [
       ⟨(some 26), .load 4 true (.t 7), none⟩,
       ⟨(some 27), .load 4 true (.t 3), none⟩,
       ⟨(some 28), .mv (.t 1), none⟩,
       ⟨(some 29), .load 4 true (.t 5), none⟩,
       ⟨(some 30), .call 31 [.t 27, .t 28, .t 29], none⟩,
       ⟨(some 31), .call 30 [.t 26, .t 30], none⟩,
       ⟨(some 32), .mv (.t 31), none⟩,
       ⟨(some 33), .load 4 true (.t 3), (some (32, true))⟩,
       ⟨(some 34), .mv (.t 1), (some (32, true))⟩,
       ⟨(some 35), .mv (.t 1), (some (32, true))⟩,
       ⟨(some 36), .call 32 [.t 35], (some (32, true))⟩,
       ⟨(some 37), .call 28 [.t 33, .t 34, .t 36], (some (32, true))⟩,
       ⟨(some 38), .load 4 true (.t 3), (some (32, true))⟩,
       ⟨(some 39), .mv (.t 1), (some (32, true))⟩,
       ⟨(some 40), .mv (.t 1), (some (32, true))⟩,
       ⟨(some 41), .call 32 [.t 40], (some (32, true))⟩,
       ⟨(some 42), .call 31 [.t 38, .t 39, .t 41], (some (32, true))⟩,
       ⟨(some 43), .call 29 [.t 37, .t 42], (some (32, true))⟩,
       ⟨(some 44), .pick (.t 32) (.t 43) (.k (.d (.lit (.bool false)))), none⟩,
       ⟨(some 45), .mv (.t 44), none⟩,
       ⟨(some 46), .call 10 [], (some (45, true))⟩,
       ⟨(some 47), .pick (.t 45) (.t 46) (.k (.d (.lit (.bool false)))), none⟩,
       ⟨(some 6), .mv (.t 47), none⟩] [6]) (
     .ret))))
def rs8 : List RV := [.t 6 false]
theorem k8 : okFn G.tab Tryd.f8 3 c8 rs8 = true := by kernel_rfl

/-- testbench/testbenchlaw08.variable -/
def c32 : Cd :=
 .seq (
  .ops [
    ⟨(some 2), .new 24 [.d (.lit (.int .i64 0)), .d (.lit (.int .i64 0)), .d (.lit (.string ⟨#[]⟩)), .nil], none⟩] [0, 2]) (
  .seq (
   .ops [
     ⟨(some 3), .mv (.t 0), none⟩,
     ⟨(some 4), .bld [.d (.lit (.int .i64 0)), .d (.lit (.int .i64 0)), .d (.lit (.string ⟨#[]⟩)), .nil] [(0, 1, .k (.d (.lit (.int .i64 2)))), (2, 1, .t 3)], none⟩,
     ⟨none, .sto 4 (.t 2) (.t 4), none⟩] [2]) (
   .ret))
def rs32 : List RV := [.c 2 4 true]
theorem k32 : okFn G.tab Tryd.f32 1 c32 rs32 = true := by kernel_rfl

/-- testbench/testbenchlaw08.ExprKnows -/
def c5 : Cd :=
 .seq (
  .ops [
    ⟨(some 2), .box 24 (.t 0), none⟩,
    ⟨(some 4), .mv (.k (.d (.lit (.bool false)))), none⟩] [1, 2]) (
  .seq (
   .seq (
    .ops [
      ⟨(some 16), .load 4 true (.t 2), none⟩,
      ⟨(some 17), .call 9 [.t 16, .k (.d (.lit (.int .i64 60)))], none⟩,
      ⟨(some 18), .un .not (.t 17), none⟩,
      ⟨(some 19), .mv (.t 18), none⟩,
      ⟨(some 20), .load 4 true (.t 2), (some (19, false))⟩,
      ⟨(some 21), .call 23 [.t 20], (some (19, false))⟩,
      ⟨(some 22), .bin .neq (.t 21) (.k (.d (.lit (.int .i64 0)))), (some (19, false))⟩,
      ⟨(some 23), .pick (.t 19) (.k (.d (.lit (.bool true)))) (.t 22), none⟩] [1, 2, 23]) (
    .cond (.t 23) (
     .seq (
      .ops [
        ⟨(some 24), .call 10 [], none⟩,
        ⟨(some 4), .mv (.t 24), none⟩] [4]) (
      .ret)) (
     .skip))) (
   .seq (
    .ops [
      ⟨(some 25), .load 4 true (.t 2), none⟩,
      ⟨(some 26), .call 19 [.t 25], none⟩,
      ⟨(some 5), .mvo 26, none⟩] [1, 2, 5]) (
    .seq (
     .ops [
       ⟨(some 27), .load 4 true (.t 2), none⟩,
       ⟨(some 28), .call 21 [.t 27], none⟩,
       ⟨(some 6), .mv (.t 28), none⟩] [1, 2, 5, 6]) (
     .seq (
      .seq (
       .ops [
         ⟨(some 7), .mv (.k (.d (.lit (.int .i64 0)))), none⟩] [1, 2, 5, 6, 7]) (
       .block 0 (
        .loop (
         .seq (
          .seq (
           .ops [
             ⟨(some 29), .mv (.t 7), none⟩,
             ⟨(some 30), .mv (.t 6), none⟩,
             ⟨(some 31), .len false (.t 30), none⟩,
             ⟨(some 32), .bin .lss (.t 29) (.t 31), none⟩] [1, 2, 5, 6, 7, 32]) (
           .cond (.t 32) (
            .skip) (
            .exit 0))) (
          .seq (
           .block 1 (
            .ops [
              ⟨(some 35), .mvo 5, none⟩,
              ⟨(some 36), .mv (.t 6), none⟩,
              ⟨(some 37), .mv (.t 7), none⟩,
              ⟨(some 38), .ia 1 (.t 36) (.t 37), none⟩,
              ⟨(some 39), .load 1 false (.t 38), none⟩,
              ⟨(some 40), .call 24 [.t 39, .k (.d (.lit (.int .i64 0)))], none⟩,
              ⟨(some 41), .mks 9 1 [.t 40], none⟩,
              ⟨(some 42), .app 9 1 16 35 (.t 41), none⟩,
              ⟨(some 5), .mvo 42, none⟩] [1, 2, 5, 6, 7])) (
           .ops [
             ⟨(some 33), .mv (.t 7), none⟩,
             ⟨(some 34), .bin .add (.t 33) (.k (.d (.lit (.int .i64 1)))), none⟩,
             ⟨(some 7), .mv (.t 34), none⟩] [1, 2, 5, 6, 7])))))) (
      .seq (
       .ops [
         ⟨(some 8), .nilo 39 2, none⟩] [1, 2, 5, 8]) (
       .seq (
        .seq (
         .ops [
           ⟨(some 9), .mv (.k (.d (.lit (.int .i64 0)))), none⟩] [1, 2, 5, 8, 9]) (
         .block 2 (
          .loop (
           .seq (
            .seq (
             .ops [
               ⟨(some 43), .mv (.t 9), none⟩,
               ⟨(some 44), .mv (.t 5), none⟩,
               ⟨(some 45), .len false (.t 44), none⟩,
               ⟨(some 46), .bin .lss (.t 43) (.t 45), none⟩] [1, 2, 5, 8, 9, 46]) (
             .cond (.t 46) (
              .skip) (
              .exit 2))) (
            .seq (
             .block 3 (
              .seq (
               .ops [
                 ⟨(some 49), .mv (.t 9), none⟩,
                 ⟨(some 50), .mv (.t 1), none⟩,
                 ⟨(some 51), .len false (.t 50), none⟩,
                 ⟨(some 52), .bin .geq (.t 49) (.t 51), none⟩,
                 ⟨(some 53), .mv (.t 52), none⟩,
                 ⟨(some 54), .mv (.t 1), (some (53, false))⟩,
                 ⟨(some 55), .mv (.t 9), (some (53, false))⟩,
                 ⟨(some 56), .ia 1 (.t 54) (.t 55), (some (53, false))⟩,
                 ⟨(some 57), .load 1 false (.t 56), (some (53, false))⟩,
                 ⟨(some 58), .un .not (.t 57), (some (53, false))⟩,
                 ⟨(some 59), .pick (.t 53) (.k (.d (.lit (.bool true)))) (.t 58), none⟩] [1, 2, 5, 8, 9, 59]) (
               .cond (.t 59) (
                .ops [
                  ⟨(some 60), .mvo 8, none⟩,
                  ⟨(some 61), .mv (.t 5), none⟩,
                  ⟨(some 62), .mv (.t 9), none⟩,
                  ⟨(some 63), .ia 1 (.t 61) (.t 62), none⟩,
                  ⟨(some 64), .load 1 false (.t 63), none⟩,
                  ⟨(some 65), .mv (.t 9), none⟩,
                  ⟨(some 66), .bin .add (.k (.d (.lit (.int .i64 3)))) (.t 65), none⟩,
                  ⟨(some 67), .bld [.d (.lit (.string ⟨#[]⟩)), .d (.lit (.int .i64 0))] [(0, 1, .t 64), (1, 1, .t 66)], none⟩,
                  ⟨(some 68), .mks 39 2 [.t 67], none⟩,
                  ⟨(some 69), .app 39 2 24 60 (.t 68), none⟩,
                  ⟨(some 8), .mvo 69, none⟩] [1, 2, 5, 8, 9]) (
                .skip)))) (
             .ops [
               ⟨(some 47), .mv (.t 9), none⟩,
               ⟨(some 48), .bin .add (.t 47) (.k (.d (.lit (.int .i64 1)))), none⟩,
               ⟨(some 9), .mv (.t 48), none⟩] [1, 2, 5, 8, 9])))))) (
        .seq (
         .ops [
           ⟨(some 10), .mv (.k (.d (.lit (.bool true)))), none⟩] [2, 5, 8, 10]) (
         .seq (
          .seq (
           .ops [
             ⟨(some 11), .mv (.k (.d (.lit (.int .i64 0)))), none⟩] [2, 5, 8, 10, 11]) (
           .block 4 (
            .loop (
             .seq (
              .seq (
               .ops [
                 ⟨(some 70), .mv (.t 11), none⟩,
                 ⟨(some 71), .mv (.t 5), none⟩,
                 ⟨(some 72), .len false (.t 71), none⟩,
                 ⟨(some 73), .bin .lss (.t 70) (.t 72), none⟩] [2, 5, 8, 10, 11, 73]) (
               .cond (.t 73) (
                .skip) (
                .exit 4))) (
              .seq (
               .block 5 (
                .seq (
                 .ops [
                   ⟨(some 12), .mv (.k (.d (.lit (.bool false)))), none⟩] [2, 5, 8, 10, 11, 12]) (
                 .seq (
                  .seq (
                   .ops [
                     ⟨(some 13), .mv (.k (.d (.lit (.int .i64 0)))), none⟩] [2, 5, 8, 10, 11, 12, 13]) (
                   .block 6 (
                    .loop (
                     .seq (
                      .seq (
                       .ops [
                         ⟨(some 76), .mv (.t 13), none⟩,
                         ⟨(some 77), .mv (.t 8), none⟩,
                         ⟨(some 78), .len false (.t 77), none⟩,
                         ⟨(some 79), .bin .lss (.t 76) (.t 78), none⟩] [2, 5, 8, 10, 11, 12, 13, 79]) (
                       .cond (.t 79) (
                        .skip) (
                        .exit 6))) (
                      .seq (
                       .block 7 (
                        .draw [
                          ⟨(some 82), .mv (.t 12), none⟩,
                          ⟨(some 83), .mv (.t 82), none⟩,
                          ⟨(some 84), .mv (.t 8), (some (83, false))⟩,
                          ⟨(some 85), .mv (.t 13), (some (83, false))⟩,
                          ⟨(some 86), .ia 2 (.t 84) (.t 85), (some (83, false))⟩,
                          ⟨(some 87), .fa 0 (.t 86), (some (83, false))⟩,
                          ⟨(some 88), .load 1 false (.t 87), (some (83, false))⟩,
                          ⟨(some 89), .mv (.t 5), (some (83, false))⟩,
                          ⟨(some 90), .mv (.t 11), (some (83, false))⟩,
                          ⟨(some 91), .ia 1 (.t 89) (.t 90), (some (83, false))⟩,
                          ⟨(some 92), .load 1 false (.t 91), (some (83, false))⟩,
                          ⟨(some 93), .bin .eql (.t 88) (.t 92), (some (83, false))⟩,
                          ⟨(some 94), .pick (.t 83) (.k (.d (.lit (.bool true)))) (.t 93), none⟩,
                          ⟨(some 12), .mv (.t 94), none⟩] [2, 5, 8, 10, 11, 12, 13])) (
                       .ops [
                         ⟨(some 80), .mv (.t 13), none⟩,
                         ⟨(some 81), .bin .add (.t 80) (.k (.d (.lit (.int .i64 1)))), none⟩,
                         ⟨(some 13), .mv (.t 81), none⟩] [2, 5, 8, 10, 11, 12, 13])))))) (
                  .ops [
                    ⟨(some 95), .mv (.t 10), none⟩,
                    ⟨(some 96), .mv (.t 95), none⟩,
                    ⟨(some 97), .mv (.t 12), (some (96, true))⟩,
                    ⟨(some 98), .pick (.t 96) (.t 97) (.k (.d (.lit (.bool false)))), none⟩,
                    ⟨(some 10), .mv (.t 98), none⟩] [2, 5, 8, 10, 11])))) (
               .ops [
                 ⟨(some 74), .mv (.t 11), none⟩,
                 ⟨(some 75), .bin .add (.t 74) (.k (.d (.lit (.int .i64 1)))), none⟩,
                 ⟨(some 11), .mv (.t 75), none⟩] [2, 5, 8, 10, 11])))))) (
          .seq (
           .ops [
             ⟨(some 100), .load 4 true (.t 2), none⟩,
             ⟨(some 101), .mv (.t 8), none⟩,
             ⟨(some 102), .call 25 [.t 100, .t 101], none⟩,
             ⟨(some 99), .mv (.t 102), none⟩,
             ⟨(some 103), .ext (.t 99) 0, none⟩,
             ⟨(some 104), .ext (.t 99) 1, none⟩,
             ⟨(some 14), .mv (.t 103), none⟩,
             ⟨(some 15), .mv (.t 104), none⟩] [10, 15]) (
           .seq (
            .ops [
              ⟨(some 105), .mv (.t 15), none⟩,
              ⟨(some 106), .bin .eql (.t 105) (.k (.d (.lit (.int .i64 0)))), none⟩,
              ⟨(some 107), .mv (.t 10), none⟩,
              ⟨(some 108), .binb .eql (.t 106) (.t 107), none⟩,
              ⟨(some 109), .mv (.t 108), none⟩,
              ⟨(some 110), .mv (.t 10), (some (109, true))⟩,
              ⟨(some 111), .mv (.t 110), (some (109, true))⟩,
              ⟨(some 112), .mv (.t 15), (some (111, false))⟩,
              ⟨(some 113), .bin .eql (.t 112) (.k (.d (.lit (.int .i64 7)))), (some (111, false))⟩,
              ⟨(some 114), .pick (.t 111) (.k (.d (.lit (.bool true)))) (.t 113), (some (109, true))⟩,
              ⟨(some 115), .pick (.t 109) (.t 114) (.k (.d (.lit (.bool false)))), none⟩,
              ⟨(some 116), .mv (.t 115), none⟩,
              ⟨(some 117), .call 10 [], (some (116, true))⟩,
              ⟨(some 118), .pick (.t 116) (.t 117) (.k (.d (.lit (.bool false)))), none⟩,
              ⟨(some 4), .mv (.t 118), none⟩] [4]) (
            .ret)))))))))))
def rs5 : List RV := [.t 4 false]
theorem k5 : okFn G.tab Tryd.f5 2 c5 rs5 = true := by kernel_rfl

/-- testbench/testbenchref08.Element -/
def c24 : Cd :=
 .seq (
  .ops [
    ⟨(some 4), .mv (.k (.d (.lit (.string ⟨#[]⟩)))), none⟩] [0, 1]) (
  .seq (
   .ops [
     ⟨(some 5), .mv (.t 0), none⟩,
     ⟨(some 6), .bin .add (.t 5) (.k (.d (.lit (.string ⟨#[91]⟩)))), none⟩,
     ⟨(some 7), .mv (.t 1), none⟩,
     ⟨(some 8), .call 42 [.t 7], none⟩,
     ⟨(some 9), .bin .add (.t 6) (.t 8), none⟩,
     ⟨(some 10), .bin .add (.t 9) (.k (.d (.lit (.string ⟨#[93]⟩)))), none⟩,
     ⟨(some 4), .mv (.t 10), none⟩] [4]) (
   .ret))
def rs24 : List RV := [.t 4 false]
theorem k24 : okFn G.tab Tryd.f24 2 c24 rs24 = true := by kernel_rfl

/-- testbench/testbenchref08.digit -/
def c42 : Cd :=
 .seq (
  .ops [
    ⟨(some 2), .mv (.k (.d (.lit (.string ⟨#[]⟩)))), none⟩] [0]) (
  .seq (
   .ops [
     ⟨(some 3), .mv (.t 0), none⟩,
     ⟨(some 4), .mv (.t 0), none⟩,
     ⟨(some 5), .bin .add (.t 4) (.k (.d (.lit (.int .i64 1)))), none⟩,
     ⟨(some 6), .sub true 0 (.k (.d (.lit (.string ⟨#[48, 49, 50, 51, 52, 53, 54, 55, 56, 57]⟩)))) (some (.t 3)) (some (.t 5)), none⟩,
     ⟨(some 2), .mv (.t 6), none⟩] [2]) (
   .ret))
def rs42 : List RV := [.t 2 false]
theorem k42 : okFn G.tab Tryd.f42 1 c42 rs42 = true := by kernel_rfl

/-- testbench/testbenchlaw08.ExprReplaces -/
def c6 : Cd :=
 .seq (
  .ops [
    ⟨(some 3), .box 24 (.t 0), none⟩,
    ⟨(some 4), .box 24 (.t 1), none⟩,
    ⟨(some 6), .mv (.k (.d (.lit (.bool false)))), none⟩] [2, 3, 4]) (
  .seq (
   .seq (
    .ops [
      ⟨(some 16), .load 4 true (.t 3), none⟩,
      ⟨(some 17), .call 9 [.t 16, .k (.d (.lit (.int .i64 60)))], none⟩,
      ⟨(some 18), .un .not (.t 17), none⟩,
      ⟨(some 19), .mv (.t 18), none⟩,
      ⟨(some 20), .load 4 true (.t 4), (some (19, false))⟩,
      ⟨(some 21), .call 9 [.t 20, .k (.d (.lit (.int .i64 20)))], (some (19, false))⟩,
      ⟨(some 22), .un .not (.t 21), (some (19, false))⟩,
      ⟨(some 23), .pick (.t 19) (.k (.d (.lit (.bool true)))) (.t 22), none⟩,
      ⟨(some 24), .mv (.t 23), none⟩,
      ⟨(some 25), .mv (.t 2), (some (24, false))⟩,
      ⟨(some 26), .call 26 [.t 25], (some (24, false))⟩,
      ⟨(some 27), .un .not (.t 26), (some (24, false))⟩,
      ⟨(some 28), .pick (.t 24) (.k (.d (.lit (.bool true)))) (.t 27), none⟩] [2, 3, 4, 28]) (
    .cond (.t 28) (
     .seq (
      .ops [
        ⟨(some 29), .call 10 [], none⟩,
        ⟨(some 6), .mv (.t 29), none⟩] [6]) (
      .ret)) (
     .skip))) (
   .seq (
    .ops [
      ⟨(some 30), .load 4 true (.t 3), none⟩,
      ⟨(some 31), .call 19 [.t 30], none⟩,
      ⟨(some 7), .mv (.t 31), none⟩] [2, 3, 4, 7]) (
    .seq (
     .ops [
       ⟨(some 33), .load 4 true (.t 4), none⟩,
       ⟨(some 34), .mv (.t 2), none⟩,
       ⟨(some 35), .call 25 [.t 33, .t 34], none⟩,
       ⟨(some 32), .mv (.t 35), none⟩,
       ⟨(some 36), .ext (.t 32) 0, none⟩,
       ⟨(some 37), .ext (.t 32) 1, none⟩,
       ⟨(some 8), .mv (.t 36), none⟩,
       ⟨(some 9), .mv (.t 37), none⟩] [2, 3, 4, 7, 8, 9]) (
     .seq (
      .seq (
       .ops [
         ⟨(some 38), .mv (.t 7), none⟩,
         ⟨(some 39), .len false (.t 38), none⟩,
         ⟨(some 40), .bin .eql (.t 39) (.k (.d (.lit (.int .i64 0)))), none⟩,
         ⟨(some 41), .mv (.t 40), none⟩,
         ⟨(some 42), .mv (.t 7), (some (41, false))⟩,
         ⟨(some 43), .ia 1 (.t 42) (.k (.d (.lit (.int .i64 0)))), (some (41, false))⟩,
         ⟨(some 44), .load 1 false (.t 43), (some (41, false))⟩,
         ⟨(some 45), .call 27 [.t 44], (some (41, false))⟩,
         ⟨(some 46), .un .not (.t 45), (some (41, false))⟩,
         ⟨(some 47), .pick (.t 41) (.k (.d (.lit (.bool true)))) (.t 46), none⟩,
         ⟨(some 48), .mv (.t 47), none⟩,
         ⟨(some 49), .mv (.t 9), (some (48, false))⟩,
         ⟨(some 50), .bin .neq (.t 49) (.k (.d (.lit (.int .i64 0)))), (some (48, false))⟩,
         ⟨(some 51), .pick (.t 48) (.k (.d (.lit (.bool true)))) (.t 50), none⟩] [2, 3, 4, 7, 8, 51]) (
       .cond (.t 51) (
        .seq (
         .ops [
           ⟨(some 52), .call 10 [], none⟩,
           ⟨(some 6), .mv (.t 52), none⟩] [6]) (
         .ret)) (
        .skip))) (
      .seq (
       .drawn [.d (.lit (.int .i64 0)), .d (.lit (.int .i64 0)), .d (.lit (.string ⟨#[]⟩)), .nil] [
         ⟨(some 53), .load 4 true (.t 3), none⟩,
         ⟨(some 54), .mv (.t 7), none⟩,
         ⟨(some 55), .ia 1 (.t 54) (.k (.d (.lit (.int .i64 0)))), none⟩,
         ⟨(some 56), .load 1 false (.t 55), none⟩,
         ⟨(some 57), .load 4 true (.t 4), none⟩,
         ⟨(some 58), .call 28 [.t 53, .t 56, .t 57], none⟩,
         ⟨(some 10), .new 24 [.d (.lit (.int .i64 0)), .d (.lit (.int .i64 0)), .d (.lit (.string ⟨#[]⟩)), .nil], none⟩,
         ⟨none, .sto 4 (.t 10) (.t 58), none⟩] [2, 3, 7, 8, 10]) (
       .seq (
        .seq (
         .ops [
           ⟨(some 59), .load 4 true (.t 10), none⟩,
           ⟨(some 60), .call 23 [.t 59], none⟩,
           ⟨(some 61), .bin .neq (.t 60) (.k (.d (.lit (.int .i64 0)))), none⟩,
           ⟨(some 62), .mv (.t 61), none⟩,
           ⟨(some 63), .load 4 true (.t 3), (some (62, false))⟩,
           ⟨(some 64), .call 23 [.t 63], (some (62, false))⟩,
           ⟨(some 65), .bin .neq (.t 64) (.k (.d (.lit (.int .i64 0)))), (some (62, false))⟩,
           ⟨(some 66), .pick (.t 62) (.k (.d (.lit (.bool true)))) (.t 65), none⟩] [2, 3, 7, 8, 10, 66]) (
         .cond (.t 66) (
          .seq (
           .ops [
             ⟨(some 67), .call 10 [], none⟩,
             ⟨(some 6), .mv (.t 67), none⟩] [6]) (
           .ret)) (
          .skip))) (
        .seq (
         .ops [
           ⟨(some 68), .mv (.t 7), none⟩,
           ⟨(some 69), .ia 1 (.t 68) (.k (.d (.lit (.int .i64 0)))), none⟩,
           ⟨(some 70), .load 1 false (.t 69), none⟩,
           ⟨(some 71), .mv (.t 8), none⟩,
           ⟨(some 72), .bld [.d (.lit (.string ⟨#[]⟩)), .d (.lit (.int .i64 0))] [(0, 1, .t 70), (1, 1, .t 71)], none⟩,
           ⟨(some 73), .mkso 39 2 [.t 72], none⟩,
           ⟨(some 11), .mvo 73, none⟩] [2, 3, 10, 11]) (
         .seq (
          .ops [
            ⟨(some 74), .mvo 11, none⟩,
            ⟨(some 75), .mv (.t 2), none⟩,
            ⟨(some 76), .app 39 2 24 74 (.t 75), none⟩,
            ⟨(some 11), .mvo 76, none⟩] [2, 3, 10, 11]) (
          .seq (
           .ops [
             ⟨(some 78), .load 4 true (.t 10), none⟩,
             ⟨(some 79), .mv (.t 2), none⟩,
             ⟨(some 80), .call 25 [.t 78, .t 79], none⟩,
             ⟨(some 77), .mv (.t 80), none⟩,
             ⟨(some 81), .ext (.t 77) 0, none⟩,
             ⟨(some 82), .ext (.t 77) 1, none⟩,
             ⟨(some 12), .mv (.t 81), none⟩,
             ⟨(some 13), .mv (.t 82), none⟩] [3, 11, 12, 13]) (
           .seq (
            .ops [
              ⟨(some 84), .load 4 true (.t 3), none⟩,
              ⟨(some 85), .mv (.t 11), none⟩,
              ⟨(some 86), .call 25 [.t 84, .t 85], none⟩,
              ⟨(some 83), .mv (.t 86), none⟩,
              ⟨(some 87), .ext (.t 83) 0, none⟩,
              ⟨(some 88), .ext (.t 83) 1, none⟩,
              ⟨(some 14), .mv (.t 87), none⟩,
              ⟨(some 15), .mv (.t 88), none⟩] [12, 13, 14, 15]) (
            .seq (
             .ops [
               ⟨(some 89), .mv (.t 12), none⟩,
               ⟨(some 90), .mv (.t 14), none⟩,
               ⟨(some 91), .bin .eql (.t 89) (.t 90), none⟩,
               ⟨(some 92), .mv (.t 91), none⟩,
               ⟨(some 93), .mv (.t 13), (some (92, true))⟩,
               ⟨(some 94), .mv (.t 15), (some (92, true))⟩,
               ⟨(some 95), .bin .eql (.t 93) (.t 94), (some (92, true))⟩,
               ⟨(some 96), .pick (.t 92) (.t 95) (.k (.d (.lit (.bool false)))), none⟩,
               ⟨(some 97), .mv (.t 96), none⟩,
               ⟨(some 98), .call 10 [], (some (97, true))⟩,
               ⟨(some 99), .pick (.t 97) (.t 98) (.k (.d (.lit (.bool false)))), none⟩,
               ⟨(some 6), .mv (.t 99), none⟩] [6]) (
             .ret))))))))))))
def rs6 : List RV := [.t 6 false]
theorem k6 : okFn G.tab Tryd.f6 3 c6 rs6 = true := by kernel_rfl

/-- testbench/testbenchlaw08.Brief -/
def c26 : Cd :=
 .seq (
  .ops [
    ⟨(some 2), .mv (.k (.d (.lit (.bool false)))), none⟩] [0]) (
  .seq (
   .seq (
    .ops [
      ⟨(some 3), .mv (.k (.d (.lit (.int .i64 0)))), none⟩] [0, 3]) (
    .block 0 (
     .loop (
      .seq (
       .seq (
        .ops [
          ⟨(some 4), .mv (.t 3), none⟩,
          ⟨(some 5), .mv (.t 0), none⟩,
          ⟨(some 6), .len false (.t 5), none⟩,
          ⟨(some 7), .bin .lss (.t 4) (.t 6), none⟩,
          ⟨(some 8), .mv (.t 7), none⟩,
          ⟨(some 9), .mv (.t 3), (some (8, true))⟩,
          ⟨(some 10), .bin .lss (.t 9) (.k (.d (.lit (.int .i64 41)))), (some (8, true))⟩,
          ⟨(some 11), .pick (.t 8) (.t 10) (.k (.d (.lit (.bool false)))), none⟩] [0, 3, 11]) (
        .cond (.t 11) (
         .skip) (
         .exit 0))) (
       .seq (
        .block 1 (
         .seq (
          .ops [
            ⟨(some 14), .mv (.t 0), none⟩,
            ⟨(some 15), .mv (.t 3), none⟩,
            ⟨(some 16), .ia 2 (.t 14) (.t 15), none⟩,
            ⟨(some 17), .fa 0 (.t 16), none⟩,
            ⟨(some 18), .load 1 false (.t 17), none⟩,
            ⟨(some 19), .len true (.t 18), none⟩,
            ⟨(some 20), .bin .gtr (.t 19) (.k (.d (.lit (.int .i64 40)))), none⟩] [0, 3, 20]) (
          .cond (.t 20) (
           .seq (
            .ops [
              ⟨(some 2), .mv (.k (.d (.lit (.bool false)))), none⟩] [2]) (
            .ret)) (
           .skip)))) (
        .ops [
          ⟨(some 12), .mv (.t 3), none⟩,
          ⟨(some 13), .bin .add (.t 12) (.k (.d (.lit (.int .i64 1)))), none⟩,
          ⟨(some 3), .mv (.t 13), none⟩] [0, 3])))))) (
   .seq (
    .ops [
      ⟨(some 21), .mv (.t 0), none⟩,
      ⟨(some 22), .len false (.t 21), none⟩,
      ⟨(some 23), .bin .leq (.t 22) (.k (.d (.lit (.int .i64 40)))), none⟩,
      ⟨(some 2), .mv (.t 23), none⟩] [2]) (
    .ret)))
def rs26 : List RV := [.t 2 false]
theorem k26 : okFn G.tab Tryd.f26 1 c26 rs26 = true := by kernel_rfl

end Go.Proofs.YtibfoafepjggjaaDoor
