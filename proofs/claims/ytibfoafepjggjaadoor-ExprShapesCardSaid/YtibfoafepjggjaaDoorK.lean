/-
  Code of functions in the plain world.
-/
import Derived.Test.YtibfoafepjggjaaDoorProg
import Derived.Test.YtibfoafepjggjaaDoorA20
import Derived.KernelRfl
import Derived.Test.YtibfoafepjggjaaDoorNames
namespace Go.Proofs.YtibfoafepjggjaaDoor
open Go.RowKit
set_option maxRecDepth 100000

noncomputable def G : Cx := cx Tryd.prog (fun g => if g = 0 then some [.sl (kwList.map fun s => [.lit (.string s)])] else none) (by kernel_rfl)
/-- testbench/expr.Same -/
def c29 : Cd :=
 .seq (
  .ops [
    ⟨(some 2), .box 24 (.t 0), none⟩,
    ⟨(some 3), .box 24 (.t 1), none⟩,
    ⟨(some 4), .mv (.k (.d (.lit (.bool false)))), none⟩] [2, 3]) (
  .seq (
   .ops [
     ⟨(some 5), .fa 0 (.t 2), none⟩,
     ⟨(some 6), .load 1 false (.t 5), none⟩,
     ⟨(some 7), .fa 0 (.t 3), none⟩,
     ⟨(some 8), .load 1 false (.t 7), none⟩,
     ⟨(some 9), .bin .eql (.t 6) (.t 8), none⟩,
     ⟨(some 10), .mv (.t 9), none⟩,
     ⟨(some 11), .fa 1 (.t 2), (some (10, true))⟩,
     ⟨(some 12), .load 1 false (.t 11), (some (10, true))⟩,
     ⟨(some 13), .fa 1 (.t 3), (some (10, true))⟩,
     ⟨(some 14), .load 1 false (.t 13), (some (10, true))⟩,
     ⟨(some 15), .bin .eql (.t 12) (.t 14), (some (10, true))⟩,
     ⟨(some 16), .pick (.t 10) (.t 15) (.k (.d (.lit (.bool false)))), none⟩,
     ⟨(some 17), .mv (.t 16), none⟩,
     ⟨(some 18), .fa 2 (.t 2), (some (17, true))⟩,
     ⟨(some 19), .load 1 false (.t 18), (some (17, true))⟩,
     ⟨(some 20), .fa 2 (.t 3), (some (17, true))⟩,
     ⟨(some 21), .load 1 false (.t 20), (some (17, true))⟩,
     ⟨(some 22), .bin .eql (.t 19) (.t 21), (some (17, true))⟩,
     ⟨(some 23), .pick (.t 17) (.t 22) (.k (.d (.lit (.bool false)))), none⟩,
     ⟨(some 24), .mv (.t 23), none⟩,
     ⟨(some 25), .fa 3 (.t 2), (some (24, true))⟩,
     ⟨(some 26), .load 1 false (.t 25), (some (24, true))⟩,
     ⟨(some 27), .fa 3 (.t 3), (some (24, true))⟩,
     ⟨(some 28), .load 1 false (.t 27), (some (24, true))⟩,
     ⟨(some 29), .call 51 [.t 26, .t 28, .k (.fn 29 [])], (some (24, true))⟩,
     ⟨(some 30), .pick (.t 24) (.t 29) (.k (.d (.lit (.bool false)))), none⟩,
     ⟨(some 4), .mv (.t 30), none⟩] [4]) (
   .ret))
def rs29 : List RV := [.t 4 false]
theorem k29 : okFn G.tab Tryd.f29 2 c29 rs29 = true := by kernel_rfl

/-- slices.EqualFunc[[]testbench/api.Expr,[]testbench/api.Expr,testbench/api.Expr,testbench/api.Expr] -/
def c51 : Cd :=
 .seq (
  .ops [
    ⟨(some 6), .mv (.k (.d (.lit (.bool false)))), none⟩] [0, 1, 2]) (
  .seq (
   .seq (
    .ops [
      ⟨(some 10), .mv (.t 0), none⟩,
      ⟨(some 11), .len false (.t 10), none⟩,
      ⟨(some 12), .mv (.t 1), none⟩,
      ⟨(some 13), .len false (.t 12), none⟩,
      ⟨(some 14), .bin .neq (.t 11) (.t 13), none⟩] [0, 1, 2, 14]) (
    .cond (.t 14) (
     .seq (
      .ops [
        ⟨(some 6), .mv (.k (.d (.lit (.bool false)))), none⟩] [6]) (
      .ret)) (
     .skip))) (
   .seq (
    .seq (
     .ops [
       ⟨(some 15), .mv (.t 0), none⟩,
       ⟨(some 16), .len false (.t 15), none⟩,
       ⟨(some 17), .mv (.k (.d (.lit (.int .i64 0)))), none⟩] [1, 2, 15, 16, 17]) (
     .block 0 (
      .loop (
       .seq (
        .ops [
          ⟨(some 18), .bin .lss (.t 17) (.t 16), none⟩] [1, 2, 15, 16, 17, 18]) (
        .seq (
         .cond (.t 18) (
          .skip) (
          .exit 0)) (
         .seq (
          .block 1 (
           .seq (
            .ops [
              ⟨(some 19), .mv (.t 17), none⟩,
              ⟨(some 20), .ia 4 (.t 15) (.t 17), none⟩,
              ⟨(some 21), .load 4 true (.t 20), none⟩,
              ⟨(some 8), .new 24 [.d (.lit (.int .i64 0)), .d (.lit (.int .i64 0)), .d (.lit (.string ⟨#[]⟩)), .nil], none⟩,
              ⟨(some 7), .mv (.t 19), none⟩,
              ⟨none, .sto 4 (.t 8) (.t 21), none⟩] [1, 2, 7, 8, 15, 16, 17]) (
            .seq (
             .ops [
               ⟨(some 22), .mv (.t 1), none⟩,
               ⟨(some 23), .mv (.t 7), none⟩,
               ⟨(some 24), .ia 4 (.t 22) (.t 23), none⟩,
               ⟨(some 25), .load 4 true (.t 24), none⟩,
               ⟨(some 9), .new 24 [.d (.lit (.int .i64 0)), .d (.lit (.int .i64 0)), .d (.lit (.string ⟨#[]⟩)), .nil], none⟩,
               ⟨none, .sto 4 (.t 9) (.t 25), none⟩] [1, 2, 8, 9, 15, 16, 17]) (
             .seq (
              .ops [
                ⟨(some 26), .mv (.t 2), none⟩,
                ⟨(some 27), .load 4 true (.t 8), none⟩,
                ⟨(some 28), .load 4 true (.t 9), none⟩,
                ⟨(some 29), .callv (.t 26) [.t 27, .t 28], none⟩,
                ⟨(some 30), .un .not (.t 29), none⟩] [1, 2, 15, 16, 17, 30]) (
              .cond (.t 30) (
               .seq (
                .ops [
                  ⟨(some 6), .mv (.k (.d (.lit (.bool false)))), none⟩] [6]) (
                .ret)) (
               .skip)))))) (
          .ops [
            ⟨(some 31), .bin .add (.t 17) (.k (.d (.lit (.int .i64 1)))), none⟩,
            ⟨(some 17), .mv (.t 31), none⟩] [1, 2, 15, 16, 17]))))))) (
    .seq (
     .ops [
       ⟨(some 6), .mv (.k (.d (.lit (.bool true)))), none⟩] [6]) (
     .ret))))
def rs51 : List RV := [.t 6 false]
theorem k51 : okFn G.tab Tryd.f51 3 c51 rs51 = true := by kernel_rfl

/-- testbench/testbenchref08.Same -/
def c30 : Cd :=
 .seq (
  .ops [
    ⟨(some 2), .box 24 (.t 0), none⟩,
    ⟨(some 3), .box 24 (.t 1), none⟩,
    ⟨(some 4), .mv (.k (.d (.lit (.bool false)))), none⟩] [2, 3]) (
  .seq (
   .seq (
    .ops [
      ⟨(some 6), .fa 0 (.t 2), none⟩,
      ⟨(some 7), .load 1 false (.t 6), none⟩,
      ⟨(some 8), .fa 0 (.t 3), none⟩,
      ⟨(some 9), .load 1 false (.t 8), none⟩,
      ⟨(some 10), .bin .neq (.t 7) (.t 9), none⟩,
      ⟨(some 11), .mv (.t 10), none⟩,
      ⟨(some 12), .fa 1 (.t 2), (some (11, false))⟩,
      ⟨(some 13), .load 1 false (.t 12), (some (11, false))⟩,
      ⟨(some 14), .fa 1 (.t 3), (some (11, false))⟩,
      ⟨(some 15), .load 1 false (.t 14), (some (11, false))⟩,
      ⟨(some 16), .bin .neq (.t 13) (.t 15), (some (11, false))⟩,
      ⟨(some 17), .pick (.t 11) (.k (.d (.lit (.bool true)))) (.t 16), none⟩,
      ⟨(some 18), .mv (.t 17), none⟩,
      ⟨(some 19), .fa 2 (.t 2), (some (18, false))⟩,
      ⟨(some 20), .load 1 false (.t 19), (some (18, false))⟩,
      ⟨(some 21), .fa 2 (.t 3), (some (18, false))⟩,
      ⟨(some 22), .load 1 false (.t 21), (some (18, false))⟩,
      ⟨(some 23), .bin .neq (.t 20) (.t 22), (some (18, false))⟩,
      ⟨(some 24), .pick (.t 18) (.k (.d (.lit (.bool true)))) (.t 23), none⟩,
      ⟨(some 25), .mv (.t 24), none⟩,
      ⟨(some 26), .fa 3 (.t 2), (some (25, false))⟩,
      ⟨(some 27), .load 1 false (.t 26), (some (25, false))⟩,
      ⟨(some 28), .len false (.t 27), (some (25, false))⟩,
      ⟨(some 29), .fa 3 (.t 3), (some (25, false))⟩,
      ⟨(some 30), .load 1 false (.t 29), (some (25, false))⟩,
      ⟨(some 31), .len false (.t 30), (some (25, false))⟩,
      ⟨(some 32), .bin .neq (.t 28) (.t 31), (some (25, false))⟩,
      ⟨(some 33), .pick (.t 25) (.k (.d (.lit (.bool true)))) (.t 32), none⟩] [2, 3, 33]) (
    .cond (.t 33) (
     .seq (
      .ops [
        ⟨(some 4), .mv (.k (.d (.lit (.bool false)))), none⟩] [4]) (
      .ret)) (
     .skip))) (
   .seq (
    .seq (
     .ops [
       ⟨(some 5), .mv (.k (.d (.lit (.int .i64 0)))), none⟩] [2, 3, 5]) (
     .block 0 (
      .loop (
       .seq (
        .seq (
         .ops [
           ⟨(some 34), .mv (.t 5), none⟩,
           ⟨(some 35), .fa 3 (.t 2), none⟩,
           ⟨(some 36), .load 1 false (.t 35), none⟩,
           ⟨(some 37), .len false (.t 36), none⟩,
           ⟨(some 38), .bin .lss (.t 34) (.t 37), none⟩] [2, 3, 5, 38]) (
         .cond (.t 38) (
          .skip) (
          .exit 0))) (
        .seq (
         .block 1 (
          .seq (
           .draw [
             ⟨(some 41), .fa 3 (.t 2), none⟩,
             ⟨(some 42), .load 1 false (.t 41), none⟩,
             ⟨(some 43), .mv (.t 5), none⟩,
             ⟨(some 44), .ia 4 (.t 42) (.t 43), none⟩,
             ⟨(some 45), .load 4 true (.t 44), none⟩,
             ⟨(some 46), .fa 3 (.t 3), none⟩,
             ⟨(some 47), .load 1 false (.t 46), none⟩,
             ⟨(some 48), .mv (.t 5), none⟩,
             ⟨(some 49), .ia 4 (.t 47) (.t 48), none⟩,
             ⟨(some 50), .load 4 true (.t 49), none⟩,
             ⟨(some 51), .call 30 [.t 45, .t 50], none⟩,
             ⟨(some 52), .un .not (.t 51), none⟩] [2, 3, 5, 52]) (
           .cond (.t 52) (
            .seq (
             .ops [
               ⟨(some 4), .mv (.k (.d (.lit (.bool false)))), none⟩] [4]) (
             .ret)) (
            .skip)))) (
         .ops [
           ⟨(some 39), .mv (.t 5), none⟩,
           ⟨(some 40), .bin .add (.t 39) (.k (.d (.lit (.int .i64 1)))), none⟩,
           ⟨(some 5), .mv (.t 40), none⟩] [2, 3, 5])))))) (
    .seq (
     .ops [
       ⟨(some 4), .mv (.k (.d (.lit (.bool true)))), none⟩] [4]) (
     .ret))))
def rs30 : List RV := [.t 4 false]
theorem k30 : okFn G.tab Tryd.f30 2 c30 rs30 = true := by kernel_rfl

/-- testbench/testbenchlaw08.ExprSame -/
def c7 : Cd :=
 .seq (
  .ops [
    ⟨(some 2), .box 24 (.t 0), none⟩,
    ⟨(some 3), .box 24 (.t 1), none⟩,
    ⟨(some 4), .mv (.k (.d (.lit (.bool false)))), none⟩] [2, 3]) (
  .seq (
   .seq (
    .ops [
      ⟨(some 5), .load 4 true (.t 2), none⟩,
      ⟨(some 6), .call 9 [.t 5, .k (.d (.lit (.int .i64 60)))], none⟩,
      ⟨(some 7), .un .not (.t 6), none⟩,
      ⟨(some 8), .mv (.t 7), none⟩,
      ⟨(some 9), .load 4 true (.t 3), (some (8, false))⟩,
      ⟨(some 10), .call 9 [.t 9, .k (.d (.lit (.int .i64 60)))], (some (8, false))⟩,
      ⟨(some 11), .un .not (.t 10), (some (8, false))⟩,
      ⟨(some 12), .pick (.t 8) (.k (.d (.lit (.bool true)))) (.t 11), none⟩] [2, 3, 12]) (
    .cond (.t 12) (
     .seq (
      .ops [
        ⟨(some 13), .call 10 [], none⟩,
        ⟨(some 4), .mv (.t 13), none⟩] [4]) (
      .ret)) (
     .skip))) (
   .seq (
    .draw [
      ⟨(some 14), .load 4 true (.t 2), none⟩,
      ⟨(some 15), .load 4 true (.t 3), none⟩,
      ⟨(some 16), .call 29 [.t 14, .t 15], none⟩,
      ⟨(some 17), .load 4 true (.t 2), none⟩,
      ⟨(some 18), .load 4 true (.t 3), none⟩,
      ⟨(some 19), .call 30 [.t 17, .t 18], none⟩,
      ⟨(some 20), .binb .eql (.t 16) (.t 19), none⟩,
      ⟨(some 21), .mv (.t 20), none⟩,
      ⟨(some 22), .load 4 true (.t 3), (some (21, true))⟩,
      ⟨(some 23), .load 4 true (.t 2), (some (21, true))⟩,
      ⟨(some 24), .call 29 [.t 22, .t 23], (some (21, true))⟩,
      ⟨(some 25), .load 4 true (.t 2), (some (21, true))⟩,
      ⟨(some 26), .load 4 true (.t 3), (some (21, true))⟩,
      ⟨(some 27), .call 30 [.t 25, .t 26], (some (21, true))⟩,
      ⟨(some 28), .binb .eql (.t 24) (.t 27), (some (21, true))⟩,
      ⟨(some 29), .pick (.t 21) (.t 28) (.k (.d (.lit (.bool false)))), none⟩,
      ⟨(some 30), .mv (.t 29), none⟩,
      ⟨(some 31), .load 4 true (.t 2), (some (30, true))⟩,
      ⟨(some 32), .load 4 true (.t 2), (some (30, true))⟩,
      ⟨(some 33), .call 29 [.t 31, .t 32], (some (30, true))⟩,
      ⟨(some 34), .pick (.t 30) (.t 33) (.k (.d (.lit (.bool false)))), none⟩,
      ⟨(some 35), .mv (.t 34), none⟩,
      ⟨(some 36), .call 10 [], (some (35, true))⟩,
      ⟨(some 37), .pick (.t 35) (.t 36) (.k (.d (.lit (.bool false)))), none⟩,
      ⟨(some 4), .mv (.t 37), none⟩] [4]) (
    .ret)))
def rs7 : List RV := [.t 4 false]
theorem k7 : okFn G.tab Tryd.f7 2 c7 rs7 = true := by kernel_rfl

/-- testbench/testbenchlaw08.texts -/
def c17 : Cd :=
 .seq (
  .ops [
    ⟨(some 4), .mv (.k (.d (.lit (.bool false)))), none⟩] [0, 1]) (
  .seq (
   .seq (
    .ops [
      ⟨(some 6), .mv (.t 0), none⟩,
      ⟨(some 7), .len false (.t 6), none⟩,
      ⟨(some 8), .mv (.t 1), none⟩,
      ⟨(some 9), .len false (.t 8), none⟩,
      ⟨(some 10), .bin .neq (.t 7) (.t 9), none⟩] [0, 1, 10]) (
    .cond (.t 10) (
     .seq (
      .ops [
        ⟨(some 4), .mv (.k (.d (.lit (.bool false)))), none⟩] [4]) (
      .ret)) (
     .skip))) (
   .seq (
    .seq (
     .ops [
       ⟨(some 5), .mv (.k (.d (.lit (.int .i64 0)))), none⟩] [0, 1, 5]) (
     .block 0 (
      .loop (
       .seq (
        .seq (
         .ops [
           ⟨(some 11), .mv (.t 5), none⟩,
           ⟨(some 12), .mv (.t 0), none⟩,
           ⟨(some 13), .len false (.t 12), none⟩,
           ⟨(some 14), .bin .lss (.t 11) (.t 13), none⟩] [0, 1, 5, 14]) (
         .cond (.t 14) (
          .skip) (
          .exit 0))) (
        .seq (
         .block 1 (
          .seq (
           .draw [
             ⟨(some 17), .mv (.t 0), none⟩,
             ⟨(some 18), .mv (.t 5), none⟩,
             ⟨(some 19), .ia 1 (.t 17) (.t 18), none⟩,
             ⟨(some 20), .load 1 false (.t 19), none⟩,
             ⟨(some 21), .mv (.t 1), none⟩,
             ⟨(some 22), .mv (.t 5), none⟩,
             ⟨(some 23), .ia 1 (.t 21) (.t 22), none⟩,
             ⟨(some 24), .load 1 false (.t 23), none⟩,
             ⟨(some 25), .bin .neq (.t 20) (.t 24), none⟩] [0, 1, 5, 25]) (
           .cond (.t 25) (
            .seq (
             .ops [
               ⟨(some 4), .mv (.k (.d (.lit (.bool false)))), none⟩] [4]) (
             .ret)) (
            .skip)))) (
         .ops [
           ⟨(some 15), .mv (.t 5), none⟩,
           ⟨(some 16), .bin .add (.t 15) (.k (.d (.lit (.int .i64 1)))), none⟩,
           ⟨(some 5), .mv (.t 16), none⟩] [0, 1, 5])))))) (
    .seq (
     .ops [
       ⟨(some 4), .mv (.k (.d (.lit (.bool true)))), none⟩] [4]) (
     .ret))))
def rs17 : List RV := [.t 4 false]
theorem k17 : okFn G.tab Tryd.f17 2 c17 rs17 = true := by kernel_rfl

end Go.Proofs.YtibfoafepjggjaaDoor
