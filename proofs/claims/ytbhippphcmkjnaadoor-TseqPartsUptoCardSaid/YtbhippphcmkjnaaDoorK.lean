/-
  Code of functions in the plain world.
-/
import Derived.Test.YtbhippphcmkjnaaDoorProg
import Derived.Test.YtbhippphcmkjnaaDoorA20
import Derived.KernelRfl
import Derived.Test.YtbhippphcmkjnaaDoorNames
namespace Go.Proofs.YtbhippphcmkjnaaDoor
open Go.RowKit
set_option maxRecDepth 100000
set_option linter.unusedVariables false
set_option linter.unusedSimpArgs false

noncomputable def G : Cx := cx Tryd.prog (fun g => if g = 0 then some [.sl (kwList.map fun s => [.lit (.string s)])] else none) (by kernel_rfl)
/-- testbench/expr.Same -/
def c23 : Cd :=
 .seq (
  .ops [
    ⟨(some 2), .box 24 (.t 0), none⟩,
    ⟨(some 3), .box 24 (.t 1), none⟩,
    ⟨(some 4), .mv (.k (.d (.lit (.bool false)))), none⟩] [2, 3]) (
  .seq (
   .ops [
     ⟨(some 5), .fa 0 (.t 2), none⟩,
     ⟨(some 6), .load 1 false (.t 5), none⟩,
     ⟨(some 7), .fa 0 (.t 3), none⟩,
     ⟨(some 8), .load 1 false (.t 7), none⟩,
     ⟨(some 9), .bin .eql (.t 6) (.t 8), none⟩,
     ⟨(some 10), .mv (.t 9), none⟩,
     ⟨(some 11), .fa 1 (.t 2), (some (10, true))⟩,
     ⟨(some 12), .load 1 false (.t 11), (some (10, true))⟩,
     ⟨(some 13), .fa 1 (.t 3), (some (10, true))⟩,
     ⟨(some 14), .load 1 false (.t 13), (some (10, true))⟩,
     ⟨(some 15), .bin .eql (.t 12) (.t 14), (some (10, true))⟩,
     ⟨(some 16), .pick (.t 10) (.t 15) (.k (.d (.lit (.bool false)))), none⟩,
     ⟨(some 17), .mv (.t 16), none⟩,
     ⟨(some 18), .fa 2 (.t 2), (some (17, true))⟩,
     ⟨(some 19), .load 1 false (.t 18), (some (17, true))⟩,
     ⟨(some 20), .fa 2 (.t 3), (some (17, true))⟩,
     ⟨(some 21), .load 1 false (.t 20), (some (17, true))⟩,
     ⟨(some 22), .bin .eql (.t 19) (.t 21), (some (17, true))⟩,
     ⟨(some 23), .pick (.t 17) (.t 22) (.k (.d (.lit (.bool false)))), none⟩,
     ⟨(some 24), .mv (.t 23), none⟩,
     ⟨(some 25), .fa 3 (.t 2), (some (24, true))⟩,
     ⟨(some 26), .load 1 false (.t 25), (some (24, true))⟩,
     ⟨(some 27), .fa 3 (.t 3), (some (24, true))⟩,
     ⟨(some 28), .load 1 false (.t 27), (some (24, true))⟩,
     ⟨(some 29), .call 40 [.t 26, .t 28, .k (.fn 23 [])], (some (24, true))⟩,
     ⟨(some 30), .pick (.t 24) (.t 29) (.k (.d (.lit (.bool false)))), none⟩,
     ⟨(some 4), .mv (.t 30), none⟩] [4]) (
   .ret))
def rs23 : List RV := [.t 4 false]
theorem k23 : okFn G.tab Tryd.f23 2 c23 rs23 = true := by kernel_rfl

/-- slices.EqualFunc[[]testbench/api.Expr,[]testbench/api.Expr,testbench/api.Expr,testbench/api.Expr] -/
def c40 : Cd :=
 .seq (
  .ops [
    ⟨(some 6), .mv (.k (.d (.lit (.bool false)))), none⟩] [0, 1, 2]) (
  .seq (
   .seq (
    .ops [
      ⟨(some 10), .mv (.t 0), none⟩,
      ⟨(some 11), .len false (.t 10), none⟩,
      ⟨(some 12), .mv (.t 1), none⟩,
      ⟨(some 13), .len false (.t 12), none⟩,
      ⟨(some 14), .bin .neq (.t 11) (.t 13), none⟩] [0, 1, 2, 14]) (
    .cond (.t 14) (
     .seq (
      .ops [
        ⟨(some 6), .mv (.k (.d (.lit (.bool false)))), none⟩] [6]) (
      .ret)) (
     .skip))) (
   .seq (
    .seq (
     .ops [
       ⟨(some 15), .mv (.t 0), none⟩,
       ⟨(some 16), .len false (.t 15), none⟩,
       ⟨(some 17), .mv (.k (.d (.lit (.int .i64 0)))), none⟩] [1, 2, 15, 16, 17]) (
     .block 0 (
      .loop (
       .seq (
        .ops [
          ⟨(some 18), .bin .lss (.t 17) (.t 16), none⟩] [1, 2, 15, 16, 17, 18]) (
        .seq (
         .cond (.t 18) (
          .skip) (
          .exit 0)) (
         .seq (
          .block 1 (
           .seq (
            .ops [
              ⟨(some 19), .mv (.t 17), none⟩,
              ⟨(some 20), .ia 4 (.t 15) (.t 17), none⟩,
              ⟨(some 21), .load 4 true (.t 20), none⟩,
              ⟨(some 8), .new 24 [.d (.lit (.int .i64 0)), .d (.lit (.int .i64 0)), .d (.lit (.string ⟨#[]⟩)), .nil], none⟩,
              ⟨(some 7), .mv (.t 19), none⟩,
              ⟨none, .sto 4 (.t 8) (.t 21), none⟩] [1, 2, 7, 8, 15, 16, 17]) (
            .seq (
             .ops [
               ⟨(some 22), .mv (.t 1), none⟩,
               ⟨(some 23), .mv (.t 7), none⟩,
               ⟨(some 24), .ia 4 (.t 22) (.t 23), none⟩,
               ⟨(some 25), .load 4 true (.t 24), none⟩,
               ⟨(some 9), .new 24 [.d (.lit (.int .i64 0)), .d (.lit (.int .i64 0)), .d (.lit (.string ⟨#[]⟩)), .nil], none⟩,
               ⟨none, .sto 4 (.t 9) (.t 25), none⟩] [1, 2, 8, 9, 15, 16, 17]) (
             .seq (
              .ops [
                ⟨(some 26), .mv (.t 2), none⟩,
                ⟨(some 27), .load 4 true (.t 8), none⟩,
                ⟨(some 28), .load 4 true (.t 9), none⟩,
                ⟨(some 29), .callv (.t 26) [.t 27, .t 28], none⟩,
                ⟨(some 30), .un .not (.t 29), none⟩] [1, 2, 15, 16, 17, 30]) (
              .cond (.t 30) (
               .seq (
                .ops [
                  ⟨(some 6), .mv (.k (.d (.lit (.bool false)))), none⟩] [6]) (
                .ret)) (
               .skip)))))) (
          .ops [
            ⟨(some 31), .bin .add (.t 17) (.k (.d (.lit (.int .i64 1)))), none⟩,
            ⟨(some 17), .mv (.t 31), none⟩] [1, 2, 15, 16, 17]))))))) (
    .seq (
     .ops [
       ⟨(some 6), .mv (.k (.d (.lit (.bool true)))), none⟩] [6]) (
     .ret))))
def rs40 : List RV := [.t 6 false]
theorem k40 : okFn G.tab Tryd.f40 3 c40 rs40 = true := by kernel_rfl

/-- testbench/testbenchref08.Same -/
def c25 : Cd :=
 .seq (
  .ops [
    ⟨(some 2), .box 24 (.t 0), none⟩,
    ⟨(some 3), .box 24 (.t 1), none⟩,
    ⟨(some 4), .mv (.k (.d (.lit (.bool false)))), none⟩] [2, 3]) (
  .seq (
   .seq (
    .ops [
      ⟨(some 6), .fa 0 (.t 2), none⟩,
      ⟨(some 7), .load 1 false (.t 6), none⟩,
      ⟨(some 8), .fa 0 (.t 3), none⟩,
      ⟨(some 9), .load 1 false (.t 8), none⟩,
      ⟨(some 10), .bin .neq (.t 7) (.t 9), none⟩,
      ⟨(some 11), .mv (.t 10), none⟩,
      ⟨(some 12), .fa 1 (.t 2), (some (11, false))⟩,
      ⟨(some 13), .load 1 false (.t 12), (some (11, false))⟩,
      ⟨(some 14), .fa 1 (.t 3), (some (11, false))⟩,
      ⟨(some 15), .load 1 false (.t 14), (some (11, false))⟩,
      ⟨(some 16), .bin .neq (.t 13) (.t 15), (some (11, false))⟩,
      ⟨(some 17), .pick (.t 11) (.k (.d (.lit (.bool true)))) (.t 16), none⟩,
      ⟨(some 18), .mv (.t 17), none⟩,
      ⟨(some 19), .fa 2 (.t 2), (some (18, false))⟩,
      ⟨(some 20), .load 1 false (.t 19), (some (18, false))⟩,
      ⟨(some 21), .fa 2 (.t 3), (some (18, false))⟩,
      ⟨(some 22), .load 1 false (.t 21), (some (18, false))⟩,
      ⟨(some 23), .bin .neq (.t 20) (.t 22), (some (18, false))⟩,
      ⟨(some 24), .pick (.t 18) (.k (.d (.lit (.bool true)))) (.t 23), none⟩,
      ⟨(some 25), .mv (.t 24), none⟩,
      ⟨(some 26), .fa 3 (.t 2), (some (25, false))⟩,
      ⟨(some 27), .load 1 false (.t 26), (some (25, false))⟩,
      ⟨(some 28), .len false (.t 27), (some (25, false))⟩,
      ⟨(some 29), .fa 3 (.t 3), (some (25, false))⟩,
      ⟨(some 30), .load 1 false (.t 29), (some (25, false))⟩,
      ⟨(some 31), .len false (.t 30), (some (25, false))⟩,
      ⟨(some 32), .bin .neq (.t 28) (.t 31), (some (25, false))⟩,
      ⟨(some 33), .pick (.t 25) (.k (.d (.lit (.bool true)))) (.t 32), none⟩] [2, 3, 33]) (
    .cond (.t 33) (
     .seq (
      .ops [
        ⟨(some 4), .mv (.k (.d (.lit (.bool false)))), none⟩] [4]) (
      .ret)) (
     .skip))) (
   .seq (
    .seq (
     .ops [
       ⟨(some 5), .mv (.k (.d (.lit (.int .i64 0)))), none⟩] [2, 3, 5]) (
     .block 0 (
      .loop (
       .seq (
        .seq (
         .ops [
           ⟨(some 34), .mv (.t 5), none⟩,
           ⟨(some 35), .fa 3 (.t 2), none⟩,
           ⟨(some 36), .load 1 false (.t 35), none⟩,
           ⟨(some 37), .len false (.t 36), none⟩,
           ⟨(some 38), .bin .lss (.t 34) (.t 37), none⟩] [2, 3, 5, 38]) (
         .cond (.t 38) (
          .skip) (
          .exit 0))) (
        .seq (
         .block 1 (
          .seq (
           .draw [
             ⟨(some 41), .fa 3 (.t 2), none⟩,
             ⟨(some 42), .load 1 false (.t 41), none⟩,
             ⟨(some 43), .mv (.t 5), none⟩,
             ⟨(some 44), .ia 4 (.t 42) (.t 43), none⟩,
             ⟨(some 45), .load 4 true (.t 44), none⟩,
             ⟨(some 46), .fa 3 (.t 3), none⟩,
             ⟨(some 47), .load 1 false (.t 46), none⟩,
             ⟨(some 48), .mv (.t 5), none⟩,
             ⟨(some 49), .ia 4 (.t 47) (.t 48), none⟩,
             ⟨(some 50), .load 4 true (.t 49), none⟩,
             ⟨(some 51), .call 25 [.t 45, .t 50], none⟩,
             ⟨(some 52), .un .not (.t 51), none⟩] [2, 3, 5, 52]) (
           .cond (.t 52) (
            .seq (
             .ops [
               ⟨(some 4), .mv (.k (.d (.lit (.bool false)))), none⟩] [4]) (
             .ret)) (
            .skip)))) (
         .ops [
           ⟨(some 39), .mv (.t 5), none⟩,
           ⟨(some 40), .bin .add (.t 39) (.k (.d (.lit (.int .i64 1)))), none⟩,
           ⟨(some 5), .mv (.t 40), none⟩] [2, 3, 5])))))) (
    .seq (
     .ops [
       ⟨(some 4), .mv (.k (.d (.lit (.bool true)))), none⟩] [4]) (
     .ret))))
def rs25 : List RV := [.t 4 false]
theorem k25 : okFn G.tab Tryd.f25 2 c25 rs25 = true := by kernel_rfl

/-- testbench/testbenchlaw39.TseqParts -/
def c3 : Cd :=
 .seq (
  .ops [
    ⟨(some 1), .box 27 (.t 0), none⟩,
    ⟨(some 2), .mv (.k (.d (.lit (.bool false)))), none⟩] [1]) (
  .seq (
   .ops [
     ⟨(some 3), .mv (.k (.d (.lit (.int .i64 1)))), none⟩] [1, 3]) (
   .seq (
    .ops [
      ⟨(some 13), .load 9 true (.t 1), none⟩,
      ⟨(some 14), .call 5 [.t 13], none⟩,
      ⟨(some 4), .mv (.t 14), none⟩] [1, 3, 4]) (
    .seq (
     .ops [
       ⟨(some 15), .load 9 true (.t 1), none⟩,
       ⟨(some 16), .call 6 [.t 15], none⟩,
       ⟨(some 17), .bin .eql (.t 16) (.k (.d (.lit (.int .i64 0)))), none⟩,
       ⟨(some 5), .mv (.t 17), none⟩] [1, 3, 4, 5]) (
     .seq (
      .seq (
       .ops [
         ⟨(some 18), .fa 8 (.t 1), none⟩,
         ⟨(some 19), .load 1 false (.t 18), none⟩,
         ⟨(some 20), .len false (.t 19), none⟩,
         ⟨(some 21), .mv (.k (.d (.lit (.int .i64 0)))), none⟩] [1, 3, 4, 5, 19, 20, 21]) (
       .block 0 (
        .loop (
         .seq (
          .ops [
            ⟨(some 22), .bin .lss (.t 21) (.t 20), none⟩] [1, 3, 4, 5, 19, 20, 21, 22]) (
          .seq (
           .cond (.t 22) (
            .skip) (
            .exit 0)) (
           .seq (
            .block 1 (
             .seq (
              .ops [
                ⟨(some 23), .ia 9 (.t 19) (.t 21), none⟩,
                ⟨(some 24), .load 9 true (.t 23), none⟩,
                ⟨(some 7), .new 27 [.d (.lit (.int .i64 0)), .d (.lit (.int .i64 0)), .d (.lit (.int .i64 0)), .d (.lit (.int .i64 0)), .d (.lit (.int .i64 0)), .d (.lit (.string ⟨#[]⟩)), .nil, .d (.lit (.string ⟨#[]⟩)), .nil], none⟩,
                ⟨none, .sto 9 (.t 7) (.t 24), none⟩] [1, 3, 4, 5, 7, 19, 20, 21]) (
              .seq (
               .ops [
                 ⟨(some 25), .mv (.t 3), none⟩,
                 ⟨(some 26), .load 9 true (.t 7), none⟩,
                 ⟨(some 27), .call 7 [.t 26], none⟩,
                 ⟨(some 28), .bin .add (.t 25) (.t 27), none⟩,
                 ⟨(some 3), .mv (.t 28), none⟩] [1, 3, 4, 5, 7, 19, 20, 21]) (
               .seq (
                .seq (
                 .ops [
                   ⟨(some 29), .mv (.t 5), none⟩,
                   ⟨(some 30), .mv (.t 29), none⟩,
                   ⟨(some 31), .load 9 true (.t 7), (some (30, true))⟩,
                   ⟨(some 32), .call 6 [.t 31], (some (30, true))⟩,
                   ⟨(some 33), .bin .neq (.t 32) (.k (.d (.lit (.int .i64 0)))), (some (30, true))⟩,
                   ⟨(some 34), .pick (.t 30) (.t 33) (.k (.d (.lit (.bool false)))), none⟩] [1, 3, 4, 5, 7, 19, 20, 21, 34]) (
                 .cond (.t 34) (
                  .seq (
                   .ops [
                     ⟨(some 2), .mv (.k (.d (.lit (.bool false)))), none⟩] [2]) (
                   .ret)) (
                  .skip))) (
                .seq (
                 .ops [
                   ⟨(some 35), .load 9 true (.t 7), none⟩,
                   ⟨(some 36), .call 5 [.t 35], none⟩,
                   ⟨(some 37), .len false (.t 36), none⟩,
                   ⟨(some 38), .mv (.k (.d (.lit (.int .i64 0)))), none⟩] [1, 3, 4, 5, 19, 20, 21, 36, 37, 38]) (
                 .block 2 (
                  .loop (
                   .seq (
                    .ops [
                      ⟨(some 39), .bin .lss (.t 38) (.t 37), none⟩] [1, 3, 4, 5, 19, 20, 21, 36, 37, 38, 39]) (
                    .seq (
                     .cond (.t 39) (
                      .skip) (
                      .exit 2)) (
                     .seq (
                      .block 3 (
                       .seq (
                        .ops [
                          ⟨(some 40), .ia 1 (.t 36) (.t 38), none⟩,
                          ⟨(some 41), .load 1 false (.t 40), none⟩,
                          ⟨(some 9), .mv (.t 41), none⟩] [1, 3, 4, 5, 9, 19, 20, 21, 36, 37, 38]) (
                        .seq (
                         .ops [
                           ⟨(some 42), .mv (.t 5), none⟩,
                           ⟨(some 43), .un .not (.t 42), none⟩,
                           ⟨(some 10), .mv (.t 43), none⟩] [1, 3, 4, 5, 9, 10, 19, 20, 21, 36, 37, 38]) (
                         .seq (
                          .seq (
                           .ops [
                             ⟨(some 44), .mv (.t 4), none⟩,
                             ⟨(some 45), .len false (.t 44), none⟩,
                             ⟨(some 46), .mv (.k (.d (.lit (.int .i64 0)))), none⟩] [1, 3, 4, 5, 9, 10, 19, 20, 21, 36, 37, 38, 44, 45, 46]) (
                           .block 4 (
                            .loop (
                             .seq (
                              .ops [
                                ⟨(some 47), .bin .lss (.t 46) (.t 45), none⟩] [1, 3, 4, 5, 9, 10, 19, 20, 21, 36, 37, 38, 44, 45, 46, 47]) (
                              .seq (
                               .cond (.t 47) (
                                .skip) (
                                .exit 4)) (
                               .seq (
                                .block 5 (
                                 .seq (
                                  .ops [
                                    ⟨(some 48), .ia 1 (.t 44) (.t 46), none⟩,
                                    ⟨(some 49), .load 1 false (.t 48), none⟩,
                                    ⟨(some 12), .mv (.t 49), none⟩] [1, 3, 4, 5, 9, 10, 12, 19, 20, 21, 36, 37, 38, 44, 45, 46]) (
                                  .ops [
                                    ⟨(some 50), .mv (.t 10), none⟩,
                                    ⟨(some 51), .mv (.t 50), none⟩,
                                    ⟨(some 52), .mv (.t 12), (some (51, false))⟩,
                                    ⟨(some 53), .mv (.t 9), (some (51, false))⟩,
                                    ⟨(some 54), .bin .eql (.t 52) (.t 53), (some (51, false))⟩,
                                    ⟨(some 55), .pick (.t 51) (.k (.d (.lit (.bool true)))) (.t 54), none⟩,
                                    ⟨(some 10), .mv (.t 55), none⟩] [1, 3, 4, 5, 9, 10, 19, 20, 21, 36, 37, 38, 44, 45, 46]))) (
                                .ops [
                                  ⟨(some 56), .bin .add (.t 46) (.k (.d (.lit (.int .i64 1)))), none⟩,
                                  ⟨(some 46), .mv (.t 56), none⟩] [1, 3, 4, 5, 9, 10, 19, 20, 21, 36, 37, 38, 44, 45, 46]))))))) (
                          .seq (
                           .ops [
                             ⟨(some 57), .mv (.t 10), none⟩,
                             ⟨(some 58), .un .not (.t 57), none⟩] [1, 3, 4, 5, 19, 20, 21, 36, 37, 38, 58]) (
                           .cond (.t 58) (
                            .seq (
                             .ops [
                               ⟨(some 2), .mv (.k (.d (.lit (.bool false)))), none⟩] [2]) (
                             .ret)) (
                            .skip))))))) (
                      .ops [
                        ⟨(some 59), .bin .add (.t 38) (.k (.d (.lit (.int .i64 1)))), none⟩,
                        ⟨(some 38), .mv (.t 59), none⟩] [1, 3, 4, 5, 19, 20, 21, 36, 37, 38]))))))))))) (
            .ops [
              ⟨(some 60), .bin .add (.t 21) (.k (.d (.lit (.int .i64 1)))), none⟩,
              ⟨(some 21), .mv (.t 60), none⟩] [1, 3, 4, 5, 19, 20, 21]))))))) (
      .seq (
       .ops [
         ⟨(some 61), .load 9 true (.t 1), none⟩,
         ⟨(some 62), .call 7 [.t 61], none⟩,
         ⟨(some 63), .mv (.t 3), none⟩,
         ⟨(some 64), .bin .eql (.t 62) (.t 63), none⟩,
         ⟨(some 65), .mv (.t 64), none⟩,
         ⟨(some 66), .mv (.t 5), (some (65, true))⟩,
         ⟨(some 67), .mv (.t 66), (some (65, true))⟩,
         ⟨(some 68), .mv (.t 4), (some (67, false))⟩,
         ⟨(some 69), .len false (.t 68), (some (67, false))⟩,
         ⟨(some 70), .bin .eql (.t 69) (.k (.d (.lit (.int .i64 0)))), (some (67, false))⟩,
         ⟨(some 71), .pick (.t 67) (.k (.d (.lit (.bool true)))) (.t 70), (some (65, true))⟩,
         ⟨(some 72), .pick (.t 65) (.t 71) (.k (.d (.lit (.bool false)))), none⟩,
         ⟨(some 73), .mv (.t 72), none⟩,
         ⟨(some 74), .call 8 [], (some (73, true))⟩,
         ⟨(some 75), .pick (.t 73) (.t 74) (.k (.d (.lit (.bool false)))), none⟩,
         ⟨(some 2), .mv (.t 75), none⟩] [2]) (
       .ret))))))
def rs3 : List RV := [.t 2 false]
theorem k3 : okFn G.tab Tryd.f3 1 c3 rs3 = true := by kernel_rfl

/-- testbench/testbenchlaw39.TseqEqual -/
def c4 : Cd :=
 .seq (
  .ops [
    ⟨(some 2), .box 27 (.t 0), none⟩,
    ⟨(some 3), .box 27 (.t 1), none⟩,
    ⟨(some 4), .mv (.k (.d (.lit (.bool false)))), none⟩] [2, 3]) (
  .seq (
   .ops [
     ⟨(some 6), .load 9 true (.t 2), none⟩,
     ⟨(some 7), .load 9 true (.t 3), none⟩,
     ⟨(some 8), .call 9 [.t 6, .t 7], none⟩,
     ⟨(some 5), .mv (.t 8), none⟩] [2, 3, 5]) (
   .seq (
    .seq (
     .ops [
       ⟨(some 9), .mv (.t 5), none⟩,
       ⟨(some 10), .load 9 true (.t 2), none⟩,
       ⟨(some 11), .load 9 true (.t 3), none⟩,
       ⟨(some 12), .call 10 [.t 10, .t 11], none⟩,
       ⟨(some 13), .binb .neq (.t 9) (.t 12), none⟩,
       ⟨(some 14), .mv (.t 13), none⟩,
       ⟨(some 15), .mv (.t 5), (some (14, false))⟩,
       ⟨(some 16), .load 9 true (.t 3), (some (14, false))⟩,
       ⟨(some 17), .load 9 true (.t 2), (some (14, false))⟩,
       ⟨(some 18), .call 9 [.t 16, .t 17], (some (14, false))⟩,
       ⟨(some 19), .binb .neq (.t 15) (.t 18), (some (14, false))⟩,
       ⟨(some 20), .pick (.t 14) (.k (.d (.lit (.bool true)))) (.t 19), none⟩,
       ⟨(some 21), .mv (.t 20), none⟩,
       ⟨(some 22), .load 9 true (.t 2), (some (21, false))⟩,
       ⟨(some 23), .load 9 true (.t 2), (some (21, false))⟩,
       ⟨(some 24), .call 9 [.t 22, .t 23], (some (21, false))⟩,
       ⟨(some 25), .un .not (.t 24), (some (21, false))⟩,
       ⟨(some 26), .pick (.t 21) (.k (.d (.lit (.bool true)))) (.t 25), none⟩,
       ⟨(some 27), .mv (.t 26), none⟩,
       ⟨(some 28), .load 9 true (.t 3), (some (27, false))⟩,
       ⟨(some 29), .load 9 true (.t 3), (some (27, false))⟩,
       ⟨(some 30), .call 9 [.t 28, .t 29], (some (27, false))⟩,
       ⟨(some 31), .un .not (.t 30), (some (27, false))⟩,
       ⟨(some 32), .pick (.t 27) (.k (.d (.lit (.bool true)))) (.t 31), none⟩] [2, 3, 5, 32]) (
     .cond (.t 32) (
      .seq (
       .ops [
         ⟨(some 4), .mv (.k (.d (.lit (.bool false)))), none⟩] [4]) (
       .ret)) (
      .skip))) (
    .seq (
     .draw [
       ⟨(some 33), .mv (.t 5), none⟩,
       ⟨(some 34), .un .not (.t 33), none⟩,
       ⟨(some 35), .mv (.t 34), none⟩,
       ⟨(some 36), .load 9 true (.t 2), (some (35, false))⟩,
       ⟨(some 37), .call 6 [.t 36], (some (35, false))⟩,
       ⟨(some 38), .load 9 true (.t 3), (some (35, false))⟩,
       ⟨(some 39), .call 6 [.t 38], (some (35, false))⟩,
       ⟨(some 40), .bin .eql (.t 37) (.t 39), (some (35, false))⟩,
       ⟨(some 41), .mv (.t 40), (some (35, false))⟩,
       ⟨(some 42), .load 9 true (.t 2), (some (41, true))⟩,
       ⟨(some 43), .call 7 [.t 42], (some (41, true))⟩,
       ⟨(some 44), .load 9 true (.t 3), (some (41, true))⟩,
       ⟨(some 45), .call 7 [.t 44], (some (41, true))⟩,
       ⟨(some 46), .bin .eql (.t 43) (.t 45), (some (41, true))⟩,
       ⟨(some 47), .pick (.t 41) (.t 46) (.k (.d (.lit (.bool false)))), (some (35, false))⟩,
       ⟨(some 48), .mv (.t 47), (some (35, false))⟩,
       ⟨(some 49), .load 9 true (.t 2), (some (48, true))⟩,
       ⟨(some 50), .call 11 [.t 49], (some (48, true))⟩,
       ⟨(some 51), .load 9 true (.t 3), (some (48, true))⟩,
       ⟨(some 52), .call 11 [.t 51], (some (48, true))⟩,
       ⟨(some 53), .bin .eql (.t 50) (.t 52), (some (48, true))⟩,
       ⟨(some 54), .pick (.t 48) (.t 53) (.k (.d (.lit (.bool false)))), (some (35, false))⟩,
       ⟨(some 55), .mv (.t 54), (some (35, false))⟩,
       ⟨(some 56), .load 9 true (.t 2), (some (55, true))⟩,
       ⟨(some 57), .call 12 [.t 56], (some (55, true))⟩,
       ⟨(some 58), .load 9 true (.t 3), (some (55, true))⟩,
       ⟨(some 59), .call 12 [.t 58], (some (55, true))⟩,
       ⟨(some 60), .bin .eql (.t 57) (.t 59), (some (55, true))⟩,
       ⟨(some 61), .pick (.t 55) (.t 60) (.k (.d (.lit (.bool false)))), (some (35, false))⟩,
       ⟨(some 62), .mv (.t 61), (some (35, false))⟩,
       ⟨(some 63), .load 9 true (.t 2), (some (62, true))⟩,
       ⟨(some 64), .call 5 [.t 63], (some (62, true))⟩,
       ⟨(some 65), .load 9 true (.t 3), (some (62, true))⟩,
       ⟨(some 66), .call 5 [.t 65], (some (62, true))⟩,
       ⟨(some 67), .call 13 [.t 64, .t 66], (some (62, true))⟩,
       ⟨(some 68), .pick (.t 62) (.t 67) (.k (.d (.lit (.bool false)))), (some (35, false))⟩,
       ⟨(some 69), .pick (.t 35) (.k (.d (.lit (.bool true)))) (.t 68), none⟩,
       ⟨(some 70), .mv (.t 69), none⟩,
       ⟨(some 71), .call 8 [], (some (70, true))⟩,
       ⟨(some 72), .pick (.t 70) (.t 71) (.k (.d (.lit (.bool false)))), none⟩,
       ⟨(some 4), .mv (.t 72), none⟩] [4]) (
     .ret))))
def rs4 : List RV := [.t 4 false]
theorem k4 : okFn G.tab Tryd.f4 2 c4 rs4 = true := by kernel_rfl

/-- testbench/testbenchlaw39.awake -/
def c8 : Cd :=
 .seq (
  .ops [
    ⟨(some 0), .mv (.k (.d (.lit (.bool false)))), none⟩] []) (
  .seq (
   .ops [
     ⟨(some 7), .call 22 [.k (.d (.lit (.string ⟨#[97]⟩)))], none⟩,
     ⟨(some 8), .call 22 [.k (.d (.lit (.string ⟨#[98]⟩)))], none⟩,
     ⟨(some 9), .mks 27 9 [.t 7, .t 8], none⟩,
     ⟨(some 1), .mv (.t 9), none⟩] [1]) (
   .seq (
    .ops [
      ⟨(some 10), .mv (.t 1), none⟩,
      ⟨(some 11), .bld [.d (.lit (.int .i64 0)), .d (.lit (.int .i64 0)), .d (.lit (.int .i64 0)), .d (.lit (.int .i64 0)), .d (.lit (.int .i64 0)), .d (.lit (.string ⟨#[]⟩)), .nil, .d (.lit (.string ⟨#[]⟩)), .nil] [(0, 1, .k (.d (.lit (.int .i64 2)))), (1, 1, .k (.d (.lit (.int .i64 1)))), (2, 1, .k (.d (.lit (.int .i64 3)))), (8, 1, .t 10)], none⟩,
      ⟨(some 2), .new 27 [.d (.lit (.int .i64 0)), .d (.lit (.int .i64 0)), .d (.lit (.int .i64 0)), .d (.lit (.int .i64 0)), .d (.lit (.int .i64 0)), .d (.lit (.string ⟨#[]⟩)), .nil, .d (.lit (.string ⟨#[]⟩)), .nil], none⟩,
      ⟨none, .sto 9 (.t 2) (.t 11), none⟩] [1, 2]) (
    .seq (
     .ops [
       ⟨(some 12), .mv (.t 1), none⟩,
       ⟨(some 13), .sub false 9 (.t 12) none (some (.k (.d (.lit (.int .i64 1))))), none⟩,
       ⟨(some 14), .bld [.d (.lit (.int .i64 0)), .d (.lit (.int .i64 0)), .d (.lit (.int .i64 0)), .d (.lit (.int .i64 0)), .d (.lit (.int .i64 0)), .d (.lit (.string ⟨#[]⟩)), .nil, .d (.lit (.string ⟨#[]⟩)), .nil] [(0, 1, .k (.d (.lit (.int .i64 3)))), (2, 1, .k (.d (.lit (.int .i64 2)))), (8, 1, .t 13)], none⟩,
       ⟨(some 3), .new 27 [.d (.lit (.int .i64 0)), .d (.lit (.int .i64 0)), .d (.lit (.int .i64 0)), .d (.lit (.int .i64 0)), .d (.lit (.int .i64 0)), .d (.lit (.string ⟨#[]⟩)), .nil, .d (.lit (.string ⟨#[]⟩)), .nil], none⟩,
       ⟨none, .sto 9 (.t 3) (.t 14), none⟩] [1, 2, 3]) (
     .seq (
      .ops [
        ⟨(some 15), .bld [.d (.lit (.int .i64 0)), .d (.lit (.int .i64 0)), .d (.lit (.string ⟨#[]⟩)), .nil] [(0, 1, .k (.d (.lit (.int .i64 1)))), (1, 1, .k (.d (.lit (.int .i64 1))))], none⟩,
        ⟨(some 16), .mv (.t 1), none⟩,
        ⟨(some 17), .sub false 9 (.t 16) none (some (.k (.d (.lit (.int .i64 1))))), none⟩,
        ⟨(some 18), .bld [.d (.lit (.int .i64 0)), .d (.lit (.int .i64 0)), .d (.lit (.int .i64 0)), .d (.lit (.int .i64 0)), .d (.lit (.int .i64 0)), .d (.lit (.string ⟨#[]⟩)), .nil, .d (.lit (.string ⟨#[]⟩)), .nil] [(0, 1, .k (.d (.lit (.int .i64 6)))), (7, 1, .k (.d (.lit (.string ⟨#[120]⟩)))), (3, 4, .t 15), (8, 1, .t 17)], none⟩,
        ⟨(some 4), .new 27 [.d (.lit (.int .i64 0)), .d (.lit (.int .i64 0)), .d (.lit (.int .i64 0)), .d (.lit (.int .i64 0)), .d (.lit (.int .i64 0)), .d (.lit (.string ⟨#[]⟩)), .nil, .d (.lit (.string ⟨#[]⟩)), .nil], none⟩,
        ⟨none, .sto 9 (.t 4) (.t 18), none⟩] [1, 2, 3, 4]) (
      .seq (
       .drawn [.d (.lit (.int .i64 0)), .d (.lit (.int .i64 0)), .d (.lit (.int .i64 0)), .d (.lit (.int .i64 0)), .d (.lit (.int .i64 0)), .d (.lit (.string ⟨#[]⟩)), .nil, .d (.lit (.string ⟨#[]⟩)), .nil] [
         ⟨(some 19), .load 9 true (.t 4), none⟩,
         ⟨(some 20), .mv (.t 1), none⟩,
         ⟨(some 21), .ia 9 (.t 20) (.k (.d (.lit (.int .i64 1)))), none⟩,
         ⟨(some 22), .load 9 true (.t 21), none⟩,
         ⟨(some 23), .mks 27 9 [.t 19, .t 22], none⟩,
         ⟨(some 24), .bld [.d (.lit (.int .i64 0)), .d (.lit (.int .i64 0)), .d (.lit (.int .i64 0)), .d (.lit (.int .i64 0)), .d (.lit (.int .i64 0)), .d (.lit (.string ⟨#[]⟩)), .nil, .d (.lit (.string ⟨#[]⟩)), .nil] [(0, 1, .k (.d (.lit (.int .i64 5)))), (8, 1, .t 23)], none⟩,
         ⟨(some 5), .new 27 [.d (.lit (.int .i64 0)), .d (.lit (.int .i64 0)), .d (.lit (.int .i64 0)), .d (.lit (.int .i64 0)), .d (.lit (.int .i64 0)), .d (.lit (.string ⟨#[]⟩)), .nil, .d (.lit (.string ⟨#[]⟩)), .nil], none⟩,
         ⟨none, .sto 9 (.t 5) (.t 24), none⟩] [2, 3, 4, 5]) (
       .seq (
        .ops [
          ⟨(some 25), .bld [.d (.lit (.int .i64 0)), .d (.lit (.int .i64 0)), .d (.lit (.string ⟨#[]⟩)), .nil] [(0, 1, .k (.d (.lit (.int .i64 2)))), (2, 1, .k (.d (.lit (.string ⟨#[120]⟩))))], none⟩,
          ⟨(some 26), .load 9 true (.t 4), none⟩,
          ⟨(some 27), .mks 27 9 [.t 26], none⟩,
          ⟨(some 28), .bld [.d (.lit (.int .i64 0)), .d (.lit (.int .i64 0)), .d (.lit (.int .i64 0)), .d (.lit (.int .i64 0)), .d (.lit (.int .i64 0)), .d (.lit (.string ⟨#[]⟩)), .nil, .d (.lit (.string ⟨#[]⟩)), .nil] [(0, 1, .k (.d (.lit (.int .i64 7)))), (3, 4, .t 25), (8, 1, .t 27)], none⟩,
          ⟨(some 6), .new 27 [.d (.lit (.int .i64 0)), .d (.lit (.int .i64 0)), .d (.lit (.int .i64 0)), .d (.lit (.int .i64 0)), .d (.lit (.int .i64 0)), .d (.lit (.string ⟨#[]⟩)), .nil, .d (.lit (.string ⟨#[]⟩)), .nil], none⟩,
          ⟨none, .sto 9 (.t 6) (.t 28), none⟩] [2, 3, 4, 5, 6]) (
        .seq (
         .ops [
           ⟨(some 29), .load 9 true (.t 2), none⟩,
           ⟨(some 30), .call 6 [.t 29], none⟩,
           ⟨(some 31), .bin .eql (.t 30) (.k (.d (.lit (.int .i64 0)))), none⟩,
           ⟨(some 32), .mv (.t 31), none⟩,
           ⟨(some 33), .load 9 true (.t 2), (some (32, true))⟩,
           ⟨(some 34), .call 11 [.t 33], (some (32, true))⟩,
           ⟨(some 35), .bin .eql (.t 34) (.k (.d (.lit (.int .i64 2)))), (some (32, true))⟩,
           ⟨(some 36), .pick (.t 32) (.t 35) (.k (.d (.lit (.bool false)))), none⟩,
           ⟨(some 37), .mv (.t 36), none⟩,
           ⟨(some 38), .load 9 true (.t 2), (some (37, true))⟩,
           ⟨(some 39), .call 12 [.t 38], (some (37, true))⟩,
           ⟨(some 40), .bin .eql (.t 39) (.k (.d (.lit (.int .i64 4)))), (some (37, true))⟩,
           ⟨(some 41), .pick (.t 37) (.t 40) (.k (.d (.lit (.bool false)))), none⟩,
           ⟨(some 42), .mv (.t 41), none⟩,
           ⟨(some 43), .load 9 true (.t 2), (some (42, true))⟩,
           ⟨(some 44), .call 7 [.t 43], (some (42, true))⟩,
           ⟨(some 45), .bin .eql (.t 44) (.k (.d (.lit (.int .i64 3)))), (some (42, true))⟩,
           ⟨(some 46), .pick (.t 42) (.t 45) (.k (.d (.lit (.bool false)))), none⟩,
           ⟨(some 47), .mv (.t 46), none⟩,
           ⟨(some 48), .load 9 true (.t 3), (some (47, true))⟩,
           ⟨(some 49), .call 6 [.t 48], (some (47, true))⟩,
           ⟨(some 50), .bin .eql (.t 49) (.k (.d (.lit (.int .i64 1)))), (some (47, true))⟩,
           ⟨(some 51), .pick (.t 47) (.t 50) (.k (.d (.lit (.bool false)))), none⟩,
           ⟨(some 52), .mv (.t 51), none⟩,
           ⟨(some 53), .load 9 true (.t 5), (some (52, true))⟩,
           ⟨(some 54), .call 6 [.t 53], (some (52, true))⟩,
           ⟨(some 55), .bin .eql (.t 54) (.k (.d (.lit (.int .i64 13)))), (some (52, true))⟩,
           ⟨(some 56), .pick (.t 52) (.t 55) (.k (.d (.lit (.bool false)))), none⟩,
           ⟨(some 57), .mv (.t 56), none⟩,
           ⟨(some 58), .load 9 true (.t 6), (some (57, true))⟩,
           ⟨(some 59), .call 6 [.t 58], (some (57, true))⟩,
           ⟨(some 60), .bin .eql (.t 59) (.k (.d (.lit (.int .i64 13)))), (some (57, true))⟩,
           ⟨(some 61), .pick (.t 57) (.t 60) (.k (.d (.lit (.bool false)))), none⟩,
           ⟨(some 62), .mv (.t 61), none⟩,
           ⟨(some 63), .load 9 true (.t 4), (some (62, true))⟩,
           ⟨(some 64), .call 5 [.t 63], (some (62, true))⟩,
           ⟨(some 65), .len false (.t 64), (some (62, true))⟩,
           ⟨(some 66), .bin .eql (.t 65) (.k (.d (.lit (.int .i64 1)))), (some (62, true))⟩,
           ⟨(some 67), .pick (.t 62) (.t 66) (.k (.d (.lit (.bool false)))), none⟩,
           ⟨(some 0), .mv (.t 67), none⟩] [0]) (
         .ret))))))))
def rs8 : List RV := [.t 0 false]
theorem k8 : okFn G.tab Tryd.f8 0 c8 rs8 = true := by kernel_rfl

/-- testbench/testbenchlaw39.same -/
def c13 : Cd :=
 .seq (
  .ops [
    ⟨(some 4), .mv (.k (.d (.lit (.bool false)))), none⟩] [0, 1]) (
  .seq (
   .seq (
    .ops [
      ⟨(some 6), .mv (.t 0), none⟩,
      ⟨(some 7), .len false (.t 6), none⟩,
      ⟨(some 8), .mv (.t 1), none⟩,
      ⟨(some 9), .len false (.t 8), none⟩,
      ⟨(some 10), .bin .neq (.t 7) (.t 9), none⟩] [0, 1, 10]) (
    .cond (.t 10) (
     .seq (
      .ops [
        ⟨(some 4), .mv (.k (.d (.lit (.bool false)))), none⟩] [4]) (
      .ret)) (
     .skip))) (
   .seq (
    .seq (
     .ops [
       ⟨(some 11), .mv (.t 0), none⟩,
       ⟨(some 12), .len false (.t 11), none⟩,
       ⟨(some 13), .mv (.k (.d (.lit (.int .i64 0)))), none⟩] [0, 1, 12, 13]) (
     .block 0 (
      .loop (
       .seq (
        .ops [
          ⟨(some 14), .bin .lss (.t 13) (.t 12), none⟩] [0, 1, 12, 13, 14]) (
        .seq (
         .cond (.t 14) (
          .skip) (
          .exit 0)) (
         .seq (
          .block 1 (
           .seq (
            .ops [
              ⟨(some 15), .mv (.t 13), none⟩,
              ⟨(some 5), .mv (.t 15), none⟩] [0, 1, 5, 12, 13]) (
            .seq (
             .draw [
               ⟨(some 16), .mv (.t 0), none⟩,
               ⟨(some 17), .mv (.t 5), none⟩,
               ⟨(some 18), .ia 1 (.t 16) (.t 17), none⟩,
               ⟨(some 19), .load 1 false (.t 18), none⟩,
               ⟨(some 20), .mv (.t 1), none⟩,
               ⟨(some 21), .mv (.t 5), none⟩,
               ⟨(some 22), .ia 1 (.t 20) (.t 21), none⟩,
               ⟨(some 23), .load 1 false (.t 22), none⟩,
               ⟨(some 24), .bin .neq (.t 19) (.t 23), none⟩] [0, 1, 12, 13, 24]) (
             .cond (.t 24) (
              .seq (
               .ops [
                 ⟨(some 4), .mv (.k (.d (.lit (.bool false)))), none⟩] [4]) (
               .ret)) (
              .skip))))) (
          .ops [
            ⟨(some 25), .bin .add (.t 13) (.k (.d (.lit (.int .i64 1)))), none⟩,
            ⟨(some 13), .mv (.t 25), none⟩] [0, 1, 12, 13]))))))) (
    .seq (
     .ops [
       ⟨(some 4), .mv (.k (.d (.lit (.bool true)))), none⟩] [4]) (
     .ret))))
def rs13 : List RV := [.t 4 false]
theorem k13 : okFn G.tab Tryd.f13 2 c13 rs13 = true := by kernel_rfl

/-- testbench/testbenchlaw39.cycle -/
def c22 : Cd :=
 .seq (
  .ops [
    ⟨(some 2), .new 27 [.d (.lit (.int .i64 0)), .d (.lit (.int .i64 0)), .d (.lit (.int .i64 0)), .d (.lit (.int .i64 0)), .d (.lit (.int .i64 0)), .d (.lit (.string ⟨#[]⟩)), .nil, .d (.lit (.string ⟨#[]⟩)), .nil], none⟩] [0, 2]) (
  .seq (
   .ops [
     ⟨(some 3), .mv (.t 0), none⟩,
     ⟨(some 4), .bld [.d (.lit (.int .i64 0)), .d (.lit (.int .i64 0)), .d (.lit (.string ⟨#[]⟩)), .nil] [(0, 1, .k (.d (.lit (.int .i64 2)))), (2, 1, .t 3)], none⟩,
     ⟨(some 5), .bld [.d (.lit (.int .i64 0)), .d (.lit (.int .i64 0)), .d (.lit (.int .i64 0)), .d (.lit (.int .i64 0)), .d (.lit (.int .i64 0)), .d (.lit (.string ⟨#[]⟩)), .nil, .d (.lit (.string ⟨#[]⟩)), .nil] [(0, 1, .k (.d (.lit (.int .i64 1)))), (3, 4, .t 4)], none⟩,
     ⟨none, .sto 9 (.t 2) (.t 5), none⟩] [2]) (
   .ret))
def rs22 : List RV := [.c 2 9 true]
theorem k22 : okFn G.tab Tryd.f22 1 c22 rs22 = true := by kernel_rfl

/-- testbench/tseq.Valid -/
def c6 : Cd :=
 .seq (
  .ops [
    ⟨(some 1), .box 27 (.t 0), none⟩,
    ⟨(some 2), .mv (.k (.d (.lit (.int .i64 0)))), none⟩] [1]) (
  .seq (
   .seq (
    .ops [
      ⟨(some 3), .load 9 true (.t 1), none⟩,
      ⟨(some 4), .call 17 [.t 3], none⟩,
      ⟨(some 5), .bin .gtr (.t 4) (.k (.d (.lit (.int .i64 8)))), none⟩,
      ⟨(some 6), .mv (.t 5), none⟩,
      ⟨(some 7), .load 9 true (.t 1), (some (6, false))⟩,
      ⟨(some 8), .call 7 [.t 7], (some (6, false))⟩,
      ⟨(some 9), .bin .gtr (.t 8) (.k (.d (.lit (.int .i64 100)))), (some (6, false))⟩,
      ⟨(some 10), .pick (.t 6) (.k (.d (.lit (.bool true)))) (.t 9), none⟩] [1, 10]) (
    .cond (.t 10) (
     .seq (
      .ops [
        ⟨(some 2), .mv (.k (.d (.lit (.int .i64 2)))), none⟩] [2]) (
      .ret)) (
     .skip))) (
   .seq (
    .ops [
      ⟨(some 11), .load 9 true (.t 1), none⟩,
      ⟨(some 12), .call 18 [.t 11, .k (.d (.lit (.bool false)))], none⟩,
      ⟨(some 2), .mv (.t 12), none⟩] [2]) (
    .ret)))
def rs6 : List RV := [.t 2 false]
theorem k6 : okFn G.tab Tryd.f6 1 c6 rs6 = true := by kernel_rfl

/-- testbench/tseq.Size -/
def c7 : Cd :=
 .seq (
  .ops [
    ⟨(some 1), .box 27 (.t 0), none⟩,
    ⟨(some 2), .mv (.k (.d (.lit (.int .i64 0)))), none⟩] [1]) (
  .seq (
   .ops [
     ⟨(some 3), .load 9 true (.t 1), none⟩,
     ⟨(some 4), .call 19 [.t 3, .k (.fn 20 [])], none⟩,
     ⟨(some 2), .mv (.t 4), none⟩] [2]) (
   .ret))
def rs7 : List RV := [.t 2 false]
theorem k7 : okFn G.tab Tryd.f7 1 c7 rs7 = true := by kernel_rfl

/-- testbench/tseq.Size$1 -/
def c20 : Cd :=
 .seq (
  .ops [
    ⟨(some 2), .box 27 (.t 0), none⟩,
    ⟨(some 4), .mv (.k (.d (.lit (.int .i64 0)))), none⟩] [1]) (
  .seq (
   .ops [
     ⟨(some 5), .mv (.t 1), none⟩,
     ⟨(some 6), .call 21 [.t 5], none⟩,
     ⟨(some 7), .bin .add (.k (.d (.lit (.int .i64 1)))) (.t 6), none⟩,
     ⟨(some 4), .mv (.t 7), none⟩] [4]) (
   .ret))
def rs20 : List RV := [.t 4 false]
theorem k20 : okFn G.tab Tryd.f20 2 c20 rs20 = true := by kernel_rfl

/-- testbench/tseq.sum -/
def c21 : Cd :=
 .seq (
  .ops [
    ⟨(some 2), .mv (.k (.d (.lit (.int .i64 0)))), none⟩] [0]) (
  .seq (
   .ops [
     ⟨(some 3), .mv (.k (.d (.lit (.int .i64 0)))), none⟩] [0, 3]) (
   .seq (
    .seq (
     .ops [
       ⟨(some 6), .mv (.t 0), none⟩,
       ⟨(some 7), .len false (.t 6), none⟩,
       ⟨(some 8), .mv (.k (.d (.lit (.int .i64 0)))), none⟩] [3, 6, 7, 8]) (
     .block 0 (
      .loop (
       .seq (
        .ops [
          ⟨(some 9), .bin .lss (.t 8) (.t 7), none⟩] [3, 6, 7, 8, 9]) (
        .seq (
         .cond (.t 9) (
          .skip) (
          .exit 0)) (
         .seq (
          .block 1 (
           .seq (
            .ops [
              ⟨(some 10), .ia 1 (.t 6) (.t 8), none⟩,
              ⟨(some 11), .load 1 false (.t 10), none⟩,
              ⟨(some 5), .mv (.t 11), none⟩] [3, 5, 6, 7, 8]) (
            .ops [
              ⟨(some 12), .mv (.t 3), none⟩,
              ⟨(some 13), .mv (.t 5), none⟩,
              ⟨(some 14), .bin .add (.t 12) (.t 13), none⟩,
              ⟨(some 3), .mv (.t 14), none⟩] [3, 6, 7, 8]))) (
          .ops [
            ⟨(some 15), .bin .add (.t 8) (.k (.d (.lit (.int .i64 1)))), none⟩,
            ⟨(some 8), .mv (.t 15), none⟩] [3, 6, 7, 8]))))))) (
    .seq (
     .ops [
       ⟨(some 16), .mv (.t 3), none⟩,
       ⟨(some 2), .mv (.t 16), none⟩] [2]) (
     .ret))))
def rs21 : List RV := [.t 2 false]
theorem k21 : okFn G.tab Tryd.f21 1 c21 rs21 = true := by kernel_rfl

/-- testbench/tseq.Min -/
def c11 : Cd :=
 .seq (
  .ops [
    ⟨(some 1), .box 27 (.t 0), none⟩,
    ⟨(some 2), .mv (.k (.d (.lit (.int .i64 0)))), none⟩] [1]) (
  .seq (
   .seq (
    .ops [
      ⟨(some 3), .load 9 true (.t 1), none⟩,
      ⟨(some 4), .call 6 [.t 3], none⟩,
      ⟨(some 5), .bin .neq (.t 4) (.k (.d (.lit (.int .i64 0)))), none⟩] [1, 5]) (
    .cond (.t 5) (
     .seq (
      .ops [
        ⟨(some 2), .mv (.k (.d (.lit (.int .i64 0)))), none⟩] [2]) (
      .ret)) (
     .skip))) (
   .seq (
    .ops [
      ⟨(some 6), .load 9 true (.t 1), none⟩,
      ⟨(some 7), .call 19 [.t 6, .k (.fn 26 [])], none⟩,
      ⟨(some 2), .mv (.t 7), none⟩] [2]) (
    .ret)))
def rs11 : List RV := [.t 2 false]
theorem k11 : okFn G.tab Tryd.f11 1 c11 rs11 = true := by kernel_rfl

/-- testbench/tseq.Min$1 -/
def c26 : Cd :=
 .seq (
  .ops [
    ⟨(some 2), .box 27 (.t 0), none⟩,
    ⟨(some 4), .mv (.k (.d (.lit (.int .i64 0)))), none⟩] [1, 2]) (
  .seq (
   .ops [
     ⟨(some 5), .load 9 true (.t 2), none⟩,
     ⟨(some 6), .mv (.t 1), none⟩,
     ⟨(some 7), .fa 1 (.t 2), none⟩,
     ⟨(some 8), .load 1 false (.t 7), none⟩,
     ⟨(some 9), .call 27 [.t 5, .t 6, .t 8, .k (.fn 28 [])], none⟩,
     ⟨(some 4), .mv (.t 9), none⟩] [4]) (
   .ret))
def rs26 : List RV := [.t 4 false]
theorem k26 : okFn G.tab Tryd.f26 2 c26 rs26 = true := by kernel_rfl

/-- testbench/tseq.Min$1$1 -/
def c28 : Cd :=
 .seq (
  .ops [
    ⟨(some 2), .mv (.k (.d (.lit (.int .i64 0)))), none⟩] [0]) (
  .seq (
   .ops [
     ⟨(some 3), .mv (.t 0), none⟩,
     ⟨(some 4), .call 29 [.t 3], none⟩,
     ⟨(some 2), .mv (.t 4), none⟩] [2]) (
   .ret))
def rs28 : List RV := [.t 2 false]
theorem k28 : okFn G.tab Tryd.f28 1 c28 rs28 = true := by kernel_rfl

/-- testbench/tseq.Max -/
def c12 : Cd :=
 .seq (
  .ops [
    ⟨(some 1), .box 27 (.t 0), none⟩,
    ⟨(some 2), .mv (.k (.d (.lit (.int .i64 0)))), none⟩] [1]) (
  .seq (
   .seq (
    .ops [
      ⟨(some 3), .load 9 true (.t 1), none⟩,
      ⟨(some 4), .call 6 [.t 3], none⟩,
      ⟨(some 5), .bin .neq (.t 4) (.k (.d (.lit (.int .i64 0)))), none⟩] [1, 5]) (
    .cond (.t 5) (
     .seq (
      .ops [
        ⟨(some 2), .mv (.k (.d (.lit (.int .i64 0)))), none⟩] [2]) (
      .ret)) (
     .skip))) (
   .seq (
    .ops [
      ⟨(some 6), .load 9 true (.t 1), none⟩,
      ⟨(some 7), .call 19 [.t 6, .k (.fn 30 [])], none⟩,
      ⟨(some 2), .mv (.t 7), none⟩] [2]) (
    .ret)))
def rs12 : List RV := [.t 2 false]
theorem k12 : okFn G.tab Tryd.f12 1 c12 rs12 = true := by kernel_rfl

/-- testbench/tseq.Max$1 -/
def c30 : Cd :=
 .seq (
  .ops [
    ⟨(some 2), .box 27 (.t 0), none⟩,
    ⟨(some 4), .mv (.k (.d (.lit (.int .i64 0)))), none⟩] [1, 2]) (
  .seq (
   .ops [
     ⟨(some 5), .load 9 true (.t 2), none⟩,
     ⟨(some 6), .mv (.t 1), none⟩,
     ⟨(some 7), .fa 2 (.t 2), none⟩,
     ⟨(some 8), .load 1 false (.t 7), none⟩,
     ⟨(some 9), .call 27 [.t 5, .t 6, .t 8, .k (.fn 31 [])], none⟩,
     ⟨(some 4), .mv (.t 9), none⟩] [4]) (
   .ret))
def rs30 : List RV := [.t 4 false]
theorem k30 : okFn G.tab Tryd.f30 2 c30 rs30 = true := by kernel_rfl

/-- testbench/tseq.Max$1$1 -/
def c31 : Cd :=
 .seq (
  .ops [
    ⟨(some 2), .mv (.k (.d (.lit (.int .i64 0)))), none⟩] [0]) (
  .seq (
   .ops [
     ⟨(some 3), .mv (.t 0), none⟩,
     ⟨(some 4), .call 32 [.t 3], none⟩,
     ⟨(some 2), .mv (.t 4), none⟩] [2]) (
   .ret))
def rs31 : List RV := [.t 2 false]
theorem k31 : okFn G.tab Tryd.f31 1 c31 rs31 = true := by kernel_rfl

/-- testbench/tseq.length -/
def c27 : Cd :=
 .seq (
  .ops [
    ⟨(some 4), .box 27 (.t 0), none⟩,
    ⟨(some 8), .mv (.k (.d (.lit (.int .i64 0)))), none⟩] [1, 2, 3, 4]) (
  .seq (
   .seq (
    .ops [
      ⟨(some 9), .fa 0 (.t 4), none⟩,
      ⟨(some 10), .load 1 false (.t 9), none⟩] [1, 2, 3, 10]) (
    .block 0 (
     .seq (
      .ops [
        ⟨(some 12), .bin .eql (.t 10) (.k (.d (.lit (.int .i64 2)))), none⟩,
        ⟨(some 11), .mv (.t 12), none⟩] [1, 2, 3, 10, 11]) (
      .cond (.t 11) (
       .seq (
        .draw [
          ⟨(some 13), .mv (.t 1), none⟩,
          ⟨(some 14), .ia 1 (.t 13) (.k (.d (.lit (.int .i64 0)))), none⟩,
          ⟨(some 15), .load 1 false (.t 14), none⟩,
          ⟨(some 16), .mv (.t 1), none⟩,
          ⟨(some 17), .ia 1 (.t 16) (.k (.d (.lit (.int .i64 1)))), none⟩,
          ⟨(some 18), .load 1 false (.t 17), none⟩,
          ⟨(some 19), .bin .add (.t 15) (.t 18), none⟩,
          ⟨(some 20), .mv (.t 2), none⟩,
          ⟨(some 21), .bin .add (.t 19) (.t 20), none⟩,
          ⟨(some 22), .bin .sub (.t 21) (.k (.d (.lit (.int .i64 1)))), none⟩,
          ⟨(some 8), .mv (.t 22), none⟩] [8]) (
        .ret)) (
       .seq (
        .ops [
          ⟨(some 24), .bin .eql (.t 10) (.k (.d (.lit (.int .i64 3)))), none⟩,
          ⟨(some 23), .mv (.t 24), none⟩] [1, 2, 3, 10, 23]) (
        .cond (.t 23) (
         .seq (
          .ops [
            ⟨(some 25), .mv (.t 1), none⟩,
            ⟨(some 26), .ia 1 (.t 25) (.k (.d (.lit (.int .i64 0)))), none⟩,
            ⟨(some 27), .load 1 false (.t 26), none⟩,
            ⟨(some 28), .mv (.t 2), none⟩,
            ⟨(some 29), .bin .mul (.t 27) (.t 28), none⟩,
            ⟨(some 8), .mv (.t 29), none⟩] [8]) (
          .ret)) (
         .seq (
          .ops [
            ⟨(some 31), .bin .eql (.t 10) (.k (.d (.lit (.int .i64 4)))), none⟩,
            ⟨(some 30), .mv (.t 31), none⟩] [1, 3, 10, 30]) (
          .cond (.t 30) (
           .seq (
            .ops [
              ⟨(some 32), .mv (.t 3), none⟩,
              ⟨(some 33), .mv (.t 1), none⟩,
              ⟨(some 34), .callv (.t 32) [.t 33], none⟩,
              ⟨(some 8), .mv (.t 34), none⟩] [8]) (
            .ret)) (
           .seq (
            .ops [
              ⟨(some 36), .bin .eql (.t 10) (.k (.d (.lit (.int .i64 5)))), none⟩,
              ⟨(some 35), .mv (.t 36), none⟩] [1, 10, 35]) (
            .cond (.t 35) (
             .seq (
              .ops [
                ⟨(some 37), .mv (.t 1), none⟩,
                ⟨(some 38), .call 32 [.t 37], none⟩,
                ⟨(some 8), .mv (.t 38), none⟩] [8]) (
              .ret)) (
             .seq (
              .seq (
               .ops [
                 ⟨(some 40), .bin .eql (.t 10) (.k (.d (.lit (.int .i64 6)))), none⟩,
                 ⟨(some 39), .mv (.t 40), none⟩] [1, 10, 39]) (
               .cond (.t 39) (
                .skip) (
                .ops [
                  ⟨(some 41), .bin .eql (.t 10) (.k (.d (.lit (.int .i64 7)))), none⟩,
                  ⟨(some 39), .mv (.t 41), none⟩] [1, 39]))) (
              .cond (.t 39) (
               .seq (
                .ops [
                  ⟨(some 42), .mv (.t 1), none⟩,
                  ⟨(some 43), .ia 1 (.t 42) (.k (.d (.lit (.int .i64 0)))), none⟩,
                  ⟨(some 44), .load 1 false (.t 43), none⟩,
                  ⟨(some 8), .mv (.t 44), none⟩] [8]) (
                .ret)) (
               .skip))))))))))))) (
   .seq (
    .ops [
      ⟨(some 8), .mv (.k (.d (.lit (.int .i64 1)))), none⟩] [8]) (
    .ret)))
def rs27 : List RV := [.t 8 false]
theorem k27 : okFn G.tab Tryd.f27 4 c27 rs27 = true := by kernel_rfl

/-- testbench/tseq.depth -/
def c17 : Cd :=
 .seq (
  .ops [
    ⟨(some 1), .box 27 (.t 0), none⟩,
    ⟨(some 2), .mv (.k (.d (.lit (.int .i64 0)))), none⟩] [1]) (
  .seq (
   .ops [
     ⟨(some 3), .load 9 true (.t 1), none⟩,
     ⟨(some 4), .call 19 [.t 3, .k (.fn 38 [])], none⟩,
     ⟨(some 2), .mv (.t 4), none⟩] [2]) (
   .ret))
def rs17 : List RV := [.t 2 false]
theorem k17 : okFn G.tab Tryd.f17 1 c17 rs17 = true := by kernel_rfl

/-- testbench/tseq.depth$1 -/
def c38 : Cd :=
 .seq (
  .ops [
    ⟨(some 2), .box 27 (.t 0), none⟩,
    ⟨(some 4), .mv (.k (.d (.lit (.int .i64 0)))), none⟩] [1]) (
  .seq (
   .ops [
     ⟨(some 5), .mvo 1, none⟩,
     ⟨(some 6), .mks 3 1 [.k (.d (.lit (.int .i64 0)))], none⟩,
     ⟨(some 7), .app 3 1 8 5 (.t 6), none⟩,
     ⟨(some 8), .call 32 [.t 7], none⟩,
     ⟨(some 9), .bin .add (.k (.d (.lit (.int .i64 1)))) (.t 8), none⟩,
     ⟨(some 4), .mv (.t 9), none⟩] [4]) (
   .ret))
def rs38 : List RV := [.t 4 false]
theorem k38 : okFn G.tab Tryd.f38 2 c38 rs38 = true := by kernel_rfl

/-- testbench/tseq.check -/
def c18 : Cd :=
 .seq (
  .ops [
    ⟨(some 2), .box 27 (.t 0), none⟩,
    ⟨(some 4), .mv (.k (.d (.lit (.int .i64 0)))), none⟩] [1, 2]) (
  .seq (
   .seq (
    .ops [
      ⟨(some 9), .load 9 true (.t 2), none⟩,
      ⟨(some 10), .mv (.t 1), none⟩,
      ⟨(some 11), .call 39 [.t 9, .t 10], none⟩,
      ⟨(some 5), .mv (.t 11), none⟩] [1, 2, 5]) (
    .seq (
     .ops [
       ⟨(some 12), .mv (.t 5), none⟩,
       ⟨(some 13), .bin .neq (.t 12) (.k (.d (.lit (.int .i64 0)))), none⟩] [1, 2, 5, 13]) (
     .cond (.t 13) (
      .seq (
       .ops [
         ⟨(some 14), .mv (.t 5), none⟩,
         ⟨(some 4), .mv (.t 14), none⟩] [4]) (
       .ret)) (
      .skip)))) (
   .seq (
    .seq (
     .ops [
       ⟨(some 15), .fa 8 (.t 2), none⟩,
       ⟨(some 16), .load 1 false (.t 15), none⟩,
       ⟨(some 17), .len false (.t 16), none⟩,
       ⟨(some 18), .mv (.k (.d (.lit (.int .i64 0)))), none⟩] [1, 2, 16, 17, 18]) (
     .block 0 (
      .loop (
       .seq (
        .ops [
          ⟨(some 19), .bin .lss (.t 18) (.t 17), none⟩] [1, 2, 16, 17, 18, 19]) (
        .seq (
         .cond (.t 19) (
          .skip) (
          .exit 0)) (
         .seq (
          .block 1 (
           .seq (
            .ops [
              ⟨(some 20), .ia 9 (.t 16) (.t 18), none⟩,
              ⟨(some 21), .load 9 true (.t 20), none⟩,
              ⟨(some 7), .new 27 [.d (.lit (.int .i64 0)), .d (.lit (.int .i64 0)), .d (.lit (.int .i64 0)), .d (.lit (.int .i64 0)), .d (.lit (.int .i64 0)), .d (.lit (.string ⟨#[]⟩)), .nil, .d (.lit (.string ⟨#[]⟩)), .nil], none⟩,
              ⟨none, .sto 9 (.t 7) (.t 21), none⟩] [1, 2, 7, 16, 17, 18]) (
            .seq (
             .ops [
               ⟨(some 22), .load 9 true (.t 7), none⟩,
               ⟨(some 23), .mv (.t 1), none⟩,
               ⟨(some 24), .mv (.t 23), none⟩,
               ⟨(some 25), .fa 0 (.t 2), (some (24, false))⟩,
               ⟨(some 26), .load 1 false (.t 25), (some (24, false))⟩,
               ⟨(some 27), .bin .eql (.t 26) (.k (.d (.lit (.int .i64 5)))), (some (24, false))⟩,
               ⟨(some 28), .pick (.t 24) (.k (.d (.lit (.bool true)))) (.t 27), none⟩,
               ⟨(some 29), .call 18 [.t 22, .t 28], none⟩,
               ⟨(some 8), .mv (.t 29), none⟩] [1, 2, 8, 16, 17, 18]) (
             .seq (
              .ops [
                ⟨(some 30), .mv (.t 8), none⟩,
                ⟨(some 31), .bin .neq (.t 30) (.k (.d (.lit (.int .i64 0)))), none⟩] [1, 2, 8, 16, 17, 18, 31]) (
              .cond (.t 31) (
               .seq (
                .ops [
                  ⟨(some 32), .mv (.t 8), none⟩,
                  ⟨(some 4), .mv (.t 32), none⟩] [4]) (
                .ret)) (
               .skip)))))) (
          .ops [
            ⟨(some 33), .bin .add (.t 18) (.k (.d (.lit (.int .i64 1)))), none⟩,
            ⟨(some 18), .mv (.t 33), none⟩] [1, 2, 16, 17, 18]))))))) (
    .seq (
     .ops [
       ⟨(some 4), .mv (.k (.d (.lit (.int .i64 0)))), none⟩] [4]) (
     .ret))))
def rs18 : List RV := [.t 4 false]
theorem k18 : okFn G.tab Tryd.f18 2 c18 rs18 = true := by kernel_rfl

/-- testbench/tseq.node -/
def c39 : Cd :=
 .seq (
  .ops [
    ⟨(some 2), .box 27 (.t 0), none⟩,
    ⟨(some 4), .mv (.k (.d (.lit (.int .i64 0)))), none⟩] [1, 2]) (
  .seq (
   .seq (
    .ops [
      ⟨(some 7), .load 9 true (.t 2), none⟩,
      ⟨(some 8), .call 53 [.t 7], none⟩,
      ⟨(some 9), .un .not (.t 8), none⟩,
      ⟨(some 10), .mv (.t 9), none⟩,
      ⟨(some 11), .fa 0 (.t 2), (some (10, false))⟩,
      ⟨(some 12), .load 1 false (.t 11), (some (10, false))⟩,
      ⟨(some 13), .call 54 [.t 12], (some (10, false))⟩,
      ⟨(some 14), .un .not (.t 13), (some (10, false))⟩,
      ⟨(some 15), .mv (.t 14), (some (10, false))⟩,
      ⟨(some 16), .fa 3 (.t 2), (some (15, true))⟩,
      ⟨(some 17), .load 4 true (.t 16), (some (15, true))⟩,
      ⟨(some 18), .call 55 [.t 17], (some (15, true))⟩,
      ⟨(some 19), .un .not (.t 18), (some (15, true))⟩,
      ⟨(some 20), .pick (.t 15) (.t 19) (.k (.d (.lit (.bool false)))), (some (10, false))⟩,
      ⟨(some 21), .pick (.t 10) (.k (.d (.lit (.bool true)))) (.t 20), none⟩,
      ⟨(some 22), .mv (.t 21), none⟩,
      ⟨(some 23), .fa 0 (.t 2), (some (22, false))⟩,
      ⟨(some 24), .load 1 false (.t 23), (some (22, false))⟩,
      ⟨(some 25), .bin .neq (.t 24) (.k (.d (.lit (.int .i64 6)))), (some (22, false))⟩,
      ⟨(some 26), .mv (.t 25), (some (22, false))⟩,
      ⟨(some 27), .fa 7 (.t 2), (some (26, true))⟩,
      ⟨(some 28), .load 1 false (.t 27), (some (26, true))⟩,
      ⟨(some 29), .bin .neq (.t 28) (.k (.d (.lit (.string ⟨#[]⟩)))), (some (26, true))⟩,
      ⟨(some 30), .pick (.t 26) (.t 29) (.k (.d (.lit (.bool false)))), (some (22, false))⟩,
      ⟨(some 31), .pick (.t 22) (.k (.d (.lit (.bool true)))) (.t 30), none⟩] [1, 2, 31]) (
    .cond (.t 31) (
     .seq (
      .ops [
        ⟨(some 4), .mv (.k (.d (.lit (.int .i64 1)))), none⟩] [4]) (
      .ret)) (
     .skip))) (
   .seq (
    .seq (
     .ops [
       ⟨(some 32), .fa 0 (.t 2), none⟩,
       ⟨(some 33), .load 1 false (.t 32), none⟩,
       ⟨(some 34), .bin .eql (.t 33) (.k (.d (.lit (.int .i64 6)))), none⟩,
       ⟨(some 35), .mv (.t 34), none⟩,
       ⟨(some 36), .fa 7 (.t 2), (some (35, true))⟩,
       ⟨(some 37), .load 1 false (.t 36), (some (35, true))⟩,
       ⟨(some 38), .call 56 [.t 37], (some (35, true))⟩,
       ⟨(some 39), .un .not (.t 38), (some (35, true))⟩,
       ⟨(some 40), .pick (.t 35) (.t 39) (.k (.d (.lit (.bool false)))), none⟩] [1, 2, 40]) (
     .cond (.t 40) (
      .seq (
       .ops [
         ⟨(some 4), .mv (.k (.d (.lit (.int .i64 7)))), none⟩] [4]) (
       .ret)) (
      .skip))) (
    .seq (
     .seq (
      .ops [
        ⟨(some 41), .fa 0 (.t 2), none⟩,
        ⟨(some 42), .load 1 false (.t 41), none⟩,
        ⟨(some 43), .call 54 [.t 42], none⟩] [1, 2, 43]) (
      .cond (.t 43) (
       .seq (
        .ops [
          ⟨(some 44), .fa 3 (.t 2), none⟩,
          ⟨(some 45), .load 4 true (.t 44), none⟩,
          ⟨(some 46), .call 57 [.t 45], none⟩,
          ⟨(some 5), .mv (.t 46), none⟩] [1, 2, 5]) (
        .seq (
         .ops [
           ⟨(some 47), .mv (.t 5), none⟩,
           ⟨(some 48), .bin .neq (.t 47) (.k (.d (.lit (.int .i64 0)))), none⟩] [1, 2, 5, 48]) (
         .cond (.t 48) (
          .seq (
           .ops [
             ⟨(some 49), .mv (.t 5), none⟩,
             ⟨(some 4), .mv (.t 49), none⟩] [4]) (
           .ret)) (
          .skip)))) (
       .skip))) (
     .seq (
      .seq (
       .ops [
         ⟨(some 50), .fa 0 (.t 2), none⟩,
         ⟨(some 51), .load 1 false (.t 50), none⟩,
         ⟨(some 52), .bin .eql (.t 51) (.k (.d (.lit (.int .i64 6)))), none⟩,
         ⟨(some 53), .mv (.t 52), none⟩,
         ⟨(some 54), .mv (.t 1), (some (53, true))⟩,
         ⟨(some 55), .pick (.t 53) (.t 54) (.k (.d (.lit (.bool false)))), none⟩] [2, 55]) (
       .cond (.t 55) (
        .seq (
         .ops [
           ⟨(some 4), .mv (.k (.d (.lit (.int .i64 13)))), none⟩] [4]) (
         .ret)) (
        .skip))) (
      .seq (
       .seq (
        .ops [
          ⟨(some 56), .fa 0 (.t 2), none⟩,
          ⟨(some 57), .load 1 false (.t 56), none⟩,
          ⟨(some 58), .bin .eql (.t 57) (.k (.d (.lit (.int .i64 7)))), none⟩] [2, 58]) (
        .cond (.t 58) (
         .seq (
          .ops [
            ⟨(some 59), .fa 8 (.t 2), none⟩,
            ⟨(some 60), .load 1 false (.t 59), none⟩,
            ⟨(some 61), .ia 9 (.t 60) (.k (.d (.lit (.int .i64 0)))), none⟩,
            ⟨(some 62), .load 9 true (.t 61), none⟩,
            ⟨(some 63), .call 14 [.t 62], none⟩,
            ⟨(some 6), .new 28 [.nil], none⟩,
            ⟨none, .sto 1 (.t 6) (.t 63), none⟩] [2, 6]) (
          .seq (
           .ops [
             ⟨(some 64), .fa 3 (.t 2), none⟩,
             ⟨(some 65), .load 4 true (.t 64), none⟩,
             ⟨(some 66), .call 59 [.t 65], none⟩,
             ⟨(some 67), .mkfn 60 [.t 6], none⟩,
             ⟨(some 68), .call 58 [.t 66, .t 67], none⟩] [68]) (
           .cond (.t 68) (
            .seq (
             .ops [
               ⟨(some 4), .mv (.k (.d (.lit (.int .i64 13)))), none⟩] [4]) (
             .ret)) (
            .skip)))) (
         .skip))) (
       .seq (
        .ops [
          ⟨(some 4), .mv (.k (.d (.lit (.int .i64 0)))), none⟩] [4]) (
        .ret)))))))
def rs39 : List RV := [.t 4 false]
theorem k39 : okFn G.tab Tryd.f39 2 c39 rs39 = true := by kernel_rfl

/-- testbench/tseq.node$1 -/
def c60 : Cd :=
 .seq (
  .ops [
    ⟨(some 3), .mv (.k (.d (.lit (.bool false)))), none⟩] [0, 1]) (
  .seq (
   .ops [
     ⟨(some 4), .load 1 false (.t 1), none⟩,
     ⟨(some 5), .mv (.t 0), none⟩,
     ⟨(some 6), .call 61 [.t 4, .t 5], none⟩,
     ⟨(some 3), .mv (.t 6), none⟩] [3]) (
   .ret))
def rs60 : List RV := [.t 3 false]
theorem k60 : okFn G.tab Tryd.f60 2 c60 rs60 = true := by kernel_rfl

/-- testbench/tseq.shape -/
def c53 : Cd :=
 .seq (
  .ops [
    ⟨(some 1), .box 27 (.t 0), none⟩,
    ⟨(some 2), .mv (.k (.d (.lit (.bool false)))), none⟩] [1]) (
  .seq (
   .draw [
     ⟨(some 7), .fa 1 (.t 1), none⟩,
     ⟨(some 8), .load 1 false (.t 7), none⟩,
     ⟨(some 9), .bin .eql (.t 8) (.k (.d (.lit (.int .i64 0)))), none⟩,
     ⟨(some 10), .mv (.t 9), none⟩,
     ⟨(some 11), .fa 2 (.t 1), (some (10, true))⟩,
     ⟨(some 12), .load 1 false (.t 11), (some (10, true))⟩,
     ⟨(some 13), .bin .eql (.t 12) (.k (.d (.lit (.int .i64 0)))), (some (10, true))⟩,
     ⟨(some 14), .pick (.t 10) (.t 13) (.k (.d (.lit (.bool false)))), none⟩,
     ⟨(some 3), .mv (.k (.d (.lit (.int .i64 1)))), none⟩,
     ⟨(some 4), .mv (.k (.d (.lit (.int .i64 1)))), none⟩,
     ⟨(some 5), .mv (.t 14), none⟩] [1, 3, 4, 5]) (
   .seq (
    .ops [
      ⟨(some 15), .fa 1 (.t 1), none⟩,
      ⟨(some 16), .load 1 false (.t 15), none⟩,
      ⟨(some 17), .fa 2 (.t 1), none⟩,
      ⟨(some 18), .load 1 false (.t 17), none⟩,
      ⟨(some 19), .bin .leq (.t 16) (.t 18), none⟩,
      ⟨(some 20), .mv (.t 19), none⟩,
      ⟨(some 21), .fa 2 (.t 1), (some (20, true))⟩,
      ⟨(some 22), .load 1 false (.t 21), (some (20, true))⟩,
      ⟨(some 23), .bin .leq (.t 22) (.k (.d (.lit (.int .i64 16)))), (some (20, true))⟩,
      ⟨(some 24), .pick (.t 20) (.t 23) (.k (.d (.lit (.bool false)))), none⟩,
      ⟨(some 6), .mv (.t 24), none⟩] [1, 3, 4, 5, 6]) (
    .seq (
     .seq (
      .ops [
        ⟨(some 25), .fa 0 (.t 1), none⟩,
        ⟨(some 26), .load 1 false (.t 25), none⟩] [1, 3, 4, 5, 6, 26]) (
      .block 0 (
       .seq (
        .ops [
          ⟨(some 28), .bin .eql (.t 26) (.k (.d (.lit (.int .i64 1)))), none⟩,
          ⟨(some 27), .mv (.t 28), none⟩] [1, 3, 4, 5, 6, 26, 27]) (
        .cond (.t 27) (
         .ops [
           ⟨(some 3), .mv (.k (.d (.lit (.int .i64 0)))), none⟩,
           ⟨(some 4), .mv (.k (.d (.lit (.int .i64 0)))), none⟩] [1, 3, 4, 5]) (
         .seq (
          .ops [
            ⟨(some 30), .bin .eql (.t 26) (.k (.d (.lit (.int .i64 2)))), none⟩,
            ⟨(some 29), .mv (.t 30), none⟩] [1, 3, 4, 5, 6, 26, 29]) (
          .cond (.t 29) (
           .ops [
             ⟨(some 31), .fa 1 (.t 1), none⟩,
             ⟨(some 32), .load 1 false (.t 31), none⟩,
             ⟨(some 33), .bin .geq (.t 32) (.k (.d (.lit (.int .i64 0)))), none⟩,
             ⟨(some 34), .mv (.t 33), none⟩,
             ⟨(some 35), .mv (.t 6), (some (34, true))⟩,
             ⟨(some 36), .pick (.t 34) (.t 35) (.k (.d (.lit (.bool false)))), none⟩,
             ⟨(some 3), .mv (.k (.d (.lit (.int .i64 2)))), none⟩,
             ⟨(some 4), .mv (.k (.d (.lit (.int .i64 2)))), none⟩,
             ⟨(some 5), .mv (.t 36), none⟩] [1, 3, 4, 5]) (
           .seq (
            .ops [
              ⟨(some 38), .bin .eql (.t 26) (.k (.d (.lit (.int .i64 3)))), none⟩,
              ⟨(some 37), .mv (.t 38), none⟩] [1, 3, 4, 5, 6, 26, 37]) (
            .cond (.t 37) (
             .ops [
               ⟨(some 39), .fa 1 (.t 1), none⟩,
               ⟨(some 40), .load 1 false (.t 39), none⟩,
               ⟨(some 41), .bin .geq (.t 40) (.k (.d (.lit (.int .i64 1)))), none⟩,
               ⟨(some 42), .mv (.t 41), none⟩,
               ⟨(some 43), .mv (.t 6), (some (42, true))⟩,
               ⟨(some 44), .pick (.t 42) (.t 43) (.k (.d (.lit (.bool false)))), none⟩,
               ⟨(some 5), .mv (.t 44), none⟩] [1, 3, 4, 5]) (
             .seq (
              .seq (
               .ops [
                 ⟨(some 46), .bin .eql (.t 26) (.k (.d (.lit (.int .i64 4)))), none⟩,
                 ⟨(some 45), .mv (.t 46), none⟩] [1, 3, 4, 5, 26, 45]) (
               .cond (.t 45) (
                .skip) (
                .ops [
                  ⟨(some 47), .bin .eql (.t 26) (.k (.d (.lit (.int .i64 5)))), none⟩,
                  ⟨(some 45), .mv (.t 47), none⟩] [1, 3, 4, 5, 26, 45]))) (
              .cond (.t 45) (
               .ops [
                 ⟨(some 3), .mv (.k (.d (.lit (.int .i64 2)))), none⟩,
                 ⟨(some 4), .mv (.k (.d (.lit (.int .i64 8)))), none⟩] [1, 3, 4, 5]) (
               .seq (
                .seq (
                 .ops [
                   ⟨(some 49), .bin .eql (.t 26) (.k (.d (.lit (.int .i64 6)))), none⟩,
                   ⟨(some 48), .mv (.t 49), none⟩] [1, 3, 4, 5, 26, 48]) (
                 .cond (.t 48) (
                  .skip) (
                  .ops [
                    ⟨(some 50), .bin .eql (.t 26) (.k (.d (.lit (.int .i64 7)))), none⟩,
                    ⟨(some 48), .mv (.t 50), none⟩] [1, 3, 4, 5, 48]))) (
                .cond (.t 48) (
                 .skip) (
                 .seq (
                  .ops [
                    ⟨(some 2), .mv (.k (.d (.lit (.bool false)))), none⟩] [2]) (
                  .ret)))))))))))))) (
     .seq (
      .ops [
        ⟨(some 51), .fa 8 (.t 1), none⟩,
        ⟨(some 52), .load 1 false (.t 51), none⟩,
        ⟨(some 53), .len false (.t 52), none⟩,
        ⟨(some 54), .mv (.t 3), none⟩,
        ⟨(some 55), .bin .geq (.t 53) (.t 54), none⟩,
        ⟨(some 56), .mv (.t 55), none⟩,
        ⟨(some 57), .fa 8 (.t 1), (some (56, true))⟩,
        ⟨(some 58), .load 1 false (.t 57), (some (56, true))⟩,
        ⟨(some 59), .len false (.t 58), (some (56, true))⟩,
        ⟨(some 60), .mv (.t 4), (some (56, true))⟩,
        ⟨(some 61), .bin .leq (.t 59) (.t 60), (some (56, true))⟩,
        ⟨(some 62), .pick (.t 56) (.t 61) (.k (.d (.lit (.bool false)))), none⟩,
        ⟨(some 63), .mv (.t 62), none⟩,
        ⟨(some 64), .mv (.t 5), (some (63, true))⟩,
        ⟨(some 65), .pick (.t 63) (.t 64) (.k (.d (.lit (.bool false)))), none⟩,
        ⟨(some 2), .mv (.t 65), none⟩] [2]) (
      .ret)))))
def rs53 : List RV := [.t 2 false]
theorem k53 : okFn G.tab Tryd.f53 1 c53 rs53 = true := by kernel_rfl

/-- testbench/tseq.written -/
def c54 : Cd :=
 .seq (
  .ops [
    ⟨(some 2), .mv (.k (.d (.lit (.bool false)))), none⟩] [0]) (
  .seq (
   .ops [
     ⟨(some 3), .mv (.t 0), none⟩,
     ⟨(some 4), .bin .eql (.t 3) (.k (.d (.lit (.int .i64 1)))), none⟩,
     ⟨(some 5), .mv (.t 4), none⟩,
     ⟨(some 6), .mv (.t 0), (some (5, false))⟩,
     ⟨(some 7), .bin .eql (.t 6) (.k (.d (.lit (.int .i64 6)))), (some (5, false))⟩,
     ⟨(some 8), .pick (.t 5) (.k (.d (.lit (.bool true)))) (.t 7), none⟩,
     ⟨(some 9), .mv (.t 8), none⟩,
     ⟨(some 10), .mv (.t 0), (some (9, false))⟩,
     ⟨(some 11), .bin .eql (.t 10) (.k (.d (.lit (.int .i64 7)))), (some (9, false))⟩,
     ⟨(some 12), .pick (.t 9) (.k (.d (.lit (.bool true)))) (.t 11), none⟩,
     ⟨(some 2), .mv (.t 12), none⟩] [2]) (
   .ret))
def rs54 : List RV := [.t 2 false]
theorem k54 : okFn G.tab Tryd.f54 1 c54 rs54 = true := by kernel_rfl

/-- testbench/tseq.zero -/
def c55 : Cd :=
 .seq (
  .ops [
    ⟨(some 1), .box 24 (.t 0), none⟩,
    ⟨(some 2), .mv (.k (.d (.lit (.bool false)))), none⟩] [1]) (
  .seq (
   .ops [
     ⟨(some 3), .fa 0 (.t 1), none⟩,
     ⟨(some 4), .load 1 false (.t 3), none⟩,
     ⟨(some 5), .bin .eql (.t 4) (.k (.d (.lit (.int .i64 0)))), none⟩,
     ⟨(some 6), .mv (.t 5), none⟩,
     ⟨(some 7), .fa 1 (.t 1), (some (6, true))⟩,
     ⟨(some 8), .load 1 false (.t 7), (some (6, true))⟩,
     ⟨(some 9), .bin .eql (.t 8) (.k (.d (.lit (.int .i64 0)))), (some (6, true))⟩,
     ⟨(some 10), .pick (.t 6) (.t 9) (.k (.d (.lit (.bool false)))), none⟩,
     ⟨(some 11), .mv (.t 10), none⟩,
     ⟨(some 12), .fa 2 (.t 1), (some (11, true))⟩,
     ⟨(some 13), .load 1 false (.t 12), (some (11, true))⟩,
     ⟨(some 14), .bin .eql (.t 13) (.k (.d (.lit (.string ⟨#[]⟩)))), (some (11, true))⟩,
     ⟨(some 15), .pick (.t 11) (.t 14) (.k (.d (.lit (.bool false)))), none⟩,
     ⟨(some 16), .mv (.t 15), none⟩,
     ⟨(some 17), .fa 3 (.t 1), (some (16, true))⟩,
     ⟨(some 18), .load 1 false (.t 17), (some (16, true))⟩,
     ⟨(some 19), .len false (.t 18), (some (16, true))⟩,
     ⟨(some 20), .bin .eql (.t 19) (.k (.d (.lit (.int .i64 0)))), (some (16, true))⟩,
     ⟨(some 21), .pick (.t 16) (.t 20) (.k (.d (.lit (.bool false)))), none⟩,
     ⟨(some 2), .mv (.t 21), none⟩] [2]) (
   .ret))
def rs55 : List RV := [.t 2 false]
theorem k55 : okFn G.tab Tryd.f55 1 c55 rs55 = true := by kernel_rfl

/-- testbench/tseq.Same -/
def c9 : Cd :=
 .seq (
  .ops [
    ⟨(some 2), .box 27 (.t 0), none⟩,
    ⟨(some 3), .box 27 (.t 1), none⟩,
    ⟨(some 4), .mv (.k (.d (.lit (.bool false)))), none⟩] [2, 3]) (
  .seq (
   .ops [
     ⟨(some 5), .fa 0 (.t 2), none⟩,
     ⟨(some 6), .load 1 false (.t 5), none⟩,
     ⟨(some 7), .fa 0 (.t 3), none⟩,
     ⟨(some 8), .load 1 false (.t 7), none⟩,
     ⟨(some 9), .bin .eql (.t 6) (.t 8), none⟩,
     ⟨(some 10), .mv (.t 9), none⟩,
     ⟨(some 11), .fa 1 (.t 2), (some (10, true))⟩,
     ⟨(some 12), .load 1 false (.t 11), (some (10, true))⟩,
     ⟨(some 13), .fa 1 (.t 3), (some (10, true))⟩,
     ⟨(some 14), .load 1 false (.t 13), (some (10, true))⟩,
     ⟨(some 15), .bin .eql (.t 12) (.t 14), (some (10, true))⟩,
     ⟨(some 16), .pick (.t 10) (.t 15) (.k (.d (.lit (.bool false)))), none⟩,
     ⟨(some 17), .mv (.t 16), none⟩,
     ⟨(some 18), .fa 2 (.t 2), (some (17, true))⟩,
     ⟨(some 19), .load 1 false (.t 18), (some (17, true))⟩,
     ⟨(some 20), .fa 2 (.t 3), (some (17, true))⟩,
     ⟨(some 21), .load 1 false (.t 20), (some (17, true))⟩,
     ⟨(some 22), .bin .eql (.t 19) (.t 21), (some (17, true))⟩,
     ⟨(some 23), .pick (.t 17) (.t 22) (.k (.d (.lit (.bool false)))), none⟩,
     ⟨(some 24), .mv (.t 23), none⟩,
     ⟨(some 25), .fa 7 (.t 2), (some (24, true))⟩,
     ⟨(some 26), .load 1 false (.t 25), (some (24, true))⟩,
     ⟨(some 27), .fa 7 (.t 3), (some (24, true))⟩,
     ⟨(some 28), .load 1 false (.t 27), (some (24, true))⟩,
     ⟨(some 29), .bin .eql (.t 26) (.t 28), (some (24, true))⟩,
     ⟨(some 30), .pick (.t 24) (.t 29) (.k (.d (.lit (.bool false)))), none⟩,
     ⟨(some 31), .mv (.t 30), none⟩,
     ⟨(some 32), .fa 3 (.t 2), (some (31, true))⟩,
     ⟨(some 33), .load 4 true (.t 32), (some (31, true))⟩,
     ⟨(some 34), .fa 3 (.t 3), (some (31, true))⟩,
     ⟨(some 35), .load 4 true (.t 34), (some (31, true))⟩,
     ⟨(some 36), .call 23 [.t 33, .t 35], (some (31, true))⟩,
     ⟨(some 37), .pick (.t 31) (.t 36) (.k (.d (.lit (.bool false)))), none⟩,
     ⟨(some 38), .mv (.t 37), none⟩,
     ⟨(some 39), .fa 8 (.t 2), (some (38, true))⟩,
     ⟨(some 40), .load 1 false (.t 39), (some (38, true))⟩,
     ⟨(some 41), .fa 8 (.t 3), (some (38, true))⟩,
     ⟨(some 42), .load 1 false (.t 41), (some (38, true))⟩,
     ⟨(some 43), .call 24 [.t 40, .t 42, .k (.fn 9 [])], (some (38, true))⟩,
     ⟨(some 44), .pick (.t 38) (.t 43) (.k (.d (.lit (.bool false)))), none⟩,
     ⟨(some 4), .mv (.t 44), none⟩] [4]) (
   .ret))
def rs9 : List RV := [.t 4 false]
theorem k9 : okFn G.tab Tryd.f9 2 c9 rs9 = true := by kernel_rfl

/-- testbench/testbenchref39.Same -/
def c10 : Cd :=
 .seq (
  .ops [
    ⟨(some 2), .box 27 (.t 0), none⟩,
    ⟨(some 3), .box 27 (.t 1), none⟩,
    ⟨(some 4), .mv (.k (.d (.lit (.bool false)))), none⟩] [2, 3]) (
  .seq (
   .seq (
    .ops [
      ⟨(some 6), .fa 0 (.t 2), none⟩,
      ⟨(some 7), .load 1 false (.t 6), none⟩,
      ⟨(some 8), .fa 0 (.t 3), none⟩,
      ⟨(some 9), .load 1 false (.t 8), none⟩,
      ⟨(some 10), .bin .neq (.t 7) (.t 9), none⟩,
      ⟨(some 11), .mv (.t 10), none⟩,
      ⟨(some 12), .fa 1 (.t 2), (some (11, false))⟩,
      ⟨(some 13), .load 1 false (.t 12), (some (11, false))⟩,
      ⟨(some 14), .fa 1 (.t 3), (some (11, false))⟩,
      ⟨(some 15), .load 1 false (.t 14), (some (11, false))⟩,
      ⟨(some 16), .bin .neq (.t 13) (.t 15), (some (11, false))⟩,
      ⟨(some 17), .pick (.t 11) (.k (.d (.lit (.bool true)))) (.t 16), none⟩,
      ⟨(some 18), .mv (.t 17), none⟩,
      ⟨(some 19), .fa 2 (.t 2), (some (18, false))⟩,
      ⟨(some 20), .load 1 false (.t 19), (some (18, false))⟩,
      ⟨(some 21), .fa 2 (.t 3), (some (18, false))⟩,
      ⟨(some 22), .load 1 false (.t 21), (some (18, false))⟩,
      ⟨(some 23), .bin .neq (.t 20) (.t 22), (some (18, false))⟩,
      ⟨(some 24), .pick (.t 18) (.k (.d (.lit (.bool true)))) (.t 23), none⟩,
      ⟨(some 25), .mv (.t 24), none⟩,
      ⟨(some 26), .fa 7 (.t 2), (some (25, false))⟩,
      ⟨(some 27), .load 1 false (.t 26), (some (25, false))⟩,
      ⟨(some 28), .fa 7 (.t 3), (some (25, false))⟩,
      ⟨(some 29), .load 1 false (.t 28), (some (25, false))⟩,
      ⟨(some 30), .bin .neq (.t 27) (.t 29), (some (25, false))⟩,
      ⟨(some 31), .pick (.t 25) (.k (.d (.lit (.bool true)))) (.t 30), none⟩,
      ⟨(some 32), .mv (.t 31), none⟩,
      ⟨(some 33), .fa 8 (.t 2), (some (32, false))⟩,
      ⟨(some 34), .load 1 false (.t 33), (some (32, false))⟩,
      ⟨(some 35), .len false (.t 34), (some (32, false))⟩,
      ⟨(some 36), .fa 8 (.t 3), (some (32, false))⟩,
      ⟨(some 37), .load 1 false (.t 36), (some (32, false))⟩,
      ⟨(some 38), .len false (.t 37), (some (32, false))⟩,
      ⟨(some 39), .bin .neq (.t 35) (.t 38), (some (32, false))⟩,
      ⟨(some 40), .pick (.t 32) (.k (.d (.lit (.bool true)))) (.t 39), none⟩,
      ⟨(some 41), .mv (.t 40), none⟩,
      ⟨(some 42), .fa 3 (.t 2), (some (41, false))⟩,
      ⟨(some 43), .load 4 true (.t 42), (some (41, false))⟩,
      ⟨(some 44), .fa 3 (.t 3), (some (41, false))⟩,
      ⟨(some 45), .load 4 true (.t 44), (some (41, false))⟩,
      ⟨(some 46), .call 25 [.t 43, .t 45], (some (41, false))⟩,
      ⟨(some 47), .un .not (.t 46), (some (41, false))⟩,
      ⟨(some 48), .pick (.t 41) (.k (.d (.lit (.bool true)))) (.t 47), none⟩] [2, 3, 48]) (
    .cond (.t 48) (
     .seq (
      .ops [
        ⟨(some 4), .mv (.k (.d (.lit (.bool false)))), none⟩] [4]) (
      .ret)) (
     .skip))) (
   .seq (
    .seq (
     .ops [
       ⟨(some 5), .mv (.k (.d (.lit (.int .i64 0)))), none⟩] [2, 3, 5]) (
     .block 0 (
      .loop (
       .seq (
        .seq (
         .ops [
           ⟨(some 49), .mv (.t 5), none⟩,
           ⟨(some 50), .fa 8 (.t 2), none⟩,
           ⟨(some 51), .load 1 false (.t 50), none⟩,
           ⟨(some 52), .len false (.t 51), none⟩,
           ⟨(some 53), .bin .lss (.t 49) (.t 52), none⟩] [2, 3, 5, 53]) (
         .cond (.t 53) (
          .skip) (
          .exit 0))) (
        .seq (
         .block 1 (
          .seq (
           .draw [
             ⟨(some 56), .fa 8 (.t 2), none⟩,
             ⟨(some 57), .load 1 false (.t 56), none⟩,
             ⟨(some 58), .mv (.t 5), none⟩,
             ⟨(some 59), .ia 9 (.t 57) (.t 58), none⟩,
             ⟨(some 60), .load 9 true (.t 59), none⟩,
             ⟨(some 61), .fa 8 (.t 3), none⟩,
             ⟨(some 62), .load 1 false (.t 61), none⟩,
             ⟨(some 63), .mv (.t 5), none⟩,
             ⟨(some 64), .ia 9 (.t 62) (.t 63), none⟩,
             ⟨(some 65), .load 9 true (.t 64), none⟩,
             ⟨(some 66), .call 10 [.t 60, .t 65], none⟩,
             ⟨(some 67), .un .not (.t 66), none⟩] [2, 3, 5, 67]) (
           .cond (.t 67) (
            .seq (
             .ops [
               ⟨(some 4), .mv (.k (.d (.lit (.bool false)))), none⟩] [4]) (
             .ret)) (
            .skip)))) (
         .ops [
           ⟨(some 54), .mv (.t 5), none⟩,
           ⟨(some 55), .bin .add (.t 54) (.k (.d (.lit (.int .i64 1)))), none⟩,
           ⟨(some 5), .mv (.t 55), none⟩] [2, 3, 5])))))) (
    .seq (
     .ops [
       ⟨(some 4), .mv (.k (.d (.lit (.bool true)))), none⟩] [4]) (
     .ret))))
def rs10 : List RV := [.t 4 false]
theorem k10 : okFn G.tab Tryd.f10 2 c10 rs10 = true := by kernel_rfl

/-- testbench/tseq.fold[int] -/
def c19 : Cd :=
 .seq (
  .ops [
    ⟨(some 2), .box 27 (.t 0), none⟩,
    ⟨(some 4), .mv (.k (.d (.lit (.int .i64 0)))), none⟩] [1, 2]) (
  .seq (
   .ops [
     ⟨(some 8), .fa 8 (.t 2), none⟩,
     ⟨(some 9), .load 1 false (.t 8), none⟩,
     ⟨(some 10), .len false (.t 9), none⟩,
     ⟨(some 11), .mkc 3 1 8 (.t 10), none⟩,
     ⟨(some 5), .mvo 11, none⟩] [1, 2, 5]) (
   .seq (
    .seq (
     .ops [
       ⟨(some 12), .fa 8 (.t 2), none⟩,
       ⟨(some 13), .load 1 false (.t 12), none⟩,
       ⟨(some 14), .len false (.t 13), none⟩,
       ⟨(some 15), .mv (.k (.d (.lit (.int .i64 0)))), none⟩] [1, 2, 5, 13, 14, 15]) (
     .block 0 (
      .loop (
       .seq (
        .ops [
          ⟨(some 16), .bin .lss (.t 15) (.t 14), none⟩] [1, 2, 5, 13, 14, 15, 16]) (
        .seq (
         .cond (.t 16) (
          .skip) (
          .exit 0)) (
         .seq (
          .block 1 (
           .seq (
            .ops [
              ⟨(some 17), .ia 9 (.t 13) (.t 15), none⟩,
              ⟨(some 18), .load 9 true (.t 17), none⟩,
              ⟨(some 7), .new 27 [.d (.lit (.int .i64 0)), .d (.lit (.int .i64 0)), .d (.lit (.int .i64 0)), .d (.lit (.int .i64 0)), .d (.lit (.int .i64 0)), .d (.lit (.string ⟨#[]⟩)), .nil, .d (.lit (.string ⟨#[]⟩)), .nil], none⟩,
              ⟨none, .sto 9 (.t 7) (.t 18), none⟩] [1, 2, 5, 7, 13, 14, 15]) (
            .ops [
              ⟨(some 19), .mvo 5, none⟩,
              ⟨(some 20), .load 9 true (.t 7), none⟩,
              ⟨(some 21), .mv (.t 1), none⟩,
              ⟨(some 22), .call 19 [.t 20, .t 21], none⟩,
              ⟨(some 23), .mks 3 1 [.t 22], none⟩,
              ⟨(some 24), .app 3 1 8 19 (.t 23), none⟩,
              ⟨(some 5), .mvo 24, none⟩] [1, 2, 5, 13, 14, 15]))) (
          .ops [
            ⟨(some 25), .bin .add (.t 15) (.k (.d (.lit (.int .i64 1)))), none⟩,
            ⟨(some 15), .mv (.t 25), none⟩] [1, 2, 5, 13, 14, 15]))))))) (
    .seq (
     .ops [
       ⟨(some 26), .mv (.t 1), none⟩,
       ⟨(some 27), .load 9 true (.t 2), none⟩,
       ⟨(some 28), .mvo 5, none⟩,
       ⟨(some 29), .callm (.t 26) [.t 27] 28, none⟩,
       ⟨(some 4), .mv (.t 29), none⟩] [4]) (
     .ret))))
def rs19 : List RV := [.t 4 false]
theorem k19 : okFn G.tab Tryd.f19 2 c19 rs19 = true := by kernel_rfl

/-- testbench/tseq.fold[[]string] -/
def c33 : Cd :=
 .seq (
  .ops [
    ⟨(some 2), .box 27 (.t 0), none⟩,
    ⟨(some 4), .nilo 9 1, none⟩] [1, 2]) (
  .seq (
   .ops [
     ⟨(some 8), .fa 8 (.t 2), none⟩,
     ⟨(some 9), .load 1 false (.t 8), none⟩,
     ⟨(some 10), .len false (.t 9), none⟩,
     ⟨(some 11), .mkc 28 1 24 (.t 10), none⟩,
     ⟨(some 5), .mvo 11, none⟩] [1, 2, 5]) (
   .seq (
    .seq (
     .ops [
       ⟨(some 12), .fa 8 (.t 2), none⟩,
       ⟨(some 13), .load 1 false (.t 12), none⟩,
       ⟨(some 14), .len false (.t 13), none⟩,
       ⟨(some 15), .mv (.k (.d (.lit (.int .i64 0)))), none⟩] [1, 2, 5, 13, 14, 15]) (
     .block 0 (
      .loop (
       .seq (
        .ops [
          ⟨(some 16), .bin .lss (.t 15) (.t 14), none⟩] [1, 2, 5, 13, 14, 15, 16]) (
        .seq (
         .cond (.t 16) (
          .skip) (
          .exit 0)) (
         .seq (
          .block 1 (
           .seq (
            .ops [
              ⟨(some 17), .ia 9 (.t 13) (.t 15), none⟩,
              ⟨(some 18), .load 9 true (.t 17), none⟩,
              ⟨(some 7), .new 27 [.d (.lit (.int .i64 0)), .d (.lit (.int .i64 0)), .d (.lit (.int .i64 0)), .d (.lit (.int .i64 0)), .d (.lit (.int .i64 0)), .d (.lit (.string ⟨#[]⟩)), .nil, .d (.lit (.string ⟨#[]⟩)), .nil], none⟩,
              ⟨none, .sto 9 (.t 7) (.t 18), none⟩] [1, 2, 5, 7, 13, 14, 15]) (
            .ops [
              ⟨(some 19), .mvo 5, none⟩,
              ⟨(some 20), .load 9 true (.t 7), none⟩,
              ⟨(some 21), .mv (.t 1), none⟩,
              ⟨(some 22), .call 33 [.t 20, .t 21], none⟩,
              ⟨(some 23), .mks 28 1 [.t 22], none⟩,
              ⟨(some 24), .app 28 1 24 19 (.t 23), none⟩,
              ⟨(some 5), .mvo 24, none⟩] [1, 2, 5, 13, 14, 15]))) (
          .ops [
            ⟨(some 25), .bin .add (.t 15) (.k (.d (.lit (.int .i64 1)))), none⟩,
            ⟨(some 15), .mv (.t 25), none⟩] [1, 2, 5, 13, 14, 15]))))))) (
    .seq (
     .ops [
       ⟨(some 26), .mv (.t 1), none⟩,
       ⟨(some 27), .load 9 true (.t 2), none⟩,
       ⟨(some 28), .mvo 5, none⟩,
       ⟨(some 29), .callm (.t 26) [.t 27] 28, none⟩,
       ⟨(some 4), .mvo 29, none⟩] [4]) (
     .ret))))
def rs33 : List RV := [.t 4 true]
theorem k33 : okFn G.tab Tryd.f33 2 c33 rs33 = true := by kernel_rfl

/-- testbench/tseq.names -/
def c14 : Cd :=
 .seq (
  .ops [
    ⟨(some 1), .box 27 (.t 0), none⟩,
    ⟨(some 2), .nilo 9 1, none⟩] [1]) (
  .seq (
   .ops [
     ⟨(some 3), .load 9 true (.t 1), none⟩,
     ⟨(some 4), .call 33 [.t 3, .k (.fn 34 [])], none⟩,
     ⟨(some 2), .mvo 4, none⟩] [2]) (
   .ret))
def rs14 : List RV := [.t 2 true]
theorem k14 : okFn G.tab Tryd.f14 1 c14 rs14 = true := by kernel_rfl

/-- testbench/tseq.names$1 -/
def c34 : Cd :=
 .seq (
  .ops [
    ⟨(some 2), .box 27 (.t 0), none⟩,
    ⟨(some 4), .nilo 9 1, none⟩] [1, 2]) (
  .seq (
   .ops [
     ⟨(some 6), .mv (.t 1), none⟩,
     ⟨(some 7), .call 35 [.t 6], none⟩,
     ⟨(some 5), .mvo 7, none⟩] [2, 5]) (
   .seq (
    .seq (
     .ops [
       ⟨(some 8), .fa 0 (.t 2), none⟩,
       ⟨(some 9), .load 1 false (.t 8), none⟩,
       ⟨(some 10), .bin .eql (.t 9) (.k (.d (.lit (.int .i64 6)))), none⟩] [2, 5, 10]) (
     .cond (.t 10) (
      .ops [
        ⟨(some 11), .mvo 5, none⟩,
        ⟨(some 12), .fa 7 (.t 2), none⟩,
        ⟨(some 13), .load 1 false (.t 12), none⟩,
        ⟨(some 14), .mks 9 1 [.t 13], none⟩,
        ⟨(some 15), .app 9 1 16 11 (.t 14), none⟩,
        ⟨(some 5), .mvo 15, none⟩] [5]) (
      .skip))) (
    .seq (
     .ops [
       ⟨(some 16), .mvo 5, none⟩,
       ⟨(some 4), .mvo 16, none⟩] [4]) (
     .ret))))
def rs34 : List RV := [.t 4 true]
theorem k34 : okFn G.tab Tryd.f34 2 c34 rs34 = true := by kernel_rfl

/-- testbench/tseq.Locals -/
def c5 : Cd :=
 .seq (
  .ops [
    ⟨(some 1), .box 27 (.t 0), none⟩,
    ⟨(some 2), .mv (.k (.nil)), none⟩] [1]) (
  .seq (
   .seq (
    .ops [
      ⟨(some 4), .load 9 true (.t 1), none⟩,
      ⟨(some 5), .call 6 [.t 4], none⟩,
      ⟨(some 6), .bin .neq (.t 5) (.k (.d (.lit (.int .i64 0)))), none⟩] [1, 6]) (
    .cond (.t 6) (
     .seq (
      .ops [
        ⟨(some 2), .mv (.k (.nil)), none⟩] [2]) (
      .ret)) (
     .skip))) (
   .seq (
    .ops [
      ⟨(some 7), .load 9 true (.t 1), none⟩,
      ⟨(some 8), .call 14 [.t 7], none⟩,
      ⟨(some 3), .mv (.t 8), none⟩] [3]) (
    .seq (
     .ops [
       ⟨(some 9), .mv (.t 3), none⟩,
       ⟨(some 10), .call 15 [.t 9], none⟩] [3]) (
     .seq (
      .ops [
        ⟨(some 11), .mv (.t 3), none⟩,
        ⟨(some 12), .call 16 [.t 11], none⟩,
        ⟨(some 2), .mv (.t 12), none⟩] [2]) (
      .ret)))))
def rs5 : List RV := [.t 2 false]
theorem k5 : okFn G.tab Tryd.f5 1 c5 rs5 = true := by kernel_rfl

/-- slices.Concat[[]string,string] -/
def c35 : Cd :=
 .seq (
  .ops [
    ⟨(some 2), .nilo 9 1, none⟩] [0]) (
  .seq (
   .ops [
     ⟨(some 3), .mv (.k (.d (.lit (.int .i64 0)))), none⟩] [0, 3]) (
   .seq (
    .seq (
     .ops [
       ⟨(some 9), .mv (.t 0), none⟩,
       ⟨(some 10), .len false (.t 9), none⟩,
       ⟨(some 11), .mv (.k (.d (.lit (.int .i64 0)))), none⟩] [0, 3, 9, 10, 11]) (
     .block 0 (
      .loop (
       .seq (
        .ops [
          ⟨(some 12), .bin .lss (.t 11) (.t 10), none⟩] [0, 3, 9, 10, 11, 12]) (
        .seq (
         .cond (.t 12) (
          .skip) (
          .exit 0)) (
         .seq (
          .block 1 (
           .seq (
            .ops [
              ⟨(some 13), .ia 1 (.t 9) (.t 11), none⟩,
              ⟨(some 14), .load 1 false (.t 13), none⟩,
              ⟨(some 5), .mv (.t 14), none⟩] [0, 3, 5, 9, 10, 11]) (
            .seq (
             .ops [
               ⟨(some 15), .mv (.t 3), none⟩,
               ⟨(some 16), .mv (.t 5), none⟩,
               ⟨(some 17), .len false (.t 16), none⟩,
               ⟨(some 18), .bin .add (.t 15) (.t 17), none⟩,
               ⟨(some 3), .mv (.t 18), none⟩] [0, 3, 9, 10, 11]) (
             .seq (
              .ops [
                ⟨(some 19), .mv (.t 3), none⟩,
                ⟨(some 20), .bin .lss (.t 19) (.k (.d (.lit (.int .i64 0)))), none⟩] [0, 3, 9, 10, 11, 20]) (
              .cond (.t 20) (
               .ops [
                 ⟨(some 21), .mki 9 (.k (.d (.lit (.string ⟨#[108, 101, 110, 32, 111, 117, 116, 32, 111, 102, 32, 114, 97, 110, 103, 101]⟩)))), none⟩,
                 ⟨none, .pan (.t 21), none⟩] [0, 3, 9, 10, 11]) (
               .skip)))))) (
          .ops [
            ⟨(some 22), .bin .add (.t 11) (.k (.d (.lit (.int .i64 1)))), none⟩,
            ⟨(some 11), .mv (.t 22), none⟩] [0, 3, 9, 10, 11]))))))) (
    .seq (
     .ops [
       ⟨(some 23), .mv (.t 3), none⟩,
       ⟨(some 24), .calln 41 [.k (.nil), .t 23], none⟩,
       ⟨(some 6), .mvo 24, none⟩] [0, 6]) (
     .seq (
      .seq (
       .ops [
         ⟨(some 25), .mv (.t 0), none⟩,
         ⟨(some 26), .len false (.t 25), none⟩,
         ⟨(some 27), .mv (.k (.d (.lit (.int .i64 0)))), none⟩] [6, 25, 26, 27]) (
       .block 2 (
        .loop (
         .seq (
          .ops [
            ⟨(some 28), .bin .lss (.t 27) (.t 26), none⟩] [6, 25, 26, 27, 28]) (
          .seq (
           .cond (.t 28) (
            .skip) (
            .exit 2)) (
           .seq (
            .block 3 (
             .seq (
              .ops [
                ⟨(some 29), .ia 1 (.t 25) (.t 27), none⟩,
                ⟨(some 30), .load 1 false (.t 29), none⟩,
                ⟨(some 8), .mv (.t 30), none⟩] [6, 8, 25, 26, 27]) (
              .ops [
                ⟨(some 31), .mvo 6, none⟩,
                ⟨(some 32), .mv (.t 8), none⟩,
                ⟨(some 33), .app 9 1 16 31 (.t 32), none⟩,
                ⟨(some 6), .mvo 33, none⟩] [6, 25, 26, 27]))) (
            .ops [
              ⟨(some 34), .bin .add (.t 27) (.k (.d (.lit (.int .i64 1)))), none⟩,
              ⟨(some 27), .mv (.t 34), none⟩] [6, 25, 26, 27]))))))) (
      .seq (
       .ops [
         ⟨(some 35), .mvo 6, none⟩,
         ⟨(some 2), .mvo 35, none⟩] [2]) (
       .ret))))))
def rs35 : List RV := [.t 2 true]
theorem k35 : okFn G.tab Tryd.f35 1 c35 rs35 = true := by kernel_rfl

/-- slices.Min[[]int,int] -/
def c29 : Cd :=
 .seq (
  .ops [
    ⟨(some 2), .mv (.k (.d (.lit (.int .i64 0)))), none⟩] [0]) (
  .seq (
   .seq (
    .ops [
      ⟨(some 5), .mv (.t 0), none⟩,
      ⟨(some 6), .len false (.t 5), none⟩,
      ⟨(some 7), .bin .lss (.t 6) (.k (.d (.lit (.int .i64 1)))), none⟩] [0, 7]) (
    .cond (.t 7) (
     .ops [
       ⟨(some 8), .mki 9 (.k (.d (.lit (.string ⟨#[115, 108, 105, 99, 101, 115, 46, 77, 105, 110, 58, 32, 101, 109, 112, 116, 121, 32, 108, 105, 115, 116]⟩)))), none⟩,
       ⟨none, .pan (.t 8), none⟩] [0]) (
     .skip))) (
   .seq (
    .ops [
      ⟨(some 9), .mv (.t 0), none⟩,
      ⟨(some 10), .ia 1 (.t 9) (.k (.d (.lit (.int .i64 0)))), none⟩,
      ⟨(some 11), .load 1 false (.t 10), none⟩,
      ⟨(some 3), .mv (.t 11), none⟩] [0, 3]) (
    .seq (
     .seq (
      .ops [
        ⟨(some 4), .mv (.k (.d (.lit (.int .i64 1)))), none⟩] [0, 3, 4]) (
      .block 0 (
       .loop (
        .seq (
         .seq (
          .ops [
            ⟨(some 12), .mv (.t 4), none⟩,
            ⟨(some 13), .mv (.t 0), none⟩,
            ⟨(some 14), .len false (.t 13), none⟩,
            ⟨(some 15), .bin .lss (.t 12) (.t 14), none⟩] [0, 3, 4, 15]) (
          .cond (.t 15) (
           .skip) (
           .exit 0))) (
         .seq (
          .block 1 (
           .ops [
             ⟨(some 18), .mv (.t 3), none⟩,
             ⟨(some 19), .mv (.t 0), none⟩,
             ⟨(some 20), .mv (.t 4), none⟩,
             ⟨(some 21), .ia 1 (.t 19) (.t 20), none⟩,
             ⟨(some 22), .load 1 false (.t 21), none⟩,
             ⟨(some 23), .mx false (.t 18) (.t 22), none⟩,
             ⟨(some 3), .mv (.t 23), none⟩] [0, 3, 4])) (
          .ops [
            ⟨(some 16), .mv (.t 4), none⟩,
            ⟨(some 17), .bin .add (.t 16) (.k (.d (.lit (.int .i64 1)))), none⟩,
            ⟨(some 4), .mv (.t 17), none⟩] [0, 3, 4])))))) (
     .seq (
      .ops [
        ⟨(some 24), .mv (.t 3), none⟩,
        ⟨(some 2), .mv (.t 24), none⟩] [2]) (
      .ret)))))
def rs29 : List RV := [.t 2 false]
theorem k29 : okFn G.tab Tryd.f29 1 c29 rs29 = true := by kernel_rfl

/-- slices.Max[[]int,int] -/
def c32 : Cd :=
 .seq (
  .ops [
    ⟨(some 2), .mv (.k (.d (.lit (.int .i64 0)))), none⟩] [0]) (
  .seq (
   .seq (
    .ops [
      ⟨(some 5), .mv (.t 0), none⟩,
      ⟨(some 6), .len false (.t 5), none⟩,
      ⟨(some 7), .bin .lss (.t 6) (.k (.d (.lit (.int .i64 1)))), none⟩] [0, 7]) (
    .cond (.t 7) (
     .ops [
       ⟨(some 8), .mki 9 (.k (.d (.lit (.string ⟨#[115, 108, 105, 99, 101, 115, 46, 77, 97, 120, 58, 32, 101, 109, 112, 116, 121, 32, 108, 105, 115, 116]⟩)))), none⟩,
       ⟨none, .pan (.t 8), none⟩] [0]) (
     .skip))) (
   .seq (
    .ops [
      ⟨(some 9), .mv (.t 0), none⟩,
      ⟨(some 10), .ia 1 (.t 9) (.k (.d (.lit (.int .i64 0)))), none⟩,
      ⟨(some 11), .load 1 false (.t 10), none⟩,
      ⟨(some 3), .mv (.t 11), none⟩] [0, 3]) (
    .seq (
     .seq (
      .ops [
        ⟨(some 4), .mv (.k (.d (.lit (.int .i64 1)))), none⟩] [0, 3, 4]) (
      .block 0 (
       .loop (
        .seq (
         .seq (
          .ops [
            ⟨(some 12), .mv (.t 4), none⟩,
            ⟨(some 13), .mv (.t 0), none⟩,
            ⟨(some 14), .len false (.t 13), none⟩,
            ⟨(some 15), .bin .lss (.t 12) (.t 14), none⟩] [0, 3, 4, 15]) (
          .cond (.t 15) (
           .skip) (
           .exit 0))) (
         .seq (
          .block 1 (
           .ops [
             ⟨(some 18), .mv (.t 3), none⟩,
             ⟨(some 19), .mv (.t 0), none⟩,
             ⟨(some 20), .mv (.t 4), none⟩,
             ⟨(some 21), .ia 1 (.t 19) (.t 20), none⟩,
             ⟨(some 22), .load 1 false (.t 21), none⟩,
             ⟨(some 23), .mx true (.t 18) (.t 22), none⟩,
             ⟨(some 3), .mv (.t 23), none⟩] [0, 3, 4])) (
          .ops [
            ⟨(some 16), .mv (.t 4), none⟩,
            ⟨(some 17), .bin .add (.t 16) (.k (.d (.lit (.int .i64 1)))), none⟩,
            ⟨(some 4), .mv (.t 17), none⟩] [0, 3, 4])))))) (
     .seq (
      .ops [
        ⟨(some 24), .mv (.t 3), none⟩,
        ⟨(some 2), .mv (.t 24), none⟩] [2]) (
      .ret)))))
def rs32 : List RV := [.t 2 false]
theorem k32 : okFn G.tab Tryd.f32 1 c32 rs32 = true := by kernel_rfl

/-- slices.ContainsFunc[[]string,string] -/
def c58 : Cd :=
 .seq (
  .ops [
    ⟨(some 4), .mv (.k (.d (.lit (.bool false)))), none⟩] [0, 1]) (
  .seq (
   .ops [
     ⟨(some 5), .mv (.t 0), none⟩,
     ⟨(some 6), .mv (.t 1), none⟩,
     ⟨(some 7), .call 75 [.t 5, .t 6], none⟩,
     ⟨(some 8), .bin .geq (.t 7) (.k (.d (.lit (.int .i64 0)))), none⟩,
     ⟨(some 4), .mv (.t 8), none⟩] [4]) (
   .ret))
def rs58 : List RV := [.t 4 false]
theorem k58 : okFn G.tab Tryd.f58 2 c58 rs58 = true := by kernel_rfl

/-- slices.IndexFunc[[]string,string] -/
def c75 : Cd :=
 .seq (
  .ops [
    ⟨(some 4), .mv (.k (.d (.lit (.int .i64 0)))), none⟩] [0, 1]) (
  .seq (
   .seq (
    .ops [
      ⟨(some 6), .mv (.t 0), none⟩,
      ⟨(some 7), .len false (.t 6), none⟩,
      ⟨(some 8), .mv (.k (.d (.lit (.int .i64 0)))), none⟩] [0, 1, 7, 8]) (
    .block 0 (
     .loop (
      .seq (
       .ops [
         ⟨(some 9), .bin .lss (.t 8) (.t 7), none⟩] [0, 1, 7, 8, 9]) (
       .seq (
        .cond (.t 9) (
         .skip) (
         .exit 0)) (
        .seq (
         .block 1 (
          .seq (
           .ops [
             ⟨(some 10), .mv (.t 8), none⟩,
             ⟨(some 5), .mv (.t 10), none⟩] [0, 1, 5, 7, 8]) (
           .seq (
            .ops [
              ⟨(some 11), .mv (.t 1), none⟩,
              ⟨(some 12), .mv (.t 0), none⟩,
              ⟨(some 13), .mv (.t 5), none⟩,
              ⟨(some 14), .ia 1 (.t 12) (.t 13), none⟩,
              ⟨(some 15), .load 1 false (.t 14), none⟩,
              ⟨(some 16), .callv (.t 11) [.t 15], none⟩] [0, 1, 5, 7, 8, 16]) (
            .cond (.t 16) (
             .seq (
              .ops [
                ⟨(some 17), .mv (.t 5), none⟩,
                ⟨(some 4), .mv (.t 17), none⟩] [4]) (
              .ret)) (
             .skip))))) (
         .ops [
           ⟨(some 18), .bin .add (.t 8) (.k (.d (.lit (.int .i64 1)))), none⟩,
           ⟨(some 8), .mv (.t 18), none⟩] [0, 1, 7, 8]))))))) (
   .seq (
    .ops [
      ⟨(some 4), .mv (.k (.d (.lit (.int .i64 (-1))))), none⟩] [4]) (
    .ret)))
def rs75 : List RV := [.t 4 false]
theorem k75 : okFn G.tab Tryd.f75 2 c75 rs75 = true := by kernel_rfl

/-- slices.Contains[[]string,string] -/
def c61 : Cd :=
 .seq (
  .ops [
    ⟨(some 4), .mv (.k (.d (.lit (.bool false)))), none⟩] [0, 1]) (
  .seq (
   .ops [
     ⟨(some 5), .mv (.t 0), none⟩,
     ⟨(some 6), .mv (.t 1), none⟩,
     ⟨(some 7), .call 77 [.t 5, .t 6], none⟩,
     ⟨(some 8), .bin .geq (.t 7) (.k (.d (.lit (.int .i64 0)))), none⟩,
     ⟨(some 4), .mv (.t 8), none⟩] [4]) (
   .ret))
def rs61 : List RV := [.t 4 false]
theorem k61 : okFn G.tab Tryd.f61 2 c61 rs61 = true := by kernel_rfl

/-- slices.Index[[]string,string] -/
def c77 : Cd :=
 .seq (
  .ops [
    ⟨(some 4), .mv (.k (.d (.lit (.int .i64 0)))), none⟩] [0, 1]) (
  .seq (
   .seq (
    .ops [
      ⟨(some 6), .mv (.t 0), none⟩,
      ⟨(some 7), .len false (.t 6), none⟩,
      ⟨(some 8), .mv (.k (.d (.lit (.int .i64 0)))), none⟩] [0, 1, 7, 8]) (
    .block 0 (
     .loop (
      .seq (
       .ops [
         ⟨(some 9), .bin .lss (.t 8) (.t 7), none⟩] [0, 1, 7, 8, 9]) (
       .seq (
        .cond (.t 9) (
         .skip) (
         .exit 0)) (
        .seq (
         .block 1 (
          .seq (
           .ops [
             ⟨(some 10), .mv (.t 8), none⟩,
             ⟨(some 5), .mv (.t 10), none⟩] [0, 1, 5, 7, 8]) (
           .seq (
            .ops [
              ⟨(some 11), .mv (.t 1), none⟩,
              ⟨(some 12), .mv (.t 0), none⟩,
              ⟨(some 13), .mv (.t 5), none⟩,
              ⟨(some 14), .ia 1 (.t 12) (.t 13), none⟩,
              ⟨(some 15), .load 1 false (.t 14), none⟩,
              ⟨(some 16), .bin .eql (.t 11) (.t 15), none⟩] [0, 1, 5, 7, 8, 16]) (
            .cond (.t 16) (
             .seq (
              .ops [
                ⟨(some 17), .mv (.t 5), none⟩,
                ⟨(some 4), .mv (.t 17), none⟩] [4]) (
              .ret)) (
             .skip))))) (
         .ops [
           ⟨(some 18), .bin .add (.t 8) (.k (.d (.lit (.int .i64 1)))), none⟩,
           ⟨(some 8), .mv (.t 18), none⟩] [0, 1, 7, 8]))))))) (
   .seq (
    .ops [
      ⟨(some 4), .mv (.k (.d (.lit (.int .i64 (-1))))), none⟩] [4]) (
    .ret)))
def rs77 : List RV := [.t 4 false]
theorem k77 : okFn G.tab Tryd.f77 2 c77 rs77 = true := by kernel_rfl

/-- slices.EqualFunc[[]testbench/api.Tseq,[]testbench/api.Tseq,testbench/api.Tseq,testbench/api.Tseq] -/
def c24 : Cd :=
 .seq (
  .ops [
    ⟨(some 6), .mv (.k (.d (.lit (.bool false)))), none⟩] [0, 1, 2]) (
  .seq (
   .seq (
    .ops [
      ⟨(some 10), .mv (.t 0), none⟩,
      ⟨(some 11), .len false (.t 10), none⟩,
      ⟨(some 12), .mv (.t 1), none⟩,
      ⟨(some 13), .len false (.t 12), none⟩,
      ⟨(some 14), .bin .neq (.t 11) (.t 13), none⟩] [0, 1, 2, 14]) (
    .cond (.t 14) (
     .seq (
      .ops [
        ⟨(some 6), .mv (.k (.d (.lit (.bool false)))), none⟩] [6]) (
      .ret)) (
     .skip))) (
   .seq (
    .seq (
     .ops [
       ⟨(some 15), .mv (.t 0), none⟩,
       ⟨(some 16), .len false (.t 15), none⟩,
       ⟨(some 17), .mv (.k (.d (.lit (.int .i64 0)))), none⟩] [1, 2, 15, 16, 17]) (
     .block 0 (
      .loop (
       .seq (
        .ops [
          ⟨(some 18), .bin .lss (.t 17) (.t 16), none⟩] [1, 2, 15, 16, 17, 18]) (
        .seq (
         .cond (.t 18) (
          .skip) (
          .exit 0)) (
         .seq (
          .block 1 (
           .seq (
            .ops [
              ⟨(some 19), .mv (.t 17), none⟩,
              ⟨(some 20), .ia 9 (.t 15) (.t 17), none⟩,
              ⟨(some 21), .load 9 true (.t 20), none⟩,
              ⟨(some 8), .new 27 [.d (.lit (.int .i64 0)), .d (.lit (.int .i64 0)), .d (.lit (.int .i64 0)), .d (.lit (.int .i64 0)), .d (.lit (.int .i64 0)), .d (.lit (.string ⟨#[]⟩)), .nil, .d (.lit (.string ⟨#[]⟩)), .nil], none⟩,
              ⟨(some 7), .mv (.t 19), none⟩,
              ⟨none, .sto 9 (.t 8) (.t 21), none⟩] [1, 2, 7, 8, 15, 16, 17]) (
            .seq (
             .ops [
               ⟨(some 22), .mv (.t 1), none⟩,
               ⟨(some 23), .mv (.t 7), none⟩,
               ⟨(some 24), .ia 9 (.t 22) (.t 23), none⟩,
               ⟨(some 25), .load 9 true (.t 24), none⟩,
               ⟨(some 9), .new 27 [.d (.lit (.int .i64 0)), .d (.lit (.int .i64 0)), .d (.lit (.int .i64 0)), .d (.lit (.int .i64 0)), .d (.lit (.int .i64 0)), .d (.lit (.string ⟨#[]⟩)), .nil, .d (.lit (.string ⟨#[]⟩)), .nil], none⟩,
               ⟨none, .sto 9 (.t 9) (.t 25), none⟩] [1, 2, 8, 9, 15, 16, 17]) (
             .seq (
              .ops [
                ⟨(some 26), .mv (.t 2), none⟩,
                ⟨(some 27), .load 9 true (.t 8), none⟩,
                ⟨(some 28), .load 9 true (.t 9), none⟩,
                ⟨(some 29), .callv (.t 26) [.t 27, .t 28], none⟩,
                ⟨(some 30), .un .not (.t 29), none⟩] [1, 2, 15, 16, 17, 30]) (
              .cond (.t 30) (
               .seq (
                .ops [
                  ⟨(some 6), .mv (.k (.d (.lit (.bool false)))), none⟩] [6]) (
                .ret)) (
               .skip)))))) (
          .ops [
            ⟨(some 31), .bin .add (.t 17) (.k (.d (.lit (.int .i64 1)))), none⟩,
            ⟨(some 17), .mv (.t 31), none⟩] [1, 2, 15, 16, 17]))))))) (
    .seq (
     .ops [
       ⟨(some 6), .mv (.k (.d (.lit (.bool true)))), none⟩] [6]) (
     .ret))))
def rs24 : List RV := [.t 6 false]
theorem k24 : okFn G.tab Tryd.f24 3 c24 rs24 = true := by kernel_rfl

end Go.Proofs.YtbhippphcmkjnaaDoor
