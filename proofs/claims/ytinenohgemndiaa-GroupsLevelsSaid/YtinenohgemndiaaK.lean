/-
  Code of functions in the plain world.
-/
import Derived.Test.YtinenohgemndiaaProg
import Derived.Test.YtinenohgemndiaaA20
import Derived.KernelRfl
namespace Go.Proofs.Ytinenohgemndiaa
open Go.RowKit
set_option maxRecDepth 100000
set_option linter.unusedVariables false
set_option linter.unusedSimpArgs false
noncomputable def G : Cx := cx Try.prog (fun _ => none) (by kernel_rfl)
def c3 : Cd :=
 .seq (
  .ops [
    ⟨(some 4), .mv (.k (.d (.lit (.bool false)))), none⟩] [0, 1]) (
  .seq (
   .seq (
    .ops [
      ⟨(some 10), .mv (.t 0), none⟩,
      ⟨(some 11), .mv (.t 1), none⟩,
      ⟨(some 12), .call 9 [.t 10, .t 11], none⟩,
      ⟨(some 13), .un .not (.t 12), none⟩] [0, 1, 13]) (
    .cond (.t 13) (
     .seq (
      .ops [
        ⟨(some 14), .call 10 [], none⟩,
        ⟨(some 4), .mv (.t 14), none⟩] [4]) (
      .ret)) (
     .skip))) (
   .seq (
    .ops [
      ⟨(some 16), .mv (.t 0), none⟩,
      ⟨(some 17), .mv (.t 1), none⟩,
      ⟨(some 18), .call 11 [.t 16, .t 17], none⟩,
      ⟨(some 15), .mv (.t 18), none⟩,
      ⟨(some 19), .ext (.t 15) 0, none⟩,
      ⟨(some 20), .ext (.t 15) 1, none⟩,
      ⟨(some 5), .mv (.t 19), none⟩,
      ⟨(some 6), .mv (.t 20), none⟩] [0, 1, 5, 6]) (
    .seq (
     .ops [
       ⟨(some 22), .mv (.t 0), none⟩,
       ⟨(some 23), .mv (.t 1), none⟩,
       ⟨(some 24), .call 12 [.t 22, .t 23], none⟩,
       ⟨(some 21), .mv (.t 24), none⟩,
       ⟨(some 25), .ext (.t 21) 0, none⟩,
       ⟨(some 26), .ext (.t 21) 1, none⟩,
       ⟨(some 7), .mv (.t 25), none⟩,
       ⟨(some 8), .mv (.t 26), none⟩] [5, 6, 7, 8]) (
     .seq (
      .seq (
       .ops [
         ⟨(some 27), .mv (.t 6), none⟩,
         ⟨(some 28), .mv (.t 8), none⟩,
         ⟨(some 29), .bin .neq (.t 27) (.t 28), none⟩,
         ⟨(some 30), .mv (.t 29), none⟩,
         ⟨(some 31), .mv (.t 5), (some (30, false))⟩,
         ⟨(some 32), .len false (.t 31), (some (30, false))⟩,
         ⟨(some 33), .mv (.t 7), (some (30, false))⟩,
         ⟨(some 34), .len false (.t 33), (some (30, false))⟩,
         ⟨(some 35), .bin .neq (.t 32) (.t 34), (some (30, false))⟩,
         ⟨(some 36), .pick (.t 30) (.k (.d (.lit (.bool true)))) (.t 35), none⟩] [5, 7, 36]) (
       .cond (.t 36) (
        .seq (
         .ops [
           ⟨(some 4), .mv (.k (.d (.lit (.bool false)))), none⟩] [4]) (
         .ret)) (
        .skip))) (
      .seq (
       .seq (
        .ops [
          ⟨(some 9), .mv (.k (.d (.lit (.int .i64 0)))), none⟩] [5, 7, 9]) (
        .block 0 (
         .loop (
          .seq (
           .seq (
            .ops [
              ⟨(some 37), .mv (.t 9), none⟩,
              ⟨(some 38), .mv (.t 5), none⟩,
              ⟨(some 39), .len false (.t 38), none⟩,
              ⟨(some 40), .bin .lss (.t 37) (.t 39), none⟩] [5, 7, 9, 40]) (
            .cond (.t 40) (
             .skip) (
             .exit 0))) (
           .seq (
            .block 1 (
             .seq (
              .draw [
                ⟨(some 43), .mv (.t 5), none⟩,
                ⟨(some 44), .mv (.t 9), none⟩,
                ⟨(some 45), .ia 1 (.t 43) (.t 44), none⟩,
                ⟨(some 46), .load 1 false (.t 45), none⟩,
                ⟨(some 47), .mv (.t 7), none⟩,
                ⟨(some 48), .mv (.t 9), none⟩,
                ⟨(some 49), .ia 1 (.t 47) (.t 48), none⟩,
                ⟨(some 50), .load 1 false (.t 49), none⟩,
                ⟨(some 51), .call 13 [.t 46, .t 50], none⟩,
                ⟨(some 52), .un .not (.t 51), none⟩] [5, 7, 9, 52]) (
              .cond (.t 52) (
               .seq (
                .ops [
                  ⟨(some 4), .mv (.k (.d (.lit (.bool false)))), none⟩] [4]) (
                .ret)) (
               .skip)))) (
            .ops [
              ⟨(some 41), .mv (.t 9), none⟩,
              ⟨(some 42), .bin .add (.t 41) (.k (.d (.lit (.int .i64 1)))), none⟩,
              ⟨(some 9), .mv (.t 42), none⟩] [5, 7, 9])))))) (
       .seq (
        .ops [
          ⟨(some 53), .call 10 [], none⟩,
          ⟨(some 4), .mv (.t 53), none⟩] [4]) (
        .ret)))))))
def rs3 : List RV := [.t 4 false]
theorem k3 : okFn G.tab Try.f3 2 c3 rs3 = true := by kernel_rfl
def c4 : Cd :=
 .seq (
  .ops [
    ⟨(some 4), .mv (.k (.d (.lit (.bool false)))), none⟩] [0, 1]) (
  .seq (
   .seq (
    .ops [
      ⟨(some 14), .mv (.t 0), none⟩,
      ⟨(some 15), .mv (.t 1), none⟩,
      ⟨(some 16), .call 9 [.t 14, .t 15], none⟩,
      ⟨(some 17), .un .not (.t 16), none⟩] [0, 1, 17]) (
    .cond (.t 17) (
     .seq (
      .ops [
        ⟨(some 18), .call 10 [], none⟩,
        ⟨(some 4), .mv (.t 18), none⟩] [4]) (
      .ret)) (
     .skip))) (
   .seq (
    .ops [
      ⟨(some 20), .mv (.t 0), none⟩,
      ⟨(some 21), .mv (.t 1), none⟩,
      ⟨(some 22), .call 11 [.t 20, .t 21], none⟩,
      ⟨(some 19), .mv (.t 22), none⟩,
      ⟨(some 23), .ext (.t 19) 0, none⟩,
      ⟨(some 24), .ext (.t 19) 1, none⟩,
      ⟨(some 5), .mv (.t 23), none⟩,
      ⟨(some 6), .mv (.t 24), none⟩] [0, 1, 5, 6]) (
    .seq (
     .seq (
      .ops [
        ⟨(some 25), .mv (.t 6), none⟩,
        ⟨(some 26), .bin .neq (.t 25) (.k (.d (.lit (.int .i64 0)))), none⟩,
        ⟨(some 27), .mv (.t 26), none⟩,
        ⟨(some 28), .mv (.t 0), (some (27, false))⟩,
        ⟨(some 29), .mv (.t 1), (some (27, false))⟩,
        ⟨(some 30), .call 14 [.t 28, .t 29], (some (27, false))⟩,
        ⟨(some 31), .un .not (.t 30), (some (27, false))⟩,
        ⟨(some 32), .pick (.t 27) (.k (.d (.lit (.bool true)))) (.t 31), none⟩] [0, 1, 5, 6, 32]) (
      .cond (.t 32) (
       .seq (
        .ops [
          ⟨(some 33), .mv (.t 6), none⟩,
          ⟨(some 34), .bin .neq (.t 33) (.k (.d (.lit (.int .i64 0)))), none⟩,
          ⟨(some 35), .mv (.t 34), none⟩,
          ⟨(some 36), .mv (.t 5), (some (35, true))⟩,
          ⟨(some 37), .len false (.t 36), (some (35, true))⟩,
          ⟨(some 38), .bin .eql (.t 37) (.k (.d (.lit (.int .i64 0)))), (some (35, true))⟩,
          ⟨(some 39), .pick (.t 35) (.t 38) (.k (.d (.lit (.bool false)))), none⟩,
          ⟨(some 40), .mv (.t 39), none⟩,
          ⟨(some 41), .call 10 [], (some (40, true))⟩,
          ⟨(some 42), .pick (.t 40) (.t 41) (.k (.d (.lit (.bool false)))), none⟩,
          ⟨(some 4), .mv (.t 42), none⟩] [4]) (
        .ret)) (
       .skip))) (
     .seq (
      .ops [
        ⟨(some 43), .mv (.t 0), none⟩,
        ⟨(some 44), .mkb 3 8 (.d (.lit (.int .i64 0))) (.t 43), none⟩,
        ⟨(some 7), .mv (.t 44), none⟩] [0, 1, 5, 7]) (
      .seq (
       .ops [
         ⟨(some 8), .mv (.k (.d (.lit (.int .i64 0)))), none⟩] [0, 1, 5, 7, 8]) (
       .seq (
        .seq (
         .ops [
           ⟨(some 9), .mv (.k (.d (.lit (.int .i64 0)))), none⟩] [0, 1, 5, 7, 8, 9]) (
         .block 0 (
          .loop (
           .seq (
            .seq (
             .ops [
               ⟨(some 45), .mv (.t 9), none⟩,
               ⟨(some 46), .mv (.t 5), none⟩,
               ⟨(some 47), .len false (.t 46), none⟩,
               ⟨(some 48), .bin .lss (.t 45) (.t 47), none⟩] [0, 1, 5, 7, 8, 9, 48]) (
             .cond (.t 48) (
              .skip) (
              .exit 0))) (
            .seq (
             .block 1 (
              .seq (
               .ops [
                 ⟨(some 10), .mv (.k (.d (.lit (.int .i64 0)))), none⟩] [0, 1, 5, 7, 8, 9, 10]) (
               .block 2 (
                .loop (
                 .seq (
                  .seq (
                   .ops [
                     ⟨(some 51), .mv (.t 10), none⟩,
                     ⟨(some 52), .mv (.t 5), none⟩,
                     ⟨(some 53), .mv (.t 9), none⟩,
                     ⟨(some 54), .ia 1 (.t 52) (.t 53), none⟩,
                     ⟨(some 55), .load 1 false (.t 54), none⟩,
                     ⟨(some 56), .len false (.t 55), none⟩,
                     ⟨(some 57), .bin .lss (.t 51) (.t 56), none⟩] [0, 1, 5, 7, 8, 9, 10, 57]) (
                   .cond (.t 57) (
                    .skip) (
                    .exit 2))) (
                  .seq (
                   .block 3 (
                    .seq (
                     .seq (
                      .ops [
                        ⟨(some 60), .mv (.t 5), none⟩,
                        ⟨(some 61), .mv (.t 9), none⟩,
                        ⟨(some 62), .ia 1 (.t 60) (.t 61), none⟩,
                        ⟨(some 63), .load 1 false (.t 62), none⟩,
                        ⟨(some 64), .mv (.t 10), none⟩,
                        ⟨(some 65), .ia 1 (.t 63) (.t 64), none⟩,
                        ⟨(some 66), .load 1 false (.t 65), none⟩,
                        ⟨(some 67), .bin .lss (.t 66) (.k (.d (.lit (.int .i64 0)))), none⟩,
                        ⟨(some 68), .mv (.t 67), none⟩,
                        ⟨(some 69), .mv (.t 5), (some (68, false))⟩,
                        ⟨(some 70), .mv (.t 9), (some (68, false))⟩,
                        ⟨(some 71), .ia 1 (.t 69) (.t 70), (some (68, false))⟩,
                        ⟨(some 72), .load 1 false (.t 71), (some (68, false))⟩,
                        ⟨(some 73), .mv (.t 10), (some (68, false))⟩,
                        ⟨(some 74), .ia 1 (.t 72) (.t 73), (some (68, false))⟩,
                        ⟨(some 75), .load 1 false (.t 74), (some (68, false))⟩,
                        ⟨(some 76), .mv (.t 0), (some (68, false))⟩,
                        ⟨(some 77), .bin .geq (.t 75) (.t 76), (some (68, false))⟩,
                        ⟨(some 78), .pick (.t 68) (.k (.d (.lit (.bool true)))) (.t 77), none⟩,
                        ⟨(some 79), .mv (.t 78), none⟩,
                        ⟨(some 80), .mv (.t 7), (some (79, false))⟩,
                        ⟨(some 81), .mv (.t 5), (some (79, false))⟩,
                        ⟨(some 82), .mv (.t 9), (some (79, false))⟩,
                        ⟨(some 83), .ia 1 (.t 81) (.t 82), (some (79, false))⟩,
                        ⟨(some 84), .load 1 false (.t 83), (some (79, false))⟩,
                        ⟨(some 85), .mv (.t 10), (some (79, false))⟩,
                        ⟨(some 86), .ia 1 (.t 84) (.t 85), (some (79, false))⟩,
                        ⟨(some 87), .load 1 false (.t 86), (some (79, false))⟩,
                        ⟨(some 88), .ia 1 (.t 80) (.t 87), (some (79, false))⟩,
                        ⟨(some 89), .load 1 false (.t 88), (some (79, false))⟩,
                        ⟨(some 90), .bin .neq (.t 89) (.k (.d (.lit (.int .i64 0)))), (some (79, false))⟩,
                        ⟨(some 91), .pick (.t 79) (.k (.d (.lit (.bool true)))) (.t 90), none⟩] [0, 1, 5, 7, 8, 9, 10, 91]) (
                      .cond (.t 91) (
                       .seq (
                        .ops [
                          ⟨(some 4), .mv (.k (.d (.lit (.bool false)))), none⟩] [4]) (
                        .ret)) (
                       .skip))) (
                     .seq (
                      .ops [
                        ⟨(some 92), .mv (.t 7), none⟩,
                        ⟨(some 93), .mv (.t 5), none⟩,
                        ⟨(some 94), .mv (.t 9), none⟩,
                        ⟨(some 95), .ia 1 (.t 93) (.t 94), none⟩,
                        ⟨(some 96), .load 1 false (.t 95), none⟩,
                        ⟨(some 97), .mv (.t 10), none⟩,
                        ⟨(some 98), .ia 1 (.t 96) (.t 97), none⟩,
                        ⟨(some 99), .load 1 false (.t 98), none⟩,
                        ⟨(some 100), .mv (.t 9), none⟩,
                        ⟨(some 101), .bin .add (.t 100) (.k (.d (.lit (.int .i64 1)))), none⟩,
                        ⟨(some 102), .ia 1 (.t 92) (.t 99), none⟩,
                        ⟨none, .sto 1 (.t 102) (.t 101), none⟩] [0, 1, 5, 7, 8, 9, 10]) (
                      .ops [
                        ⟨(some 103), .mv (.t 8), none⟩,
                        ⟨(some 104), .bin .add (.t 103) (.k (.d (.lit (.int .i64 1)))), none⟩,
                        ⟨(some 8), .mv (.t 104), none⟩] [0, 1, 5, 7, 8, 9, 10])))) (
                   .ops [
                     ⟨(some 58), .mv (.t 10), none⟩,
                     ⟨(some 59), .bin .add (.t 58) (.k (.d (.lit (.int .i64 1)))), none⟩,
                     ⟨(some 10), .mv (.t 59), none⟩] [0, 1, 5, 7, 8, 9, 10]))))))) (
             .ops [
               ⟨(some 49), .mv (.t 9), none⟩,
               ⟨(some 50), .bin .add (.t 49) (.k (.d (.lit (.int .i64 1)))), none⟩,
               ⟨(some 9), .mv (.t 50), none⟩] [0, 1, 5, 7, 8, 9])))))) (
        .seq (
         .seq (
          .ops [
            ⟨(some 105), .mv (.t 8), none⟩,
            ⟨(some 106), .mv (.t 0), none⟩,
            ⟨(some 107), .bin .neq (.t 105) (.t 106), none⟩] [0, 1, 7, 107]) (
          .cond (.t 107) (
           .seq (
            .ops [
              ⟨(some 4), .mv (.k (.d (.lit (.bool false)))), none⟩] [4]) (
            .ret)) (
           .skip))) (
         .seq (
          .seq (
           .ops [
             ⟨(some 11), .mv (.k (.d (.lit (.int .i64 0)))), none⟩] [0, 1, 7, 11]) (
           .block 4 (
            .loop (
             .seq (
              .seq (
               .ops [
                 ⟨(some 108), .mv (.t 11), none⟩,
                 ⟨(some 109), .mv (.t 0), none⟩,
                 ⟨(some 110), .bin .lss (.t 108) (.t 109), none⟩] [0, 1, 7, 11, 110]) (
               .cond (.t 110) (
                .skip) (
                .exit 4))) (
              .seq (
               .block 5 (
                .seq (
                 .ops [
                   ⟨(some 113), .mv (.t 7), none⟩,
                   ⟨(some 114), .mv (.t 11), none⟩,
                   ⟨(some 115), .ia 1 (.t 113) (.t 114), none⟩,
                   ⟨(some 116), .load 1 false (.t 115), none⟩,
                   ⟨(some 117), .bin .eql (.t 116) (.k (.d (.lit (.int .i64 1)))), none⟩,
                   ⟨(some 12), .mv (.t 117), none⟩] [0, 1, 7, 11, 12]) (
                 .seq (
                  .seq (
                   .ops [
                     ⟨(some 13), .mv (.k (.d (.lit (.int .i64 0)))), none⟩] [0, 1, 7, 11, 12, 13]) (
                   .block 6 (
                    .loop (
                     .seq (
                      .seq (
                       .ops [
                         ⟨(some 118), .mv (.t 13), none⟩,
                         ⟨(some 119), .mv (.t 1), none⟩,
                         ⟨(some 120), .len false (.t 119), none⟩,
                         ⟨(some 121), .bin .lss (.t 118) (.t 120), none⟩] [0, 1, 7, 11, 12, 13, 121]) (
                       .cond (.t 121) (
                        .skip) (
                        .exit 6))) (
                      .seq (
                       .block 7 (
                        .seq (
                         .seq (
                          .ops [
                            ⟨(some 124), .mv (.t 1), none⟩,
                            ⟨(some 125), .mv (.t 13), none⟩,
                            ⟨(some 126), .ia 2 (.t 124) (.t 125), none⟩,
                            ⟨(some 127), .aa 1 2 (.t 126) (.k (.d (.lit (.int .i64 1)))), none⟩,
                            ⟨(some 128), .load 1 false (.t 127), none⟩,
                            ⟨(some 129), .mv (.t 11), none⟩,
                            ⟨(some 130), .bin .neq (.t 128) (.t 129), none⟩] [0, 1, 7, 11, 12, 13, 130]) (
                          .cond (.t 130) (
                           .exit 7) (
                           .skip))) (
                         .seq (
                          .seq (
                           .draw [
                             ⟨(some 131), .mv (.t 7), none⟩,
                             ⟨(some 132), .mv (.t 1), none⟩,
                             ⟨(some 133), .mv (.t 13), none⟩,
                             ⟨(some 134), .ia 2 (.t 132) (.t 133), none⟩,
                             ⟨(some 135), .aa 1 2 (.t 134) (.k (.d (.lit (.int .i64 0)))), none⟩,
                             ⟨(some 136), .load 1 false (.t 135), none⟩,
                             ⟨(some 137), .ia 1 (.t 131) (.t 136), none⟩,
                             ⟨(some 138), .load 1 false (.t 137), none⟩,
                             ⟨(some 139), .mv (.t 7), none⟩,
                             ⟨(some 140), .mv (.t 11), none⟩,
                             ⟨(some 141), .ia 1 (.t 139) (.t 140), none⟩,
                             ⟨(some 142), .load 1 false (.t 141), none⟩,
                             ⟨(some 143), .bin .geq (.t 138) (.t 142), none⟩] [0, 1, 7, 11, 12, 13, 143]) (
                           .cond (.t 143) (
                            .seq (
                             .ops [
                               ⟨(some 4), .mv (.k (.d (.lit (.bool false)))), none⟩] [4]) (
                             .ret)) (
                            .skip))) (
                          .draw [
                            ⟨(some 144), .mv (.t 12), none⟩,
                            ⟨(some 145), .mv (.t 144), none⟩,
                            ⟨(some 146), .mv (.t 7), (some (145, false))⟩,
                            ⟨(some 147), .mv (.t 1), (some (145, false))⟩,
                            ⟨(some 148), .mv (.t 13), (some (145, false))⟩,
                            ⟨(some 149), .ia 2 (.t 147) (.t 148), (some (145, false))⟩,
                            ⟨(some 150), .aa 1 2 (.t 149) (.k (.d (.lit (.int .i64 0)))), (some (145, false))⟩,
                            ⟨(some 151), .load 1 false (.t 150), (some (145, false))⟩,
                            ⟨(some 152), .ia 1 (.t 146) (.t 151), (some (145, false))⟩,
                            ⟨(some 153), .load 1 false (.t 152), (some (145, false))⟩,
                            ⟨(some 154), .mv (.t 7), (some (145, false))⟩,
                            ⟨(some 155), .mv (.t 11), (some (145, false))⟩,
                            ⟨(some 156), .ia 1 (.t 154) (.t 155), (some (145, false))⟩,
                            ⟨(some 157), .load 1 false (.t 156), (some (145, false))⟩,
                            ⟨(some 158), .bin .sub (.t 157) (.k (.d (.lit (.int .i64 1)))), (some (145, false))⟩,
                            ⟨(some 159), .bin .eql (.t 153) (.t 158), (some (145, false))⟩,
                            ⟨(some 160), .pick (.t 145) (.k (.d (.lit (.bool true)))) (.t 159), none⟩,
                            ⟨(some 12), .mv (.t 160), none⟩] [0, 1, 7, 11, 12, 13])))) (
                       .ops [
                         ⟨(some 122), .mv (.t 13), none⟩,
                         ⟨(some 123), .bin .add (.t 122) (.k (.d (.lit (.int .i64 1)))), none⟩,
                         ⟨(some 13), .mv (.t 123), none⟩] [0, 1, 7, 11, 12, 13])))))) (
                  .seq (
                   .ops [
                     ⟨(some 161), .mv (.t 12), none⟩,
                     ⟨(some 162), .un .not (.t 161), none⟩] [0, 1, 7, 11, 162]) (
                   .cond (.t 162) (
                    .seq (
                     .ops [
                       ⟨(some 4), .mv (.k (.d (.lit (.bool false)))), none⟩] [4]) (
                     .ret)) (
                    .skip)))))) (
               .ops [
                 ⟨(some 111), .mv (.t 11), none⟩,
                 ⟨(some 112), .bin .add (.t 111) (.k (.d (.lit (.int .i64 1)))), none⟩,
                 ⟨(some 11), .mv (.t 112), none⟩] [0, 1, 7, 11])))))) (
          .seq (
           .ops [
             ⟨(some 163), .call 10 [], none⟩,
             ⟨(some 4), .mv (.t 163), none⟩] [4]) (
           .ret))))))))))
def rs4 : List RV := [.t 4 false]
theorem k4 : okFn G.tab Try.f4 2 c4 rs4 = true := by kernel_rfl
def c5 : Cd :=
 .seq (
  .ops [
    ⟨(some 4), .mv (.k (.d (.lit (.bool false)))), none⟩] [0, 1]) (
  .seq (
   .seq (
    .ops [
      ⟨(some 11), .mv (.t 0), none⟩,
      ⟨(some 12), .mv (.t 1), none⟩,
      ⟨(some 13), .call 9 [.t 11, .t 12], none⟩,
      ⟨(some 14), .un .not (.t 13), none⟩] [0, 1, 14]) (
    .cond (.t 14) (
     .seq (
      .ops [
        ⟨(some 15), .call 10 [], none⟩,
        ⟨(some 4), .mv (.t 15), none⟩] [4]) (
      .ret)) (
     .skip))) (
   .seq (
    .ops [
      ⟨(some 16), .mv (.t 0), none⟩,
      ⟨(some 17), .mv (.t 1), none⟩,
      ⟨(some 18), .call 15 [.t 16, .t 17], none⟩,
      ⟨(some 5), .mv (.t 18), none⟩] [0, 1, 5]) (
    .seq (
     .seq (
      .ops [
        ⟨(some 19), .mv (.t 5), none⟩,
        ⟨(some 20), .mv (.t 0), none⟩,
        ⟨(some 21), .mv (.t 1), none⟩,
        ⟨(some 22), .call 16 [.t 20, .t 21], none⟩,
        ⟨(some 23), .call 13 [.t 19, .t 22], none⟩,
        ⟨(some 24), .un .not (.t 23), none⟩] [0, 1, 5, 24]) (
      .cond (.t 24) (
       .seq (
        .ops [
          ⟨(some 4), .mv (.k (.d (.lit (.bool false)))), none⟩] [4]) (
        .ret)) (
       .skip))) (
     .seq (
      .seq (
       .ops [
         ⟨(some 6), .mv (.k (.d (.lit (.int .i64 0)))), none⟩] [0, 1, 5, 6]) (
       .block 0 (
        .loop (
         .seq (
          .seq (
           .ops [
             ⟨(some 25), .mv (.t 6), none⟩,
             ⟨(some 26), .mv (.t 5), none⟩,
             ⟨(some 27), .len false (.t 26), none⟩,
             ⟨(some 28), .bin .lss (.t 25) (.t 27), none⟩] [0, 1, 5, 6, 28]) (
           .cond (.t 28) (
            .skip) (
            .exit 0))) (
          .seq (
           .block 1 (
            .seq (
             .ops [
               ⟨(some 7), .mv (.k (.d (.lit (.bool false)))), none⟩] [0, 1, 5, 6, 7]) (
             .seq (
              .seq (
               .ops [
                 ⟨(some 8), .mv (.k (.d (.lit (.int .i64 0)))), none⟩] [0, 1, 5, 6, 7, 8]) (
               .block 2 (
                .loop (
                 .seq (
                  .seq (
                   .ops [
                     ⟨(some 31), .mv (.t 8), none⟩,
                     ⟨(some 32), .mv (.t 1), none⟩,
                     ⟨(some 33), .len false (.t 32), none⟩,
                     ⟨(some 34), .bin .lss (.t 31) (.t 33), none⟩] [0, 1, 5, 6, 7, 8, 34]) (
                   .cond (.t 34) (
                    .skip) (
                    .exit 2))) (
                  .seq (
                   .block 3 (
                    .draw [
                      ⟨(some 37), .mv (.t 7), none⟩,
                      ⟨(some 38), .mv (.t 37), none⟩,
                      ⟨(some 39), .mv (.t 1), (some (38, false))⟩,
                      ⟨(some 40), .mv (.t 8), (some (38, false))⟩,
                      ⟨(some 41), .ia 2 (.t 39) (.t 40), (some (38, false))⟩,
                      ⟨(some 42), .load 2 true (.t 41), (some (38, false))⟩,
                      ⟨(some 43), .mv (.t 5), (some (38, false))⟩,
                      ⟨(some 44), .mv (.t 6), (some (38, false))⟩,
                      ⟨(some 45), .ia 1 (.t 43) (.t 44), (some (38, false))⟩,
                      ⟨(some 46), .load 1 false (.t 45), (some (38, false))⟩,
                      ⟨(some 47), .mv (.t 5), (some (38, false))⟩,
                      ⟨(some 48), .mv (.t 6), (some (38, false))⟩,
                      ⟨(some 49), .bin .add (.t 48) (.k (.d (.lit (.int .i64 1)))), (some (38, false))⟩,
                      ⟨(some 50), .mv (.t 5), (some (38, false))⟩,
                      ⟨(some 51), .len false (.t 50), (some (38, false))⟩,
                      ⟨(some 52), .bin .rem (.t 49) (.t 51), (some (38, false))⟩,
                      ⟨(some 53), .ia 1 (.t 47) (.t 52), (some (38, false))⟩,
                      ⟨(some 54), .load 1 false (.t 53), (some (38, false))⟩,
                      ⟨(some 55), .bld [.d (.lit (.int .i64 0)), .d (.lit (.int .i64 0))] [(0, 1, .t 46), (1, 1, .t 54)], (some (38, false))⟩,
                      ⟨(some 56), .eqa false 31 [.i .i64, .i .i64] (.t 42) (.t 55), (some (38, false))⟩,
                      ⟨(some 57), .pick (.t 38) (.k (.d (.lit (.bool true)))) (.t 56), none⟩,
                      ⟨(some 7), .mv (.t 57), none⟩] [0, 1, 5, 6, 7, 8])) (
                   .ops [
                     ⟨(some 35), .mv (.t 8), none⟩,
                     ⟨(some 36), .bin .add (.t 35) (.k (.d (.lit (.int .i64 1)))), none⟩,
                     ⟨(some 8), .mv (.t 36), none⟩] [0, 1, 5, 6, 7, 8])))))) (
              .seq (
               .ops [
                 ⟨(some 58), .mv (.t 7), none⟩,
                 ⟨(some 59), .un .not (.t 58), none⟩] [0, 1, 5, 6, 59]) (
               .cond (.t 59) (
                .seq (
                 .ops [
                   ⟨(some 4), .mv (.k (.d (.lit (.bool false)))), none⟩] [4]) (
                 .ret)) (
                .skip)))))) (
           .ops [
             ⟨(some 29), .mv (.t 6), none⟩,
             ⟨(some 30), .bin .add (.t 29) (.k (.d (.lit (.int .i64 1)))), none⟩,
             ⟨(some 6), .mv (.t 30), none⟩] [0, 1, 5, 6])))))) (
      .seq (
       .ops [
         ⟨(some 61), .mv (.t 0), none⟩,
         ⟨(some 62), .mv (.t 1), none⟩,
         ⟨(some 63), .call 11 [.t 61, .t 62], none⟩,
         ⟨(some 60), .mv (.t 63), none⟩,
         ⟨(some 64), .ext (.t 60) 0, none⟩,
         ⟨(some 65), .ext (.t 60) 1, none⟩,
         ⟨(some 9), .mv (.t 64), none⟩,
         ⟨(some 10), .mv (.t 65), none⟩] [5, 10]) (
       .seq (
        .ops [
          ⟨(some 66), .mv (.t 5), none⟩,
          ⟨(some 67), .len false (.t 66), none⟩,
          ⟨(some 68), .bin .gtr (.t 67) (.k (.d (.lit (.int .i64 0)))), none⟩,
          ⟨(some 69), .mv (.t 10), none⟩,
          ⟨(some 70), .bin .eql (.t 69) (.k (.d (.lit (.int .i64 10)))), none⟩,
          ⟨(some 71), .binb .eql (.t 68) (.t 70), none⟩,
          ⟨(some 72), .mv (.t 71), none⟩,
          ⟨(some 73), .call 10 [], (some (72, true))⟩,
          ⟨(some 74), .pick (.t 72) (.t 73) (.k (.d (.lit (.bool false)))), none⟩,
          ⟨(some 4), .mv (.t 74), none⟩] [4]) (
        .ret)))))))
def rs5 : List RV := [.t 4 false]
theorem k5 : okFn G.tab Try.f5 2 c5 rs5 = true := by kernel_rfl
def c6 : Cd :=
 .seq (
  .ops [
    ⟨(some 4), .mv (.k (.d (.lit (.bool false)))), none⟩] [0, 1]) (
  .seq (
   .seq (
    .ops [
      ⟨(some 5), .mv (.t 0), none⟩,
      ⟨(some 6), .mv (.t 1), none⟩,
      ⟨(some 7), .call 9 [.t 5, .t 6], none⟩,
      ⟨(some 8), .un .not (.t 7), none⟩] [0, 1, 8]) (
    .cond (.t 8) (
     .seq (
      .ops [
        ⟨(some 9), .call 10 [], none⟩,
        ⟨(some 4), .mv (.t 9), none⟩] [4]) (
      .ret)) (
     .skip))) (
   .seq (
    .ops [
      ⟨(some 10), .mv (.t 0), none⟩,
      ⟨(some 11), .mv (.t 1), none⟩,
      ⟨(some 12), .call 17 [.t 10, .t 11], none⟩,
      ⟨(some 13), .mv (.t 0), none⟩,
      ⟨(some 14), .mv (.t 1), none⟩,
      ⟨(some 15), .call 14 [.t 13, .t 14], none⟩,
      ⟨(some 16), .binb .eql (.t 12) (.t 15), none⟩,
      ⟨(some 17), .mv (.t 16), none⟩,
      ⟨(some 18), .mv (.t 0), (some (17, true))⟩,
      ⟨(some 19), .mv (.t 1), (some (17, true))⟩,
      ⟨(some 20), .call 19 [.t 18, .t 19], (some (17, true))⟩,
      ⟨(some 21), .mv (.t 0), (some (17, true))⟩,
      ⟨(some 22), .mv (.t 1), (some (17, true))⟩,
      ⟨(some 23), .call 20 [.t 21, .t 22], (some (17, true))⟩,
      ⟨(some 24), .call 18 [.t 20, .t 23], (some (17, true))⟩,
      ⟨(some 25), .pick (.t 17) (.t 24) (.k (.d (.lit (.bool false)))), none⟩,
      ⟨(some 26), .mv (.t 25), none⟩,
      ⟨(some 27), .call 10 [], (some (26, true))⟩,
      ⟨(some 28), .pick (.t 26) (.t 27) (.k (.d (.lit (.bool false)))), none⟩,
      ⟨(some 4), .mv (.t 28), none⟩] [4]) (
    .ret)))
def rs6 : List RV := [.t 4 false]
theorem k6 : okFn G.tab Try.f6 2 c6 rs6 = true := by kernel_rfl
def c7 : Cd :=
 .seq (
  .ops [
    ⟨(some 4), .mv (.k (.d (.lit (.bool false)))), none⟩] [0, 1]) (
  .seq (
   .seq (
    .ops [
      ⟨(some 15), .mv (.t 0), none⟩,
      ⟨(some 16), .mv (.t 1), none⟩,
      ⟨(some 17), .call 9 [.t 15, .t 16], none⟩,
      ⟨(some 18), .un .not (.t 17), none⟩] [0, 1, 18]) (
    .cond (.t 18) (
     .seq (
      .ops [
        ⟨(some 19), .call 10 [], none⟩,
        ⟨(some 4), .mv (.t 19), none⟩] [4]) (
      .ret)) (
     .skip))) (
   .seq (
    .ops [
      ⟨(some 21), .mv (.t 0), none⟩,
      ⟨(some 22), .mv (.t 1), none⟩,
      ⟨(some 23), .call 21 [.t 21, .t 22], none⟩,
      ⟨(some 20), .mv (.t 23), none⟩,
      ⟨(some 24), .ext (.t 20) 0, none⟩,
      ⟨(some 25), .ext (.t 20) 1, none⟩,
      ⟨(some 5), .mv (.t 24), none⟩,
      ⟨(some 6), .mv (.t 25), none⟩] [0, 1, 5, 6]) (
    .seq (
     .ops [
       ⟨(some 27), .mv (.t 0), none⟩,
       ⟨(some 28), .mv (.t 1), none⟩,
       ⟨(some 29), .call 22 [.t 27, .t 28], none⟩,
       ⟨(some 26), .mv (.t 29), none⟩,
       ⟨(some 30), .ext (.t 26) 0, none⟩,
       ⟨(some 31), .ext (.t 26) 1, none⟩,
       ⟨(some 7), .mv (.t 30), none⟩,
       ⟨(some 8), .mv (.t 31), none⟩] [0, 1, 5, 6, 7, 8]) (
     .seq (
      .seq (
       .ops [
         ⟨(some 32), .mv (.t 6), none⟩,
         ⟨(some 33), .mv (.t 8), none⟩,
         ⟨(some 34), .bin .neq (.t 32) (.t 33), none⟩,
         ⟨(some 35), .mv (.t 34), none⟩,
         ⟨(some 36), .mv (.t 5), (some (35, false))⟩,
         ⟨(some 37), .len false (.t 36), (some (35, false))⟩,
         ⟨(some 38), .mv (.t 7), (some (35, false))⟩,
         ⟨(some 39), .len false (.t 38), (some (35, false))⟩,
         ⟨(some 40), .bin .neq (.t 37) (.t 39), (some (35, false))⟩,
         ⟨(some 41), .pick (.t 35) (.k (.d (.lit (.bool true)))) (.t 40), none⟩] [0, 1, 5, 6, 7, 41]) (
       .cond (.t 41) (
        .seq (
         .ops [
           ⟨(some 4), .mv (.k (.d (.lit (.bool false)))), none⟩] [4]) (
         .ret)) (
        .skip))) (
      .seq (
       .seq (
        .ops [
          ⟨(some 9), .mv (.k (.d (.lit (.int .i64 0)))), none⟩] [0, 1, 5, 6, 7, 9]) (
        .block 0 (
         .loop (
          .seq (
           .seq (
            .ops [
              ⟨(some 42), .mv (.t 9), none⟩,
              ⟨(some 43), .mv (.t 5), none⟩,
              ⟨(some 44), .len false (.t 43), none⟩,
              ⟨(some 45), .bin .lss (.t 42) (.t 44), none⟩] [0, 1, 5, 6, 7, 9, 45]) (
            .cond (.t 45) (
             .skip) (
             .exit 0))) (
           .seq (
            .block 1 (
             .seq (
              .draw [
                ⟨(some 48), .mv (.t 5), none⟩,
                ⟨(some 49), .mv (.t 9), none⟩,
                ⟨(some 50), .ia 2 (.t 48) (.t 49), none⟩,
                ⟨(some 51), .load 2 true (.t 50), none⟩,
                ⟨(some 52), .mv (.t 7), none⟩,
                ⟨(some 53), .mv (.t 9), none⟩,
                ⟨(some 54), .ia 2 (.t 52) (.t 53), none⟩,
                ⟨(some 55), .load 2 true (.t 54), none⟩,
                ⟨(some 56), .eqa true 31 [.i .i64, .i .i64] (.t 51) (.t 55), none⟩] [0, 1, 5, 6, 7, 9, 56]) (
              .cond (.t 56) (
               .seq (
                .ops [
                  ⟨(some 4), .mv (.k (.d (.lit (.bool false)))), none⟩] [4]) (
                .ret)) (
               .skip)))) (
            .ops [
              ⟨(some 46), .mv (.t 9), none⟩,
              ⟨(some 47), .bin .add (.t 46) (.k (.d (.lit (.int .i64 1)))), none⟩,
              ⟨(some 9), .mv (.t 47), none⟩] [0, 1, 5, 6, 7, 9])))))) (
       .seq (
        .seq (
         .ops [
           ⟨(some 57), .mv (.t 6), none⟩,
           ⟨(some 58), .bin .neq (.t 57) (.k (.d (.lit (.int .i64 0)))), none⟩] [0, 1, 5, 58]) (
         .cond (.t 58) (
          .seq (
           .ops [
             ⟨(some 59), .call 10 [], none⟩,
             ⟨(some 4), .mv (.t 59), none⟩] [4]) (
           .ret)) (
          .skip))) (
        .seq (
         .ops [
           ⟨(some 61), .mv (.t 0), none⟩,
           ⟨(some 62), .mv (.t 1), none⟩,
           ⟨(some 63), .call 11 [.t 61, .t 62], none⟩,
           ⟨(some 60), .mv (.t 63), none⟩,
           ⟨(some 64), .ext (.t 60) 0, none⟩,
           ⟨(some 65), .ext (.t 60) 1, none⟩,
           ⟨(some 10), .mv (.t 64), none⟩,
           ⟨(some 11), .mv (.t 65), none⟩] [0, 1, 5, 10, 11]) (
         .seq (
          .ops [
            ⟨(some 67), .mv (.t 0), none⟩,
            ⟨(some 68), .mv (.t 5), none⟩,
            ⟨(some 69), .call 11 [.t 67, .t 68], none⟩,
            ⟨(some 66), .mv (.t 69), none⟩,
            ⟨(some 70), .ext (.t 66) 0, none⟩,
            ⟨(some 71), .ext (.t 66) 1, none⟩,
            ⟨(some 12), .mv (.t 70), none⟩,
            ⟨(some 13), .mv (.t 71), none⟩] [0, 1, 5, 10, 11, 12, 13]) (
          .seq (
           .seq (
            .ops [
              ⟨(some 72), .mv (.t 11), none⟩,
              ⟨(some 73), .bin .neq (.t 72) (.k (.d (.lit (.int .i64 0)))), none⟩,
              ⟨(some 74), .mv (.t 73), none⟩,
              ⟨(some 75), .mv (.t 13), (some (74, false))⟩,
              ⟨(some 76), .bin .neq (.t 75) (.k (.d (.lit (.int .i64 0)))), (some (74, false))⟩,
              ⟨(some 77), .pick (.t 74) (.k (.d (.lit (.bool true)))) (.t 76), none⟩,
              ⟨(some 78), .mv (.t 77), none⟩,
              ⟨(some 79), .mv (.t 10), (some (78, false))⟩,
              ⟨(some 80), .len false (.t 79), (some (78, false))⟩,
              ⟨(some 81), .mv (.t 12), (some (78, false))⟩,
              ⟨(some 82), .len false (.t 81), (some (78, false))⟩,
              ⟨(some 83), .bin .neq (.t 80) (.t 82), (some (78, false))⟩,
              ⟨(some 84), .pick (.t 78) (.k (.d (.lit (.bool true)))) (.t 83), none⟩] [0, 1, 5, 10, 12, 84]) (
            .cond (.t 84) (
             .seq (
              .ops [
                ⟨(some 4), .mv (.k (.d (.lit (.bool false)))), none⟩] [4]) (
              .ret)) (
             .skip))) (
           .seq (
            .seq (
             .ops [
               ⟨(some 14), .mv (.k (.d (.lit (.int .i64 0)))), none⟩] [0, 1, 5, 10, 12, 14]) (
             .block 2 (
              .loop (
               .seq (
                .seq (
                 .ops [
                   ⟨(some 85), .mv (.t 14), none⟩,
                   ⟨(some 86), .mv (.t 10), none⟩,
                   ⟨(some 87), .len false (.t 86), none⟩,
                   ⟨(some 88), .bin .lss (.t 85) (.t 87), none⟩] [0, 1, 5, 10, 12, 14, 88]) (
                 .cond (.t 88) (
                  .skip) (
                  .exit 2))) (
                .seq (
                 .block 3 (
                  .seq (
                   .draw [
                     ⟨(some 91), .mv (.t 10), none⟩,
                     ⟨(some 92), .mv (.t 14), none⟩,
                     ⟨(some 93), .ia 1 (.t 91) (.t 92), none⟩,
                     ⟨(some 94), .load 1 false (.t 93), none⟩,
                     ⟨(some 95), .mv (.t 12), none⟩,
                     ⟨(some 96), .mv (.t 14), none⟩,
                     ⟨(some 97), .ia 1 (.t 95) (.t 96), none⟩,
                     ⟨(some 98), .load 1 false (.t 97), none⟩,
                     ⟨(some 99), .call 13 [.t 94, .t 98], none⟩,
                     ⟨(some 100), .un .not (.t 99), none⟩] [0, 1, 5, 10, 12, 14, 100]) (
                   .cond (.t 100) (
                    .seq (
                     .ops [
                       ⟨(some 4), .mv (.k (.d (.lit (.bool false)))), none⟩] [4]) (
                     .ret)) (
                    .skip)))) (
                 .ops [
                   ⟨(some 89), .mv (.t 14), none⟩,
                   ⟨(some 90), .bin .add (.t 89) (.k (.d (.lit (.int .i64 1)))), none⟩,
                   ⟨(some 14), .mv (.t 90), none⟩] [0, 1, 5, 10, 12, 14])))))) (
            .seq (
             .ops [
               ⟨(some 101), .mv (.t 0), none⟩,
               ⟨(some 102), .mv (.t 5), none⟩,
               ⟨(some 103), .call 19 [.t 101, .t 102], none⟩,
               ⟨(some 104), .mv (.t 0), none⟩,
               ⟨(some 105), .mv (.t 1), none⟩,
               ⟨(some 106), .call 19 [.t 104, .t 105], none⟩,
               ⟨(some 107), .call 18 [.t 103, .t 106], none⟩,
               ⟨(some 108), .mv (.t 107), none⟩,
               ⟨(some 109), .call 10 [], (some (108, true))⟩,
               ⟨(some 110), .pick (.t 108) (.t 109) (.k (.d (.lit (.bool false)))), none⟩,
               ⟨(some 4), .mv (.t 110), none⟩] [4]) (
             .ret))))))))))))
def rs7 : List RV := [.t 4 false]
theorem k7 : okFn G.tab Try.f7 2 c7 rs7 = true := by kernel_rfl
def c8 : Cd :=
 .seq (
  .ops [
    ⟨(some 6), .mv (.k (.d (.lit (.bool false)))), none⟩] [0, 1, 2]) (
  .seq (
   .seq (
    .ops [
      ⟨(some 10), .mv (.t 0), none⟩,
      ⟨(some 11), .mv (.t 1), none⟩,
      ⟨(some 12), .call 9 [.t 10, .t 11], none⟩,
      ⟨(some 13), .un .not (.t 12), none⟩] [0, 1, 2, 13]) (
    .cond (.t 13) (
     .seq (
      .ops [
        ⟨(some 14), .call 10 [], none⟩,
        ⟨(some 6), .mv (.t 14), none⟩] [6]) (
      .ret)) (
     .skip))) (
   .seq (
    .ops [
      ⟨(some 16), .mv (.t 0), none⟩,
      ⟨(some 17), .mv (.t 1), none⟩,
      ⟨(some 18), .call 21 [.t 16, .t 17], none⟩,
      ⟨(some 15), .mv (.t 18), none⟩,
      ⟨(some 19), .ext (.t 15) 0, none⟩,
      ⟨(some 20), .ext (.t 15) 1, none⟩,
      ⟨(some 7), .mv (.t 19), none⟩,
      ⟨(some 8), .mv (.t 20), none⟩] [0, 1, 2, 7, 8]) (
    .seq (
     .seq (
      .ops [
        ⟨(some 21), .mv (.t 8), none⟩,
        ⟨(some 22), .bin .neq (.t 21) (.k (.d (.lit (.int .i64 0)))), none⟩,
        ⟨(some 23), .mv (.t 22), none⟩,
        ⟨(some 24), .mv (.t 2), (some (23, false))⟩,
        ⟨(some 25), .bin .lss (.t 24) (.k (.d (.lit (.int .i64 0)))), (some (23, false))⟩,
        ⟨(some 26), .pick (.t 23) (.k (.d (.lit (.bool true)))) (.t 25), none⟩,
        ⟨(some 27), .mv (.t 26), none⟩,
        ⟨(some 28), .mv (.t 2), (some (27, false))⟩,
        ⟨(some 29), .mv (.t 7), (some (27, false))⟩,
        ⟨(some 30), .len false (.t 29), (some (27, false))⟩,
        ⟨(some 31), .bin .geq (.t 28) (.t 30), (some (27, false))⟩,
        ⟨(some 32), .pick (.t 27) (.k (.d (.lit (.bool true)))) (.t 31), none⟩] [0, 1, 2, 7, 32]) (
      .cond (.t 32) (
       .seq (
        .ops [
          ⟨(some 33), .call 10 [], none⟩,
          ⟨(some 6), .mv (.t 33), none⟩] [6]) (
        .ret)) (
       .skip))) (
     .seq (
      .ops [
        ⟨(some 9), .nilo 31 2, none⟩] [0, 1, 2, 7, 9]) (
      .seq (
       .ops [
         ⟨(some 34), .mvo 9, none⟩,
         ⟨(some 35), .mv (.t 7), none⟩,
         ⟨(some 36), .mv (.t 2), none⟩,
         ⟨(some 37), .sub false 2 (.t 35) none (some (.t 36)), none⟩,
         ⟨(some 38), .app 31 2 16 34 (.t 37), none⟩,
         ⟨(some 9), .mvo 38, none⟩] [0, 1, 2, 7, 9]) (
       .seq (
        .ops [
          ⟨(some 39), .mvo 9, none⟩,
          ⟨(some 40), .mv (.t 7), none⟩,
          ⟨(some 41), .mv (.t 2), none⟩,
          ⟨(some 42), .bin .add (.t 41) (.k (.d (.lit (.int .i64 1)))), none⟩,
          ⟨(some 43), .sub false 2 (.t 40) (some (.t 42)) none, none⟩,
          ⟨(some 44), .app 31 2 16 39 (.t 43), none⟩,
          ⟨(some 9), .mvo 44, none⟩] [0, 1, 9]) (
        .seq (
         .ops [
           ⟨(some 45), .mv (.t 0), none⟩,
           ⟨(some 46), .mv (.t 9), none⟩,
           ⟨(some 47), .call 19 [.t 45, .t 46], none⟩,
           ⟨(some 48), .mv (.t 0), none⟩,
           ⟨(some 49), .mv (.t 1), none⟩,
           ⟨(some 50), .call 19 [.t 48, .t 49], none⟩,
           ⟨(some 51), .call 18 [.t 47, .t 50], none⟩,
           ⟨(some 52), .un .not (.t 51), none⟩,
           ⟨(some 53), .mv (.t 52), none⟩,
           ⟨(some 54), .call 10 [], (some (53, true))⟩,
           ⟨(some 55), .pick (.t 53) (.t 54) (.k (.d (.lit (.bool false)))), none⟩,
           ⟨(some 6), .mv (.t 55), none⟩] [6]) (
         .ret))))))))
def rs8 : List RV := [.t 6 false]
theorem k8 : okFn G.tab Try.f8 3 c8 rs8 = true := by kernel_rfl
def c9 : Cd :=
 .seq (
  .ops [
    ⟨(some 4), .mv (.k (.d (.lit (.bool false)))), none⟩] [0, 1]) (
  .seq (
   .ops [
     ⟨(some 5), .mv (.t 0), none⟩,
     ⟨(some 6), .bin .leq (.t 5) (.k (.d (.lit (.int .i64 14)))), none⟩,
     ⟨(some 7), .mv (.t 6), none⟩,
     ⟨(some 8), .mv (.t 0), (some (7, false))⟩,
     ⟨(some 9), .bin .gtr (.t 8) (.k (.d (.lit (.int .i64 64)))), (some (7, false))⟩,
     ⟨(some 10), .pick (.t 7) (.k (.d (.lit (.bool true)))) (.t 9), none⟩,
     ⟨(some 11), .mv (.t 10), none⟩,
     ⟨(some 12), .mv (.t 1), (some (11, true))⟩,
     ⟨(some 13), .len false (.t 12), (some (11, true))⟩,
     ⟨(some 14), .bin .leq (.t 13) (.k (.d (.lit (.int .i64 60)))), (some (11, true))⟩,
     ⟨(some 15), .pick (.t 11) (.t 14) (.k (.d (.lit (.bool false)))), none⟩,
     ⟨(some 4), .mv (.t 15), none⟩] [4]) (
   .ret))
def rs9 : List RV := [.t 4 false]
theorem k9 : okFn G.tab Try.f9 2 c9 rs9 = true := by kernel_rfl
def c10 : Cd :=
 .seq (
  .ops [
    ⟨(some 0), .mv (.k (.d (.lit (.bool false)))), none⟩] []) (
  .seq (
   .ops [
     ⟨(some 7), .bld [.d (.lit (.int .i64 0)), .d (.lit (.int .i64 0))] [(0, 1, .k (.d (.lit (.int .i64 0)))), (1, 1, .k (.d (.lit (.int .i64 2))))], none⟩,
     ⟨(some 8), .bld [.d (.lit (.int .i64 0)), .d (.lit (.int .i64 0))] [(0, 1, .k (.d (.lit (.int .i64 2)))), (1, 1, .k (.d (.lit (.int .i64 3))))], none⟩,
     ⟨(some 9), .bld [.d (.lit (.int .i64 0)), .d (.lit (.int .i64 0))] [(0, 1, .k (.d (.lit (.int .i64 0)))), (1, 1, .k (.d (.lit (.int .i64 3))))], none⟩,
     ⟨(some 10), .mks 31 2 [.t 7, .t 8, .t 9], none⟩,
     ⟨(some 11), .call 11 [.k (.d (.lit (.int .i64 4))), .t 10], none⟩,
     ⟨(some 6), .mv (.t 11), none⟩,
     ⟨(some 12), .ext (.t 6) 0, none⟩,
     ⟨(some 13), .ext (.t 6) 1, none⟩,
     ⟨(some 1), .mv (.t 12), none⟩,
     ⟨(some 2), .mv (.t 13), none⟩] [1, 2]) (
   .seq (
    .ops [
      ⟨(some 15), .bld [.d (.lit (.int .i64 0)), .d (.lit (.int .i64 0))] [(0, 1, .k (.d (.lit (.int .i64 0)))), (1, 1, .k (.d (.lit (.int .i64 2))))], none⟩,
      ⟨(some 16), .bld [.d (.lit (.int .i64 0)), .d (.lit (.int .i64 0))] [(0, 1, .k (.d (.lit (.int .i64 2)))), (1, 1, .k (.d (.lit (.int .i64 3))))], none⟩,
      ⟨(some 17), .bld [.d (.lit (.int .i64 0)), .d (.lit (.int .i64 0))] [(0, 1, .k (.d (.lit (.int .i64 0)))), (1, 1, .k (.d (.lit (.int .i64 3))))], none⟩,
      ⟨(some 18), .mks 31 2 [.t 15, .t 16, .t 17], none⟩,
      ⟨(some 19), .call 21 [.k (.d (.lit (.int .i64 4))), .t 18], none⟩,
      ⟨(some 14), .mv (.t 19), none⟩,
      ⟨(some 20), .ext (.t 14) 0, none⟩,
      ⟨(some 21), .ext (.t 14) 1, none⟩,
      ⟨(some 3), .mv (.t 20), none⟩,
      ⟨(some 4), .mv (.t 21), none⟩] [1, 2, 3, 4]) (
    .seq (
     .ops [
       ⟨(some 22), .bld [.d (.lit (.int .i64 0)), .d (.lit (.int .i64 0))] [(0, 1, .k (.d (.lit (.int .i64 1)))), (1, 1, .k (.d (.lit (.int .i64 2))))], none⟩,
       ⟨(some 23), .bld [.d (.lit (.int .i64 0)), .d (.lit (.int .i64 0))] [(0, 1, .k (.d (.lit (.int .i64 2)))), (1, 1, .k (.d (.lit (.int .i64 1))))], none⟩,
       ⟨(some 24), .bld [.d (.lit (.int .i64 0)), .d (.lit (.int .i64 0))] [(0, 1, .k (.d (.lit (.int .i64 2)))), (1, 1, .k (.d (.lit (.int .i64 3))))], none⟩,
       ⟨(some 25), .bld [.d (.lit (.int .i64 0)), .d (.lit (.int .i64 0))] [(0, 1, .k (.d (.lit (.int .i64 3)))), (1, 1, .k (.d (.lit (.int .i64 1))))], none⟩,
       ⟨(some 26), .mks 31 2 [.t 22, .t 23, .t 24, .t 25], none⟩,
       ⟨(some 27), .call 15 [.k (.d (.lit (.int .i64 4))), .t 26], none⟩,
       ⟨(some 5), .mv (.t 27), none⟩] [1, 2, 3, 4, 5]) (
     .seq (
      .ops [
        ⟨(some 28), .mv (.t 2), none⟩,
        ⟨(some 29), .bin .eql (.t 28) (.k (.d (.lit (.int .i64 0)))), none⟩,
        ⟨(some 30), .mv (.t 29), none⟩,
        ⟨(some 31), .mv (.t 1), (some (30, true))⟩,
        ⟨(some 32), .len false (.t 31), (some (30, true))⟩,
        ⟨(some 33), .bin .eql (.t 32) (.k (.d (.lit (.int .i64 3)))), (some (30, true))⟩,
        ⟨(some 34), .pick (.t 30) (.t 33) (.k (.d (.lit (.bool false)))), none⟩,
        ⟨(some 35), .mv (.t 34), none⟩,
        ⟨(some 36), .mv (.t 1), (some (35, true))⟩,
        ⟨(some 37), .ia 1 (.t 36) (.k (.d (.lit (.int .i64 0)))), (some (35, true))⟩,
        ⟨(some 38), .load 1 false (.t 37), (some (35, true))⟩,
        ⟨(some 39), .mks 3 1 [.k (.d (.lit (.int .i64 0))), .k (.d (.lit (.int .i64 1)))], (some (35, true))⟩,
        ⟨(some 40), .call 13 [.t 38, .t 39], (some (35, true))⟩,
        ⟨(some 41), .pick (.t 35) (.t 40) (.k (.d (.lit (.bool false)))), none⟩,
        ⟨(some 42), .mv (.t 41), none⟩,
        ⟨(some 43), .mv (.t 4), (some (42, true))⟩,
        ⟨(some 44), .bin .eql (.t 43) (.k (.d (.lit (.int .i64 0)))), (some (42, true))⟩,
        ⟨(some 45), .pick (.t 42) (.t 44) (.k (.d (.lit (.bool false)))), none⟩,
        ⟨(some 46), .mv (.t 45), none⟩,
        ⟨(some 47), .mv (.t 3), (some (46, true))⟩,
        ⟨(some 48), .len false (.t 47), (some (46, true))⟩,
        ⟨(some 49), .bin .eql (.t 48) (.k (.d (.lit (.int .i64 2)))), (some (46, true))⟩,
        ⟨(some 50), .pick (.t 46) (.t 49) (.k (.d (.lit (.bool false)))), none⟩,
        ⟨(some 51), .mv (.t 50), none⟩,
        ⟨(some 52), .mv (.t 5), (some (51, true))⟩,
        ⟨(some 53), .mks 3 1 [.k (.d (.lit (.int .i64 1))), .k (.d (.lit (.int .i64 2)))], (some (51, true))⟩,
        ⟨(some 54), .call 13 [.t 52, .t 53], (some (51, true))⟩,
        ⟨(some 55), .pick (.t 51) (.t 54) (.k (.d (.lit (.bool false)))), none⟩,
        ⟨(some 0), .mv (.t 55), none⟩] [0]) (
      .ret)))))
def rs10 : List RV := [.t 0 false]
theorem k10 : okFn G.tab Try.f10 0 c10 rs10 = true := by kernel_rfl
def c13 : Cd :=
 .seq (
  .ops [
    ⟨(some 4), .mv (.k (.d (.lit (.bool false)))), none⟩] [0, 1]) (
  .seq (
   .seq (
    .ops [
      ⟨(some 6), .mv (.t 0), none⟩,
      ⟨(some 7), .len false (.t 6), none⟩,
      ⟨(some 8), .mv (.t 1), none⟩,
      ⟨(some 9), .len false (.t 8), none⟩,
      ⟨(some 10), .bin .neq (.t 7) (.t 9), none⟩] [0, 1, 10]) (
    .cond (.t 10) (
     .seq (
      .ops [
        ⟨(some 4), .mv (.k (.d (.lit (.bool false)))), none⟩] [4]) (
      .ret)) (
     .skip))) (
   .seq (
    .seq (
     .ops [
       ⟨(some 5), .mv (.k (.d (.lit (.int .i64 0)))), none⟩] [0, 1, 5]) (
     .block 0 (
      .loop (
       .seq (
        .seq (
         .ops [
           ⟨(some 11), .mv (.t 5), none⟩,
           ⟨(some 12), .mv (.t 0), none⟩,
           ⟨(some 13), .len false (.t 12), none⟩,
           ⟨(some 14), .bin .lss (.t 11) (.t 13), none⟩] [0, 1, 5, 14]) (
         .cond (.t 14) (
          .skip) (
          .exit 0))) (
        .seq (
         .block 1 (
          .seq (
           .draw [
             ⟨(some 17), .mv (.t 0), none⟩,
             ⟨(some 18), .mv (.t 5), none⟩,
             ⟨(some 19), .ia 1 (.t 17) (.t 18), none⟩,
             ⟨(some 20), .load 1 false (.t 19), none⟩,
             ⟨(some 21), .mv (.t 1), none⟩,
             ⟨(some 22), .mv (.t 5), none⟩,
             ⟨(some 23), .ia 1 (.t 21) (.t 22), none⟩,
             ⟨(some 24), .load 1 false (.t 23), none⟩,
             ⟨(some 25), .bin .neq (.t 20) (.t 24), none⟩] [0, 1, 5, 25]) (
           .cond (.t 25) (
            .seq (
             .ops [
               ⟨(some 4), .mv (.k (.d (.lit (.bool false)))), none⟩] [4]) (
             .ret)) (
            .skip)))) (
         .ops [
           ⟨(some 15), .mv (.t 5), none⟩,
           ⟨(some 16), .bin .add (.t 15) (.k (.d (.lit (.int .i64 1)))), none⟩,
           ⟨(some 5), .mv (.t 16), none⟩] [0, 1, 5])))))) (
    .seq (
     .ops [
       ⟨(some 4), .mv (.k (.d (.lit (.bool true)))), none⟩] [4]) (
     .ret))))
def rs13 : List RV := [.t 4 false]
theorem k13 : okFn G.tab Try.f13 2 c13 rs13 = true := by kernel_rfl
def c18 : Cd :=
 .seq (
  .ops [
    ⟨(some 4), .mv (.k (.d (.lit (.bool false)))), none⟩] [0, 1]) (
  .seq (
   .seq (
    .ops [
      ⟨(some 7), .mv (.t 0), none⟩,
      ⟨(some 8), .len false (.t 7), none⟩,
      ⟨(some 9), .mv (.t 1), none⟩,
      ⟨(some 10), .len false (.t 9), none⟩,
      ⟨(some 11), .bin .neq (.t 8) (.t 10), none⟩] [0, 1, 11]) (
    .cond (.t 11) (
     .seq (
      .ops [
        ⟨(some 4), .mv (.k (.d (.lit (.bool false)))), none⟩] [4]) (
      .ret)) (
     .skip))) (
   .seq (
    .seq (
     .ops [
       ⟨(some 5), .mv (.k (.d (.lit (.int .i64 0)))), none⟩] [0, 1, 5]) (
     .block 0 (
      .loop (
       .seq (
        .seq (
         .ops [
           ⟨(some 12), .mv (.t 5), none⟩,
           ⟨(some 13), .mv (.t 0), none⟩,
           ⟨(some 14), .len false (.t 13), none⟩,
           ⟨(some 15), .bin .lss (.t 12) (.t 14), none⟩] [0, 1, 5, 15]) (
         .cond (.t 15) (
          .skip) (
          .exit 0))) (
        .seq (
         .block 1 (
          .seq (
           .seq (
            .draw [
              ⟨(some 18), .mv (.t 0), none⟩,
              ⟨(some 19), .mv (.t 5), none⟩,
              ⟨(some 20), .ia 1 (.t 18) (.t 19), none⟩,
              ⟨(some 21), .load 1 false (.t 20), none⟩,
              ⟨(some 22), .len false (.t 21), none⟩,
              ⟨(some 23), .mv (.t 1), none⟩,
              ⟨(some 24), .mv (.t 5), none⟩,
              ⟨(some 25), .ia 1 (.t 23) (.t 24), none⟩,
              ⟨(some 26), .load 1 false (.t 25), none⟩,
              ⟨(some 27), .len false (.t 26), none⟩,
              ⟨(some 28), .bin .neq (.t 22) (.t 27), none⟩] [0, 1, 5, 28]) (
            .cond (.t 28) (
             .seq (
              .ops [
                ⟨(some 4), .mv (.k (.d (.lit (.bool false)))), none⟩] [4]) (
              .ret)) (
             .skip))) (
           .seq (
            .ops [
              ⟨(some 6), .mv (.k (.d (.lit (.int .i64 0)))), none⟩] [0, 1, 5, 6]) (
            .block 2 (
             .loop (
              .seq (
               .seq (
                .ops [
                  ⟨(some 29), .mv (.t 6), none⟩,
                  ⟨(some 30), .mv (.t 0), none⟩,
                  ⟨(some 31), .mv (.t 5), none⟩,
                  ⟨(some 32), .ia 1 (.t 30) (.t 31), none⟩,
                  ⟨(some 33), .load 1 false (.t 32), none⟩,
                  ⟨(some 34), .len false (.t 33), none⟩,
                  ⟨(some 35), .bin .lss (.t 29) (.t 34), none⟩] [0, 1, 5, 6, 35]) (
                .cond (.t 35) (
                 .skip) (
                 .exit 2))) (
               .seq (
                .block 3 (
                 .seq (
                  .draw [
                    ⟨(some 38), .mv (.t 0), none⟩,
                    ⟨(some 39), .mv (.t 5), none⟩,
                    ⟨(some 40), .ia 1 (.t 38) (.t 39), none⟩,
                    ⟨(some 41), .load 1 false (.t 40), none⟩,
                    ⟨(some 42), .mv (.t 6), none⟩,
                    ⟨(some 43), .ia 1 (.t 41) (.t 42), none⟩,
                    ⟨(some 44), .load 1 false (.t 43), none⟩,
                    ⟨(some 45), .mv (.t 1), none⟩,
                    ⟨(some 46), .mv (.t 5), none⟩,
                    ⟨(some 47), .ia 1 (.t 45) (.t 46), none⟩,
                    ⟨(some 48), .load 1 false (.t 47), none⟩,
                    ⟨(some 49), .mv (.t 6), none⟩,
                    ⟨(some 50), .ia 1 (.t 48) (.t 49), none⟩,
                    ⟨(some 51), .load 1 false (.t 50), none⟩,
                    ⟨(some 52), .binb .neq (.t 44) (.t 51), none⟩] [0, 1, 5, 6, 52]) (
                  .cond (.t 52) (
                   .seq (
                    .ops [
                      ⟨(some 4), .mv (.k (.d (.lit (.bool false)))), none⟩] [4]) (
                    .ret)) (
                   .skip)))) (
                .ops [
                  ⟨(some 36), .mv (.t 6), none⟩,
                  ⟨(some 37), .bin .add (.t 36) (.k (.d (.lit (.int .i64 1)))), none⟩,
                  ⟨(some 6), .mv (.t 37), none⟩] [0, 1, 5, 6])))))))) (
         .ops [
           ⟨(some 16), .mv (.t 5), none⟩,
           ⟨(some 17), .bin .add (.t 16) (.k (.d (.lit (.int .i64 1)))), none⟩,
           ⟨(some 5), .mv (.t 17), none⟩] [0, 1, 5])))))) (
    .seq (
     .ops [
       ⟨(some 4), .mv (.k (.d (.lit (.bool true)))), none⟩] [4]) (
     .ret))))
def rs18 : List RV := [.t 4 false]
theorem k18 : okFn G.tab Try.f18 2 c18 rs18 = true := by kernel_rfl
def c11 : Cd :=
 .seq (
  .ops [
    ⟨(some 4), .mv (.k (.nil)), none⟩,
    ⟨(some 5), .mv (.k (.d (.lit (.int .i64 0)))), none⟩] [0, 1]) (
  .seq (
   .seq (
    .ops [
      ⟨(some 17), .mv (.t 0), none⟩,
      ⟨(some 18), .mv (.t 1), none⟩,
      ⟨(some 19), .call 17 [.t 17, .t 18], none⟩,
      ⟨(some 20), .un .not (.t 19), none⟩] [0, 1, 20]) (
    .cond (.t 20) (
     .seq (
      .ops [
        ⟨(some 4), .mv (.k (.nil)), none⟩,
        ⟨(some 5), .mv (.k (.d (.lit (.int .i64 1)))), none⟩] [4, 5]) (
      .ret)) (
     .skip))) (
   .seq (
    .ops [
      ⟨(some 21), .mv (.t 1), none⟩,
      ⟨(some 22), .call 23 [.t 21], none⟩,
      ⟨(some 6), .mv (.t 22), none⟩] [0, 6]) (
    .seq (
     .ops [
       ⟨(some 23), .mmk false, none⟩,
       ⟨(some 7), .mv (.t 23), none⟩] [0, 6, 7]) (
     .seq (
      .seq (
       .ops [
         ⟨(some 24), .mv (.t 0), none⟩,
         ⟨(some 25), .mv (.k (.d (.lit (.int .i64 0)))), none⟩] [6, 7, 24, 25]) (
       .block 0 (
        .loop (
         .seq (
          .ops [
            ⟨(some 26), .bin .lss (.t 25) (.t 24), none⟩] [6, 7, 24, 25, 26]) (
          .seq (
           .cond (.t 26) (
            .skip) (
            .exit 0)) (
           .seq (
            .block 1 (
             .seq (
              .ops [
                ⟨(some 27), .mv (.t 25), none⟩,
                ⟨(some 8), .mv (.t 27), none⟩] [6, 7, 8, 24, 25]) (
              .ops [
                ⟨(some 28), .mv (.t 7), none⟩,
                ⟨(some 29), .mv (.t 8), none⟩,
                ⟨none, .mst false (.t 28) (.t 29) (.k (.d (.lit (.bool true)))), none⟩] [6, 7, 24, 25]))) (
            .ops [
              ⟨(some 30), .bin .add (.t 25) (.k (.d (.lit (.int .i64 1)))), none⟩,
              ⟨(some 25), .mv (.t 30), none⟩] [6, 7, 24, 25]))))))) (
      .seq (
       .ops [
         ⟨(some 9), .nilo 30 1, none⟩] [6, 7, 9]) (
       .seq (
        .block 2 (
         .loop (
          .seq (
           .seq (
            .ops [
              ⟨(some 31), .mv (.t 7), none⟩,
              ⟨(some 32), .mln (.t 31), none⟩,
              ⟨(some 33), .bin .gtr (.t 32) (.k (.d (.lit (.int .i64 0)))), none⟩] [6, 7, 9, 33]) (
            .cond (.t 33) (
             .skip) (
             .exit 2))) (
           .block 3 (
            .seq (
             .ops [
               ⟨(some 10), .new 30 [.nil], none⟩] [6, 7, 9, 10]) (
             .seq (
              .seq (
               .ops [
                 ⟨(some 34), .mv (.t 7), none⟩,
                 ⟨(some 35), .call 25 [.t 34], none⟩,
                 ⟨(some 36), .call 24 [.t 35], none⟩,
                 ⟨(some 37), .len false (.t 36), none⟩,
                 ⟨(some 38), .mv (.k (.d (.lit (.int .i64 0)))), none⟩] [6, 7, 9, 10, 36, 37, 38]) (
               .block 4 (
                .loop (
                 .seq (
                  .ops [
                    ⟨(some 39), .bin .lss (.t 38) (.t 37), none⟩] [6, 7, 9, 10, 36, 37, 38, 39]) (
                  .seq (
                   .cond (.t 39) (
                    .skip) (
                    .exit 4)) (
                   .seq (
                    .block 5 (
                     .seq (
                      .ops [
                        ⟨(some 40), .ia 1 (.t 36) (.t 38), none⟩,
                        ⟨(some 41), .load 1 false (.t 40), none⟩,
                        ⟨(some 12), .mv (.t 41), none⟩] [6, 7, 9, 10, 12, 36, 37, 38]) (
                      .seq (
                       .ops [
                         ⟨(some 42), .mv (.t 6), none⟩,
                         ⟨(some 43), .mv (.t 12), none⟩,
                         ⟨(some 44), .mlk false false (.nil) (.t 42) (.t 43), none⟩,
                         ⟨(some 45), .len false (.t 44), none⟩,
                         ⟨(some 46), .bin .eql (.t 45) (.k (.d (.lit (.int .i64 0)))), none⟩] [6, 7, 9, 10, 12, 36, 37, 38, 46]) (
                       .cond (.t 46) (
                        .ops [
                          ⟨(some 47), .ldo (.t 10), none⟩,
                          ⟨(some 48), .mv (.t 12), none⟩,
                          ⟨(some 49), .mks 3 1 [.t 48], none⟩,
                          ⟨(some 50), .app 3 1 8 47 (.t 49), none⟩,
                          ⟨none, .stoo (.t 10) 50, none⟩] [6, 7, 9, 10, 36, 37, 38]) (
                        .skip))))) (
                    .ops [
                      ⟨(some 51), .bin .add (.t 38) (.k (.d (.lit (.int .i64 1)))), none⟩,
                      ⟨(some 38), .mv (.t 51), none⟩] [6, 7, 9, 10, 36, 37, 38]))))))) (
              .seq (
               .seq (
                .ops [
                  ⟨(some 52), .load 1 false (.t 10), none⟩,
                  ⟨(some 53), .len false (.t 52), none⟩,
                  ⟨(some 54), .bin .eql (.t 53) (.k (.d (.lit (.int .i64 0)))), none⟩] [6, 7, 9, 10, 54]) (
                .cond (.t 54) (
                 .seq (
                  .ops [
                    ⟨(some 4), .mv (.k (.nil)), none⟩,
                    ⟨(some 5), .mv (.k (.d (.lit (.int .i64 10)))), none⟩] [4, 5]) (
                  .ret)) (
                 .skip))) (
               .seq (
                .seq (
                 .ops [
                   ⟨(some 55), .load 1 false (.t 10), none⟩,
                   ⟨(some 56), .len false (.t 55), none⟩,
                   ⟨(some 57), .mv (.k (.d (.lit (.int .i64 0)))), none⟩] [6, 7, 9, 10, 55, 56, 57]) (
                 .block 6 (
                  .loop (
                   .seq (
                    .ops [
                      ⟨(some 58), .bin .lss (.t 57) (.t 56), none⟩] [6, 7, 9, 10, 55, 56, 57, 58]) (
                    .seq (
                     .cond (.t 58) (
                      .skip) (
                      .exit 6)) (
                     .seq (
                      .block 7 (
                       .seq (
                        .ops [
                          ⟨(some 59), .ia 1 (.t 55) (.t 57), none⟩,
                          ⟨(some 60), .load 1 false (.t 59), none⟩,
                          ⟨(some 14), .mv (.t 60), none⟩] [6, 7, 9, 10, 14, 55, 56, 57]) (
                        .ops [
                          ⟨(some 61), .mv (.t 7), none⟩,
                          ⟨(some 62), .mv (.t 14), none⟩,
                          ⟨none, .mdl false (.t 61) (.t 62), none⟩] [6, 7, 9, 10, 55, 56, 57]))) (
                      .ops [
                        ⟨(some 63), .bin .add (.t 57) (.k (.d (.lit (.int .i64 1)))), none⟩,
                        ⟨(some 57), .mv (.t 63), none⟩] [6, 7, 9, 10, 55, 56, 57]))))))) (
                .seq (
                 .seq (
                  .ops [
                    ⟨(some 64), .mv (.t 6), none⟩,
                    ⟨(some 65), .call 26 [.t 64], none⟩,
                    ⟨(some 66), .len false (.t 65), none⟩,
                    ⟨(some 67), .mv (.k (.d (.lit (.int .i64 0)))), none⟩] [6, 7, 9, 10, 65, 66, 67]) (
                  .block 8 (
                   .loop (
                    .seq (
                     .ops [
                       ⟨(some 68), .bin .lss (.t 67) (.t 66), none⟩] [6, 7, 9, 10, 65, 66, 67, 68]) (
                     .seq (
                      .cond (.t 68) (
                       .skip) (
                       .exit 8)) (
                      .seq (
                       .block 9 (
                        .seq (
                         .ops [
                           ⟨(some 69), .ia 1 (.t 65) (.t 67), none⟩,
                           ⟨(some 70), .load 1 false (.t 69), none⟩,
                           ⟨(some 16), .mv (.t 70), none⟩] [6, 7, 9, 10, 16, 65, 66, 67]) (
                         .ops [
                           ⟨(some 71), .mv (.t 6), none⟩,
                           ⟨(some 72), .mv (.t 16), none⟩,
                           ⟨(some 73), .mv (.t 6), none⟩,
                           ⟨(some 74), .mv (.t 16), none⟩,
                           ⟨(some 75), .mlk false false (.nil) (.t 73) (.t 74), none⟩,
                           ⟨(some 76), .mkfn 28 [.t 10], none⟩,
                           ⟨(some 77), .call 27 [.t 75, .t 76], none⟩,
                           ⟨none, .mst false (.t 71) (.t 72) (.t 77), none⟩] [6, 7, 9, 10, 65, 66, 67]))) (
                       .ops [
                         ⟨(some 78), .bin .add (.t 67) (.k (.d (.lit (.int .i64 1)))), none⟩,
                         ⟨(some 67), .mv (.t 78), none⟩] [6, 7, 9, 10, 65, 66, 67]))))))) (
                 .ops [
                   ⟨(some 79), .mvo 9, none⟩,
                   ⟨(some 80), .load 1 false (.t 10), none⟩,
                   ⟨(some 81), .mks 30 1 [.t 80], none⟩,
                   ⟨(some 82), .app 30 1 24 79 (.t 81), none⟩,
                   ⟨(some 9), .mvo 82, none⟩] [6, 7, 9])))))))))) (
        .seq (
         .ops [
           ⟨(some 83), .mv (.t 9), none⟩,
           ⟨(some 4), .mv (.t 83), none⟩,
           ⟨(some 5), .mv (.k (.d (.lit (.int .i64 0)))), none⟩] [4, 5]) (
         .ret))))))))
def rs11 : List RV := [.t 4 false, .t 5 false]
theorem k11 : okFn G.tab Try.f11 2 c11 rs11 = true := by kernel_rfl
def c12 : Cd :=
 .seq (
  .ops [
    ⟨(some 4), .mv (.k (.nil)), none⟩,
    ⟨(some 5), .mv (.k (.d (.lit (.int .i64 0)))), none⟩] [0, 1]) (
  .seq (
   .seq (
    .ops [
      ⟨(some 14), .mv (.t 0), none⟩,
      ⟨(some 15), .mv (.t 1), none⟩,
      ⟨(some 16), .call 30 [.t 14, .t 15], none⟩,
      ⟨(some 6), .mv (.t 16), none⟩] [0, 1, 6]) (
    .seq (
     .ops [
       ⟨(some 17), .mv (.t 6), none⟩,
       ⟨(some 18), .bin .neq (.t 17) (.k (.d (.lit (.int .i64 0)))), none⟩] [0, 1, 6, 18]) (
     .cond (.t 18) (
      .seq (
       .ops [
         ⟨(some 19), .mv (.t 6), none⟩,
         ⟨(some 4), .mv (.k (.nil)), none⟩,
         ⟨(some 5), .mv (.t 19), none⟩] [4, 5]) (
       .ret)) (
      .skip)))) (
   .seq (
    .ops [
      ⟨(some 20), .mv (.t 0), none⟩,
      ⟨(some 21), .mkb 3 8 (.d (.lit (.int .i64 0))) (.t 20), none⟩,
      ⟨(some 7), .mv (.t 21), none⟩] [0, 1, 7]) (
    .seq (
     .seq (
      .ops [
        ⟨(some 8), .mv (.k (.d (.lit (.int .i64 0)))), none⟩] [0, 1, 7, 8]) (
      .block 0 (
       .loop (
        .seq (
         .seq (
          .ops [
            ⟨(some 22), .mv (.t 8), none⟩,
            ⟨(some 23), .mv (.t 0), none⟩,
            ⟨(some 24), .bin .lss (.t 22) (.t 23), none⟩] [0, 1, 7, 8, 24]) (
          .cond (.t 24) (
           .skip) (
           .exit 0))) (
         .seq (
          .block 1 (
           .seq (
            .ops [
              ⟨(some 9), .mv (.k (.d (.lit (.int .i64 0)))), none⟩] [0, 1, 7, 8, 9]) (
            .block 2 (
             .loop (
              .seq (
               .seq (
                .ops [
                  ⟨(some 27), .mv (.t 9), none⟩,
                  ⟨(some 28), .mv (.t 1), none⟩,
                  ⟨(some 29), .len false (.t 28), none⟩,
                  ⟨(some 30), .bin .lss (.t 27) (.t 29), none⟩] [0, 1, 7, 8, 9, 30]) (
                .cond (.t 30) (
                 .skip) (
                 .exit 2))) (
               .seq (
                .block 3 (
                 .seq (
                  .draw [
                    ⟨(some 33), .mv (.t 7), none⟩,
                    ⟨(some 34), .mv (.t 1), none⟩,
                    ⟨(some 35), .mv (.t 9), none⟩,
                    ⟨(some 36), .ia 2 (.t 34) (.t 35), none⟩,
                    ⟨(some 37), .aa 1 2 (.t 36) (.k (.d (.lit (.int .i64 1)))), none⟩,
                    ⟨(some 38), .load 1 false (.t 37), none⟩,
                    ⟨(some 39), .ia 1 (.t 33) (.t 38), none⟩,
                    ⟨(some 40), .load 1 false (.t 39), none⟩,
                    ⟨(some 41), .mv (.t 7), none⟩,
                    ⟨(some 42), .mv (.t 1), none⟩,
                    ⟨(some 43), .mv (.t 9), none⟩,
                    ⟨(some 44), .ia 2 (.t 42) (.t 43), none⟩,
                    ⟨(some 45), .aa 1 2 (.t 44) (.k (.d (.lit (.int .i64 0)))), none⟩,
                    ⟨(some 46), .load 1 false (.t 45), none⟩,
                    ⟨(some 47), .ia 1 (.t 41) (.t 46), none⟩,
                    ⟨(some 48), .load 1 false (.t 47), none⟩,
                    ⟨(some 49), .bin .leq (.t 40) (.t 48), none⟩] [0, 1, 7, 8, 9, 49]) (
                  .cond (.t 49) (
                   .drawg [
                     (⟨(some 50), .mv (.t 7), none⟩, .free 0),
                     (⟨(some 51), .mv (.t 1), none⟩, .free 0),
                     (⟨(some 52), .mv (.t 9), none⟩, .free 0),
                     (⟨(some 53), .ia 2 (.t 51) (.t 52), none⟩, .free 0),
                     (⟨(some 54), .aa 1 2 (.t 53) (.k (.d (.lit (.int .i64 1)))), none⟩, .free 0),
                     (⟨(some 55), .load 1 false (.t 54), none⟩, .calm 0 0),
                     (⟨(some 56), .mv (.t 7), none⟩, .free 0),
                     (⟨(some 57), .mv (.t 1), none⟩, .free 0),
                     (⟨(some 58), .mv (.t 9), none⟩, .free 0),
                     (⟨(some 59), .ia 2 (.t 57) (.t 58), none⟩, .free 0),
                     (⟨(some 60), .aa 1 2 (.t 59) (.k (.d (.lit (.int .i64 0)))), none⟩, .free 0),
                     (⟨(some 61), .load 1 false (.t 60), none⟩, .calm 0 0),
                     (⟨(some 62), .ia 1 (.t 56) (.t 61), none⟩, .free 0),
                     (⟨(some 63), .load 1 false (.t 62), none⟩, .calm 0 0),
                     (⟨(some 64), .bin .add (.t 63) (.k (.d (.lit (.int .i64 1)))), none⟩, .free 0),
                     (⟨(some 65), .ia 1 (.t 50) (.t 55), none⟩, .free 0),
                     (⟨none, .sto 1 (.t 65) (.t 64), none⟩, .act)] [0, 1, 7, 8, 9]) (
                   .skip)))) (
                .ops [
                  ⟨(some 31), .mv (.t 9), none⟩,
                  ⟨(some 32), .bin .add (.t 31) (.k (.d (.lit (.int .i64 1)))), none⟩,
                  ⟨(some 9), .mv (.t 32), none⟩] [0, 1, 7, 8, 9]))))))) (
          .ops [
            ⟨(some 25), .mv (.t 8), none⟩,
            ⟨(some 26), .bin .add (.t 25) (.k (.d (.lit (.int .i64 1)))), none⟩,
            ⟨(some 8), .mv (.t 26), none⟩] [0, 1, 7, 8])))))) (
     .seq (
      .ops [
        ⟨(some 10), .nilo 30 1, none⟩] [0, 7, 10]) (
      .seq (
       .seq (
        .ops [
          ⟨(some 11), .mv (.k (.d (.lit (.int .i64 0)))), none⟩] [0, 7, 10, 11]) (
        .block 4 (
         .loop (
          .seq (
           .seq (
            .ops [
              ⟨(some 66), .mv (.t 11), none⟩,
              ⟨(some 67), .mv (.t 0), none⟩,
              ⟨(some 68), .bin .lss (.t 66) (.t 67), none⟩] [0, 7, 10, 11, 68]) (
            .cond (.t 68) (
             .skip) (
             .exit 4))) (
           .seq (
            .block 5 (
             .seq (
              .ops [
                ⟨(some 12), .nilo 3 1, none⟩] [0, 7, 10, 11, 12]) (
              .seq (
               .seq (
                .ops [
                  ⟨(some 13), .mv (.k (.d (.lit (.int .i64 0)))), none⟩] [0, 7, 10, 11, 12, 13]) (
                .block 6 (
                 .loop (
                  .seq (
                   .seq (
                    .ops [
                      ⟨(some 71), .mv (.t 13), none⟩,
                      ⟨(some 72), .mv (.t 0), none⟩,
                      ⟨(some 73), .bin .lss (.t 71) (.t 72), none⟩] [0, 7, 10, 11, 12, 13, 73]) (
                    .cond (.t 73) (
                     .skip) (
                     .exit 6))) (
                   .seq (
                    .block 7 (
                     .seq (
                      .ops [
                        ⟨(some 76), .mv (.t 7), none⟩,
                        ⟨(some 77), .mv (.t 13), none⟩,
                        ⟨(some 78), .ia 1 (.t 76) (.t 77), none⟩,
                        ⟨(some 79), .load 1 false (.t 78), none⟩,
                        ⟨(some 80), .mv (.t 11), none⟩,
                        ⟨(some 81), .bin .eql (.t 79) (.t 80), none⟩] [0, 7, 10, 11, 12, 13, 81]) (
                      .cond (.t 81) (
                       .ops [
                         ⟨(some 82), .mvo 12, none⟩,
                         ⟨(some 83), .mv (.t 13), none⟩,
                         ⟨(some 84), .mks 3 1 [.t 83], none⟩,
                         ⟨(some 85), .app 3 1 8 82 (.t 84), none⟩,
                         ⟨(some 12), .mvo 85, none⟩] [0, 7, 10, 11, 12, 13]) (
                       .skip)))) (
                    .ops [
                      ⟨(some 74), .mv (.t 13), none⟩,
                      ⟨(some 75), .bin .add (.t 74) (.k (.d (.lit (.int .i64 1)))), none⟩,
                      ⟨(some 13), .mv (.t 75), none⟩] [0, 7, 10, 11, 12, 13])))))) (
               .seq (
                .ops [
                  ⟨(some 86), .mv (.t 12), none⟩,
                  ⟨(some 87), .len false (.t 86), none⟩,
                  ⟨(some 88), .bin .gtr (.t 87) (.k (.d (.lit (.int .i64 0)))), none⟩] [0, 7, 10, 11, 12, 88]) (
                .cond (.t 88) (
                 .ops [
                   ⟨(some 89), .mvo 10, none⟩,
                   ⟨(some 90), .mv (.t 12), none⟩,
                   ⟨(some 91), .mks 30 1 [.t 90], none⟩,
                   ⟨(some 92), .app 30 1 24 89 (.t 91), none⟩,
                   ⟨(some 10), .mvo 92, none⟩] [0, 7, 10, 11]) (
                 .skip)))))) (
            .ops [
              ⟨(some 69), .mv (.t 11), none⟩,
              ⟨(some 70), .bin .add (.t 69) (.k (.d (.lit (.int .i64 1)))), none⟩,
              ⟨(some 11), .mv (.t 70), none⟩] [0, 7, 10, 11])))))) (
       .seq (
        .ops [
          ⟨(some 93), .mv (.t 10), none⟩,
          ⟨(some 4), .mv (.t 93), none⟩,
          ⟨(some 5), .mv (.k (.d (.lit (.int .i64 0)))), none⟩] [4, 5]) (
        .ret)))))))
def rs12 : List RV := [.t 4 false, .t 5 false]
theorem k12 : okFn G.tab Try.f12 2 c12 rs12 = true := by kernel_rfl
def c14 : Cd :=
 .seq (
  .ops [
    ⟨(some 4), .mv (.k (.d (.lit (.bool false)))), none⟩] [0, 1]) (
  .seq (
   .seq (
    .ops [
      ⟨(some 6), .mv (.t 0), none⟩,
      ⟨(some 7), .bin .lss (.t 6) (.k (.d (.lit (.int .i64 0)))), none⟩,
      ⟨(some 8), .mv (.t 7), none⟩,
      ⟨(some 9), .mv (.t 0), (some (8, false))⟩,
      ⟨(some 10), .bin .gtr (.t 9) (.k (.d (.lit (.int .i64 64)))), (some (8, false))⟩,
      ⟨(some 11), .pick (.t 8) (.k (.d (.lit (.bool true)))) (.t 10), none⟩] [0, 1, 11]) (
    .cond (.t 11) (
     .seq (
      .ops [
        ⟨(some 4), .mv (.k (.d (.lit (.bool false)))), none⟩] [4]) (
      .ret)) (
     .skip))) (
   .seq (
    .seq (
     .ops [
       ⟨(some 5), .mv (.k (.d (.lit (.int .i64 0)))), none⟩] [0, 1, 5]) (
     .block 0 (
      .loop (
       .seq (
        .seq (
         .ops [
           ⟨(some 12), .mv (.t 5), none⟩,
           ⟨(some 13), .mv (.t 1), none⟩,
           ⟨(some 14), .len false (.t 13), none⟩,
           ⟨(some 15), .bin .lss (.t 12) (.t 14), none⟩] [0, 1, 5, 15]) (
         .cond (.t 15) (
          .skip) (
          .exit 0))) (
        .seq (
         .block 1 (
          .seq (
           .ops [
             ⟨(some 18), .mv (.t 1), none⟩,
             ⟨(some 19), .mv (.t 5), none⟩,
             ⟨(some 20), .ia 2 (.t 18) (.t 19), none⟩,
             ⟨(some 21), .aa 1 2 (.t 20) (.k (.d (.lit (.int .i64 0)))), none⟩,
             ⟨(some 22), .load 1 false (.t 21), none⟩,
             ⟨(some 23), .bin .lss (.t 22) (.k (.d (.lit (.int .i64 0)))), none⟩,
             ⟨(some 24), .mv (.t 23), none⟩,
             ⟨(some 25), .mv (.t 1), (some (24, false))⟩,
             ⟨(some 26), .mv (.t 5), (some (24, false))⟩,
             ⟨(some 27), .ia 2 (.t 25) (.t 26), (some (24, false))⟩,
             ⟨(some 28), .aa 1 2 (.t 27) (.k (.d (.lit (.int .i64 0)))), (some (24, false))⟩,
             ⟨(some 29), .load 1 false (.t 28), (some (24, false))⟩,
             ⟨(some 30), .mv (.t 0), (some (24, false))⟩,
             ⟨(some 31), .bin .geq (.t 29) (.t 30), (some (24, false))⟩,
             ⟨(some 32), .pick (.t 24) (.k (.d (.lit (.bool true)))) (.t 31), none⟩,
             ⟨(some 33), .mv (.t 32), none⟩,
             ⟨(some 34), .mv (.t 1), (some (33, false))⟩,
             ⟨(some 35), .mv (.t 5), (some (33, false))⟩,
             ⟨(some 36), .ia 2 (.t 34) (.t 35), (some (33, false))⟩,
             ⟨(some 37), .aa 1 2 (.t 36) (.k (.d (.lit (.int .i64 1)))), (some (33, false))⟩,
             ⟨(some 38), .load 1 false (.t 37), (some (33, false))⟩,
             ⟨(some 39), .bin .lss (.t 38) (.k (.d (.lit (.int .i64 0)))), (some (33, false))⟩,
             ⟨(some 40), .pick (.t 33) (.k (.d (.lit (.bool true)))) (.t 39), none⟩,
             ⟨(some 41), .mv (.t 40), none⟩,
             ⟨(some 42), .mv (.t 1), (some (41, false))⟩,
             ⟨(some 43), .mv (.t 5), (some (41, false))⟩,
             ⟨(some 44), .ia 2 (.t 42) (.t 43), (some (41, false))⟩,
             ⟨(some 45), .aa 1 2 (.t 44) (.k (.d (.lit (.int .i64 1)))), (some (41, false))⟩,
             ⟨(some 46), .load 1 false (.t 45), (some (41, false))⟩,
             ⟨(some 47), .mv (.t 0), (some (41, false))⟩,
             ⟨(some 48), .bin .geq (.t 46) (.t 47), (some (41, false))⟩,
             ⟨(some 49), .pick (.t 41) (.k (.d (.lit (.bool true)))) (.t 48), none⟩] [0, 1, 5, 49]) (
           .cond (.t 49) (
            .seq (
             .ops [
               ⟨(some 4), .mv (.k (.d (.lit (.bool false)))), none⟩] [4]) (
             .ret)) (
            .skip)))) (
         .ops [
           ⟨(some 16), .mv (.t 5), none⟩,
           ⟨(some 17), .bin .add (.t 16) (.k (.d (.lit (.int .i64 1)))), none⟩,
           ⟨(some 5), .mv (.t 17), none⟩] [0, 1, 5])))))) (
    .seq (
     .ops [
       ⟨(some 4), .mv (.k (.d (.lit (.bool true)))), none⟩] [4]) (
     .ret))))
def rs14 : List RV := [.t 4 false]
theorem k14 : okFn G.tab Try.f14 2 c14 rs14 = true := by kernel_rfl
def c16 : Cd :=
 .seq (
  .ops [
    ⟨(some 4), .mv (.k (.nil)), none⟩] [0, 1]) (
  .seq (
   .ops [
     ⟨(some 14), .mv (.t 0), none⟩,
     ⟨(some 15), .mv (.t 1), none⟩,
     ⟨(some 16), .call 20 [.t 14, .t 15], none⟩,
     ⟨(some 5), .mv (.t 16), none⟩] [0, 1, 5]) (
   .seq (
    .ops [
      ⟨(some 6), .mv (.k (.d (.lit (.int .i64 (-1))))), none⟩] [0, 1, 5, 6]) (
    .seq (
     .seq (
      .ops [
        ⟨(some 17), .mv (.t 5), none⟩,
        ⟨(some 18), .len false (.t 17), none⟩,
        ⟨(some 19), .bin .sub (.t 18) (.k (.d (.lit (.int .i64 1)))), none⟩,
        ⟨(some 7), .mv (.t 19), none⟩] [0, 1, 5, 6, 7]) (
      .block 0 (
       .loop (
        .seq (
         .seq (
          .ops [
            ⟨(some 20), .mv (.t 7), none⟩,
            ⟨(some 21), .bin .geq (.t 20) (.k (.d (.lit (.int .i64 0)))), none⟩] [0, 1, 5, 6, 7, 21]) (
          .cond (.t 21) (
           .skip) (
           .exit 0))) (
         .seq (
          .block 1 (
           .seq (
            .ops [
              ⟨(some 24), .mv (.t 5), none⟩,
              ⟨(some 25), .mv (.t 7), none⟩,
              ⟨(some 26), .ia 1 (.t 24) (.t 25), none⟩,
              ⟨(some 27), .load 1 false (.t 26), none⟩,
              ⟨(some 28), .mv (.t 7), none⟩,
              ⟨(some 29), .ia 1 (.t 27) (.t 28), none⟩,
              ⟨(some 30), .load 1 false (.t 29), none⟩] [0, 1, 5, 6, 7, 30]) (
            .cond (.t 30) (
             .ops [
               ⟨(some 31), .mv (.t 7), none⟩,
               ⟨(some 6), .mv (.t 31), none⟩] [0, 1, 5, 6, 7]) (
             .skip)))) (
          .ops [
            ⟨(some 22), .mv (.t 7), none⟩,
            ⟨(some 23), .bin .sub (.t 22) (.k (.d (.lit (.int .i64 1)))), none⟩,
            ⟨(some 7), .mv (.t 23), none⟩] [0, 1, 5, 6, 7])))))) (
     .seq (
      .seq (
       .ops [
         ⟨(some 32), .mv (.t 6), none⟩,
         ⟨(some 33), .bin .lss (.t 32) (.k (.d (.lit (.int .i64 0)))), none⟩] [0, 1, 6, 33]) (
       .cond (.t 33) (
        .seq (
         .ops [
           ⟨(some 4), .mv (.k (.nil)), none⟩] [4]) (
         .ret)) (
        .skip))) (
      .seq (
       .ops [
         ⟨(some 34), .mv (.t 0), none⟩,
         ⟨(some 35), .mv (.t 1), none⟩,
         ⟨(some 36), .mv (.t 6), none⟩,
         ⟨(some 37), .call 33 [.t 34, .t 35, .t 36], none⟩,
         ⟨(some 8), .mv (.t 37), none⟩] [0, 1, 6, 8]) (
       .seq (
        .ops [
          ⟨(some 38), .mv (.t 0), none⟩,
          ⟨(some 39), .bin .add (.t 38) (.k (.d (.lit (.int .i64 1)))), none⟩,
          ⟨(some 9), .mv (.t 39), none⟩] [0, 1, 6, 8, 9]) (
        .seq (
         .seq (
          .ops [
            ⟨(some 10), .mv (.k (.d (.lit (.int .i64 0)))), none⟩] [0, 1, 6, 8, 9, 10]) (
          .block 2 (
           .loop (
            .seq (
             .seq (
              .ops [
                ⟨(some 40), .mv (.t 10), none⟩,
                ⟨(some 41), .mv (.t 0), none⟩,
                ⟨(some 42), .bin .lss (.t 40) (.t 41), none⟩] [0, 1, 6, 8, 9, 10, 42]) (
              .cond (.t 42) (
               .skip) (
               .exit 2))) (
             .seq (
              .block 3 (
               .seq (
                .ops [
                  ⟨(some 45), .mv (.t 1), none⟩,
                  ⟨(some 46), .mv (.t 6), none⟩,
                  ⟨(some 47), .mv (.t 10), none⟩,
                  ⟨(some 48), .call 34 [.t 45, .t 46, .t 47], none⟩,
                  ⟨(some 49), .mv (.t 48), none⟩,
                  ⟨(some 50), .mv (.t 8), (some (49, true))⟩,
                  ⟨(some 51), .mv (.t 10), (some (49, true))⟩,
                  ⟨(some 52), .ia 1 (.t 50) (.t 51), (some (49, true))⟩,
                  ⟨(some 53), .load 1 false (.t 52), (some (49, true))⟩,
                  ⟨(some 54), .bin .add (.t 53) (.k (.d (.lit (.int .i64 1)))), (some (49, true))⟩,
                  ⟨(some 55), .mv (.t 9), (some (49, true))⟩,
                  ⟨(some 56), .bin .lss (.t 54) (.t 55), (some (49, true))⟩,
                  ⟨(some 57), .pick (.t 49) (.t 56) (.k (.d (.lit (.bool false)))), none⟩] [0, 1, 6, 8, 9, 10, 57]) (
                .cond (.t 57) (
                 .ops [
                   ⟨(some 58), .mv (.t 8), none⟩,
                   ⟨(some 59), .mv (.t 10), none⟩,
                   ⟨(some 60), .ia 1 (.t 58) (.t 59), none⟩,
                   ⟨(some 61), .load 1 false (.t 60), none⟩,
                   ⟨(some 62), .bin .add (.t 61) (.k (.d (.lit (.int .i64 1)))), none⟩,
                   ⟨(some 9), .mv (.t 62), none⟩] [0, 1, 6, 8, 9, 10]) (
                 .skip)))) (
              .ops [
                ⟨(some 43), .mv (.t 10), none⟩,
                ⟨(some 44), .bin .add (.t 43) (.k (.d (.lit (.int .i64 1)))), none⟩,
                ⟨(some 10), .mv (.t 44), none⟩] [0, 1, 6, 8, 9, 10])))))) (
         .seq (
          .ops [
            ⟨(some 63), .mv (.t 6), none⟩,
            ⟨(some 64), .mkso 3 1 [.t 63], none⟩,
            ⟨(some 11), .mvo 64, none⟩] [0, 1, 6, 8, 9, 11]) (
          .seq (
           .ops [
             ⟨(some 65), .mv (.t 6), none⟩,
             ⟨(some 12), .mv (.t 65), none⟩] [0, 1, 8, 9, 11, 12]) (
           .seq (
            .block 4 (
             .loop (
              .seq (
               .seq (
                .ops [
                  ⟨(some 66), .mv (.t 11), none⟩,
                  ⟨(some 67), .len false (.t 66), none⟩,
                  ⟨(some 68), .mv (.t 9), none⟩,
                  ⟨(some 69), .bin .lss (.t 67) (.t 68), none⟩] [0, 1, 8, 9, 11, 12, 69]) (
                .cond (.t 69) (
                 .skip) (
                 .exit 4))) (
               .block 5 (
                .seq (
                 .seq (
                  .ops [
                    ⟨(some 13), .mv (.k (.d (.lit (.int .i64 0)))), none⟩] [0, 1, 8, 9, 11, 12, 13]) (
                  .block 6 (
                   .loop (
                    .seq (
                     .seq (
                      .ops [
                        ⟨(some 70), .mv (.t 13), none⟩,
                        ⟨(some 71), .mv (.t 0), none⟩,
                        ⟨(some 72), .bin .lss (.t 70) (.t 71), none⟩] [0, 1, 8, 9, 11, 12, 13, 72]) (
                      .cond (.t 72) (
                       .skip) (
                       .exit 6))) (
                     .seq (
                      .block 7 (
                       .seq (
                        .ops [
                          ⟨(some 75), .mv (.t 1), none⟩,
                          ⟨(some 76), .mv (.t 12), none⟩,
                          ⟨(some 77), .mv (.t 13), none⟩,
                          ⟨(some 78), .call 34 [.t 75, .t 76, .t 77], none⟩,
                          ⟨(some 79), .mv (.t 78), none⟩,
                          ⟨(some 80), .mv (.t 8), (some (79, true))⟩,
                          ⟨(some 81), .mv (.t 13), (some (79, true))⟩,
                          ⟨(some 82), .ia 1 (.t 80) (.t 81), (some (79, true))⟩,
                          ⟨(some 83), .load 1 false (.t 82), (some (79, true))⟩,
                          ⟨(some 84), .mv (.t 9), (some (79, true))⟩,
                          ⟨(some 85), .mv (.t 11), (some (79, true))⟩,
                          ⟨(some 86), .len false (.t 85), (some (79, true))⟩,
                          ⟨(some 87), .bin .sub (.t 84) (.t 86), (some (79, true))⟩,
                          ⟨(some 88), .bin .eql (.t 83) (.t 87), (some (79, true))⟩,
                          ⟨(some 89), .pick (.t 79) (.t 88) (.k (.d (.lit (.bool false)))), none⟩] [0, 1, 8, 9, 11, 12, 13, 89]) (
                        .cond (.t 89) (
                         .seq (
                          .ops [
                            ⟨(some 90), .mv (.t 13), none⟩,
                            ⟨(some 12), .mv (.t 90), none⟩] [0, 1, 8, 9, 11, 12]) (
                          .exit 6)) (
                         .skip)))) (
                      .ops [
                        ⟨(some 73), .mv (.t 13), none⟩,
                        ⟨(some 74), .bin .add (.t 73) (.k (.d (.lit (.int .i64 1)))), none⟩,
                        ⟨(some 13), .mv (.t 74), none⟩] [0, 1, 8, 9, 11, 12, 13])))))) (
                 .ops [
                   ⟨(some 91), .mvo 11, none⟩,
                   ⟨(some 92), .mv (.t 12), none⟩,
                   ⟨(some 93), .mks 3 1 [.t 92], none⟩,
                   ⟨(some 94), .app 3 1 8 91 (.t 93), none⟩,
                   ⟨(some 11), .mvo 94, none⟩] [0, 1, 8, 9, 11, 12])))))) (
            .seq (
             .ops [
               ⟨(some 95), .mv (.t 11), none⟩,
               ⟨(some 4), .mv (.t 95), none⟩] [4]) (
             .ret))))))))))))
def rs16 : List RV := [.t 4 false]
theorem k16 : okFn G.tab Try.f16 2 c16 rs16 = true := by kernel_rfl
def c20 : Cd :=
 .seq (
  .ops [
    ⟨(some 4), .mv (.k (.nil)), none⟩] [0, 1]) (
  .seq (
   .seq (
    .ops [
      ⟨(some 11), .mv (.t 0), none⟩,
      ⟨(some 12), .mv (.t 1), none⟩,
      ⟨(some 13), .call 14 [.t 11, .t 12], none⟩,
      ⟨(some 14), .un .not (.t 13), none⟩] [0, 1, 14]) (
    .cond (.t 14) (
     .seq (
      .ops [
        ⟨(some 4), .mv (.k (.nil)), none⟩] [4]) (
      .ret)) (
     .skip))) (
   .seq (
    .ops [
      ⟨(some 5), .mv (.k (.nil)), none⟩] [0, 1, 5]) (
    .seq (
     .seq (
      .ops [
        ⟨(some 6), .mv (.k (.d (.lit (.int .i64 0)))), none⟩] [0, 1, 5, 6]) (
      .block 0 (
       .loop (
        .seq (
         .seq (
          .ops [
            ⟨(some 15), .mv (.t 6), none⟩,
            ⟨(some 16), .mv (.t 0), none⟩,
            ⟨(some 17), .bin .lss (.t 15) (.t 16), none⟩] [0, 1, 5, 6, 17]) (
          .cond (.t 17) (
           .skip) (
           .exit 0))) (
         .seq (
          .block 1 (
           .ops [
             ⟨(some 20), .mv (.t 5), none⟩,
             ⟨(some 21), .mv (.t 0), none⟩,
             ⟨(some 22), .mkb 4 1 (.d (.lit (.bool false))) (.t 21), none⟩,
             ⟨(some 23), .mkv 51 [.t 22], none⟩,
             ⟨(some 24), .appv 51 24 (.nil) 20 (.t 23), none⟩,
             ⟨(some 5), .mv (.t 24), none⟩] [0, 1, 5, 6])) (
          .ops [
            ⟨(some 18), .mv (.t 6), none⟩,
            ⟨(some 19), .bin .add (.t 18) (.k (.d (.lit (.int .i64 1)))), none⟩,
            ⟨(some 6), .mv (.t 19), none⟩] [0, 1, 5, 6])))))) (
     .seq (
      .seq (
       .ops [
         ⟨(some 7), .mv (.k (.d (.lit (.int .i64 0)))), none⟩] [0, 1, 5, 7]) (
       .block 2 (
        .loop (
         .seq (
          .seq (
           .ops [
             ⟨(some 25), .mv (.t 7), none⟩,
             ⟨(some 26), .mv (.t 1), none⟩,
             ⟨(some 27), .len false (.t 26), none⟩,
             ⟨(some 28), .bin .lss (.t 25) (.t 27), none⟩] [0, 1, 5, 7, 28]) (
           .cond (.t 28) (
            .skip) (
            .exit 2))) (
          .seq (
           .block 3 (
            .drawg [
              (⟨(some 31), .mv (.t 5), none⟩, .free 0),
              (⟨(some 32), .mv (.t 1), none⟩, .free 0),
              (⟨(some 33), .mv (.t 7), none⟩, .free 0),
              (⟨(some 34), .ia 2 (.t 32) (.t 33), none⟩, .free 0),
              (⟨(some 35), .aa 1 2 (.t 34) (.k (.d (.lit (.int .i64 0)))), none⟩, .free 0),
              (⟨(some 36), .load 1 false (.t 35), none⟩, .calm 0 0),
              (⟨(some 37), .ia 1 (.t 31) (.t 36), none⟩, .free 0),
              (⟨(some 38), .load 1 false (.t 37), none⟩, .calm 0 0),
              (⟨(some 39), .mv (.t 1), none⟩, .free 0),
              (⟨(some 40), .mv (.t 7), none⟩, .free 0),
              (⟨(some 41), .ia 2 (.t 39) (.t 40), none⟩, .free 0),
              (⟨(some 42), .aa 1 2 (.t 41) (.k (.d (.lit (.int .i64 1)))), none⟩, .free 0),
              (⟨(some 43), .load 1 false (.t 42), none⟩, .calm 0 0),
              (⟨(some 44), .ia 1 (.t 38) (.t 43), none⟩, .free 0),
              (⟨none, .sto 1 (.t 44) (.k (.d (.lit (.bool true)))), none⟩, .act)] [0, 1, 5, 7])) (
           .ops [
             ⟨(some 29), .mv (.t 7), none⟩,
             ⟨(some 30), .bin .add (.t 29) (.k (.d (.lit (.int .i64 1)))), none⟩,
             ⟨(some 7), .mv (.t 30), none⟩] [0, 1, 5, 7])))))) (
      .seq (
       .seq (
        .ops [
          ⟨(some 8), .mv (.k (.d (.lit (.int .i64 0)))), none⟩] [0, 5, 8]) (
        .block 4 (
         .loop (
          .seq (
           .seq (
            .ops [
              ⟨(some 45), .mv (.t 8), none⟩,
              ⟨(some 46), .mv (.t 0), none⟩,
              ⟨(some 47), .bin .lss (.t 45) (.t 46), none⟩] [0, 5, 8, 47]) (
            .cond (.t 47) (
             .skip) (
             .exit 4))) (
           .seq (
            .block 5 (
             .seq (
              .ops [
                ⟨(some 9), .mv (.k (.d (.lit (.int .i64 0)))), none⟩] [0, 5, 8, 9]) (
              .block 6 (
               .loop (
                .seq (
                 .seq (
                  .ops [
                    ⟨(some 50), .mv (.t 9), none⟩,
                    ⟨(some 51), .mv (.t 0), none⟩,
                    ⟨(some 52), .bin .lss (.t 50) (.t 51), none⟩] [0, 5, 8, 9, 52]) (
                  .cond (.t 52) (
                   .skip) (
                   .exit 6))) (
                 .seq (
                  .block 7 (
                   .seq (
                    .ops [
                      ⟨(some 10), .mv (.k (.d (.lit (.int .i64 0)))), none⟩] [0, 5, 8, 9, 10]) (
                    .block 8 (
                     .loop (
                      .seq (
                       .seq (
                        .ops [
                          ⟨(some 55), .mv (.t 10), none⟩,
                          ⟨(some 56), .mv (.t 0), none⟩,
                          ⟨(some 57), .bin .lss (.t 55) (.t 56), none⟩] [0, 5, 8, 9, 10, 57]) (
                        .cond (.t 57) (
                         .skip) (
                         .exit 8))) (
                       .seq (
                        .block 9 (
                         .seq (
                          .ops [
                            ⟨(some 60), .mv (.t 5), none⟩,
                            ⟨(some 61), .mv (.t 9), none⟩,
                            ⟨(some 62), .ia 1 (.t 60) (.t 61), none⟩,
                            ⟨(some 63), .load 1 false (.t 62), none⟩,
                            ⟨(some 64), .mv (.t 8), none⟩,
                            ⟨(some 65), .ia 1 (.t 63) (.t 64), none⟩,
                            ⟨(some 66), .load 1 false (.t 65), none⟩,
                            ⟨(some 67), .mv (.t 66), none⟩,
                            ⟨(some 68), .mv (.t 5), (some (67, true))⟩,
                            ⟨(some 69), .mv (.t 8), (some (67, true))⟩,
                            ⟨(some 70), .ia 1 (.t 68) (.t 69), (some (67, true))⟩,
                            ⟨(some 71), .load 1 false (.t 70), (some (67, true))⟩,
                            ⟨(some 72), .mv (.t 10), (some (67, true))⟩,
                            ⟨(some 73), .ia 1 (.t 71) (.t 72), (some (67, true))⟩,
                            ⟨(some 74), .load 1 false (.t 73), (some (67, true))⟩,
                            ⟨(some 75), .pick (.t 67) (.t 74) (.k (.d (.lit (.bool false)))), none⟩] [0, 5, 8, 9, 10, 75]) (
                          .cond (.t 75) (
                           .ops [
                             ⟨(some 76), .mv (.t 5), none⟩,
                             ⟨(some 77), .mv (.t 9), none⟩,
                             ⟨(some 78), .ia 1 (.t 76) (.t 77), none⟩,
                             ⟨(some 79), .load 1 false (.t 78), none⟩,
                             ⟨(some 80), .mv (.t 10), none⟩,
                             ⟨(some 81), .ia 1 (.t 79) (.t 80), none⟩,
                             ⟨none, .sto 1 (.t 81) (.k (.d (.lit (.bool true)))), none⟩] [0, 5, 8, 9, 10]) (
                           .skip)))) (
                        .ops [
                          ⟨(some 58), .mv (.t 10), none⟩,
                          ⟨(some 59), .bin .add (.t 58) (.k (.d (.lit (.int .i64 1)))), none⟩,
                          ⟨(some 10), .mv (.t 59), none⟩] [0, 5, 8, 9, 10]))))))) (
                  .ops [
                    ⟨(some 53), .mv (.t 9), none⟩,
                    ⟨(some 54), .bin .add (.t 53) (.k (.d (.lit (.int .i64 1)))), none⟩,
                    ⟨(some 9), .mv (.t 54), none⟩] [0, 5, 8, 9]))))))) (
            .ops [
              ⟨(some 48), .mv (.t 8), none⟩,
              ⟨(some 49), .bin .add (.t 48) (.k (.d (.lit (.int .i64 1)))), none⟩,
              ⟨(some 8), .mv (.t 49), none⟩] [0, 5, 8])))))) (
       .seq (
        .ops [
          ⟨(some 82), .mv (.t 5), none⟩,
          ⟨(some 4), .mv (.t 82), none⟩] [4]) (
        .ret)))))))
def rs20 : List RV := [.t 4 false]
theorem k20 : okFn G.tab Try.f20 2 c20 rs20 = true := by kernel_rfl
def c22 : Cd :=
 .seq (
  .ops [
    ⟨(some 4), .mv (.k (.nil)), none⟩,
    ⟨(some 5), .mv (.k (.d (.lit (.int .i64 0)))), none⟩] [0, 1]) (
  .seq (
   .seq (
    .ops [
      ⟨(some 13), .mv (.t 0), none⟩,
      ⟨(some 14), .mv (.t 1), none⟩,
      ⟨(some 15), .call 30 [.t 13, .t 14], none⟩,
      ⟨(some 6), .mv (.t 15), none⟩] [0, 1, 6]) (
    .seq (
     .ops [
       ⟨(some 16), .mv (.t 6), none⟩,
       ⟨(some 17), .bin .neq (.t 16) (.k (.d (.lit (.int .i64 0)))), none⟩] [0, 1, 6, 17]) (
     .cond (.t 17) (
      .seq (
       .ops [
         ⟨(some 18), .mv (.t 6), none⟩,
         ⟨(some 4), .mv (.k (.nil)), none⟩,
         ⟨(some 5), .mv (.t 18), none⟩] [4, 5]) (
       .ret)) (
      .skip)))) (
   .seq (
    .ops [
      ⟨(some 19), .mv (.t 0), none⟩,
      ⟨(some 20), .mv (.t 1), none⟩,
      ⟨(some 21), .call 20 [.t 19, .t 20], none⟩,
      ⟨(some 7), .mv (.t 21), none⟩] [0, 7]) (
    .seq (
     .ops [
       ⟨(some 8), .nilo 31 2, none⟩] [0, 7, 8]) (
     .seq (
      .seq (
       .ops [
         ⟨(some 9), .mv (.k (.d (.lit (.int .i64 0)))), none⟩] [0, 7, 8, 9]) (
       .block 0 (
        .loop (
         .seq (
          .seq (
           .ops [
             ⟨(some 22), .mv (.t 9), none⟩,
             ⟨(some 23), .mv (.t 0), none⟩,
             ⟨(some 24), .bin .lss (.t 22) (.t 23), none⟩] [0, 7, 8, 9, 24]) (
           .cond (.t 24) (
            .skip) (
            .exit 0))) (
          .seq (
           .block 1 (
            .seq (
             .ops [
               ⟨(some 10), .mv (.k (.d (.lit (.int .i64 0)))), none⟩] [0, 7, 8, 9, 10]) (
             .block 2 (
              .loop (
               .seq (
                .seq (
                 .ops [
                   ⟨(some 27), .mv (.t 10), none⟩,
                   ⟨(some 28), .mv (.t 0), none⟩,
                   ⟨(some 29), .bin .lss (.t 27) (.t 28), none⟩] [0, 7, 8, 9, 10, 29]) (
                 .cond (.t 29) (
                  .skip) (
                  .exit 2))) (
                .seq (
                 .block 3 (
                  .seq (
                   .ops [
                     ⟨(some 11), .mv (.k (.d (.lit (.bool false)))), none⟩] [0, 7, 8, 9, 10, 11]) (
                   .seq (
                    .seq (
                     .ops [
                       ⟨(some 12), .mv (.k (.d (.lit (.int .i64 0)))), none⟩] [0, 7, 8, 9, 10, 11, 12]) (
                     .block 4 (
                      .loop (
                       .seq (
                        .seq (
                         .ops [
                           ⟨(some 32), .mv (.t 12), none⟩,
                           ⟨(some 33), .mv (.t 0), none⟩,
                           ⟨(some 34), .bin .lss (.t 32) (.t 33), none⟩] [0, 7, 8, 9, 10, 11, 12, 34]) (
                         .cond (.t 34) (
                          .skip) (
                          .exit 4))) (
                        .seq (
                         .block 5 (
                          .ops [
                            ⟨(some 37), .mv (.t 11), none⟩,
                            ⟨(some 38), .mv (.t 37), none⟩,
                            ⟨(some 39), .mv (.t 7), (some (38, false))⟩,
                            ⟨(some 40), .mv (.t 9), (some (38, false))⟩,
                            ⟨(some 41), .ia 1 (.t 39) (.t 40), (some (38, false))⟩,
                            ⟨(some 42), .load 1 false (.t 41), (some (38, false))⟩,
                            ⟨(some 43), .mv (.t 12), (some (38, false))⟩,
                            ⟨(some 44), .ia 1 (.t 42) (.t 43), (some (38, false))⟩,
                            ⟨(some 45), .load 1 false (.t 44), (some (38, false))⟩,
                            ⟨(some 46), .mv (.t 45), (some (38, false))⟩,
                            ⟨(some 47), .mv (.t 7), (some (46, true))⟩,
                            ⟨(some 48), .mv (.t 12), (some (46, true))⟩,
                            ⟨(some 49), .ia 1 (.t 47) (.t 48), (some (46, true))⟩,
                            ⟨(some 50), .load 1 false (.t 49), (some (46, true))⟩,
                            ⟨(some 51), .mv (.t 10), (some (46, true))⟩,
                            ⟨(some 52), .ia 1 (.t 50) (.t 51), (some (46, true))⟩,
                            ⟨(some 53), .load 1 false (.t 52), (some (46, true))⟩,
                            ⟨(some 54), .pick (.t 46) (.t 53) (.k (.d (.lit (.bool false)))), (some (38, false))⟩,
                            ⟨(some 55), .pick (.t 38) (.k (.d (.lit (.bool true)))) (.t 54), none⟩,
                            ⟨(some 11), .mv (.t 55), none⟩] [0, 7, 8, 9, 10, 11, 12])) (
                         .ops [
                           ⟨(some 35), .mv (.t 12), none⟩,
                           ⟨(some 36), .bin .add (.t 35) (.k (.d (.lit (.int .i64 1)))), none⟩,
                           ⟨(some 12), .mv (.t 36), none⟩] [0, 7, 8, 9, 10, 11, 12])))))) (
                    .seq (
                     .ops [
                       ⟨(some 56), .mv (.t 7), none⟩,
                       ⟨(some 57), .mv (.t 9), none⟩,
                       ⟨(some 58), .ia 1 (.t 56) (.t 57), none⟩,
                       ⟨(some 59), .load 1 false (.t 58), none⟩,
                       ⟨(some 60), .mv (.t 10), none⟩,
                       ⟨(some 61), .ia 1 (.t 59) (.t 60), none⟩,
                       ⟨(some 62), .load 1 false (.t 61), none⟩,
                       ⟨(some 63), .mv (.t 62), none⟩,
                       ⟨(some 64), .mv (.t 11), (some (63, true))⟩,
                       ⟨(some 65), .un .not (.t 64), (some (63, true))⟩,
                       ⟨(some 66), .pick (.t 63) (.t 65) (.k (.d (.lit (.bool false)))), none⟩] [0, 7, 8, 9, 10, 66]) (
                     .cond (.t 66) (
                      .ops [
                        ⟨(some 67), .mvo 8, none⟩,
                        ⟨(some 68), .mv (.t 9), none⟩,
                        ⟨(some 69), .mv (.t 10), none⟩,
                        ⟨(some 70), .bld [.d (.lit (.int .i64 0)), .d (.lit (.int .i64 0))] [(0, 1, .t 68), (1, 1, .t 69)], none⟩,
                        ⟨(some 71), .mks 31 2 [.t 70], none⟩,
                        ⟨(some 72), .app 31 2 16 67 (.t 71), none⟩,
                        ⟨(some 8), .mvo 72, none⟩] [0, 7, 8, 9, 10]) (
                      .skip)))))) (
                 .ops [
                   ⟨(some 30), .mv (.t 10), none⟩,
                   ⟨(some 31), .bin .add (.t 30) (.k (.d (.lit (.int .i64 1)))), none⟩,
                   ⟨(some 10), .mv (.t 31), none⟩] [0, 7, 8, 9, 10]))))))) (
           .ops [
             ⟨(some 25), .mv (.t 9), none⟩,
             ⟨(some 26), .bin .add (.t 25) (.k (.d (.lit (.int .i64 1)))), none⟩,
             ⟨(some 9), .mv (.t 26), none⟩] [0, 7, 8, 9])))))) (
      .seq (
       .ops [
         ⟨(some 73), .mv (.t 8), none⟩,
         ⟨(some 4), .mv (.t 73), none⟩,
         ⟨(some 5), .mv (.k (.d (.lit (.int .i64 0)))), none⟩] [4, 5]) (
       .ret))))))
def rs22 : List RV := [.t 4 false, .t 5 false]
theorem k22 : okFn G.tab Try.f22 2 c22 rs22 = true := by kernel_rfl
def c30 : Cd :=
 .seq (
  .ops [
    ⟨(some 4), .mv (.k (.d (.lit (.int .i64 0)))), none⟩] [0, 1]) (
  .seq (
   .seq (
    .ops [
      ⟨(some 5), .mv (.t 0), none⟩,
      ⟨(some 6), .mv (.t 1), none⟩,
      ⟨(some 7), .call 14 [.t 5, .t 6], none⟩,
      ⟨(some 8), .un .not (.t 7), none⟩] [0, 1, 8]) (
    .cond (.t 8) (
     .seq (
      .ops [
        ⟨(some 4), .mv (.k (.d (.lit (.int .i64 1)))), none⟩] [4]) (
      .ret)) (
     .skip))) (
   .seq (
    .seq (
     .ops [
       ⟨(some 9), .mv (.t 0), none⟩,
       ⟨(some 10), .mv (.t 1), none⟩,
       ⟨(some 11), .call 41 [.t 9, .t 10], none⟩] [11]) (
     .cond (.t 11) (
      .seq (
       .ops [
         ⟨(some 4), .mv (.k (.d (.lit (.int .i64 10)))), none⟩] [4]) (
       .ret)) (
      .skip))) (
    .seq (
     .ops [
       ⟨(some 4), .mv (.k (.d (.lit (.int .i64 0)))), none⟩] [4]) (
     .ret))))
def rs30 : List RV := [.t 4 false]
theorem k30 : okFn G.tab Try.f30 2 c30 rs30 = true := by kernel_rfl
def c41 : Cd :=
 .seq (
  .ops [
    ⟨(some 4), .mv (.k (.d (.lit (.bool false)))), none⟩] [0, 1]) (
  .seq (
   .ops [
     ⟨(some 7), .mv (.t 0), none⟩,
     ⟨(some 8), .mv (.t 1), none⟩,
     ⟨(some 9), .call 20 [.t 7, .t 8], none⟩,
     ⟨(some 5), .mv (.t 9), none⟩] [5]) (
   .seq (
    .seq (
     .ops [
       ⟨(some 6), .mv (.k (.d (.lit (.int .i64 0)))), none⟩] [5, 6]) (
     .block 0 (
      .loop (
       .seq (
        .seq (
         .ops [
           ⟨(some 10), .mv (.t 6), none⟩,
           ⟨(some 11), .mv (.t 5), none⟩,
           ⟨(some 12), .len false (.t 11), none⟩,
           ⟨(some 13), .bin .lss (.t 10) (.t 12), none⟩] [5, 6, 13]) (
         .cond (.t 13) (
          .skip) (
          .exit 0))) (
        .seq (
         .block 1 (
          .seq (
           .ops [
             ⟨(some 16), .mv (.t 5), none⟩,
             ⟨(some 17), .mv (.t 6), none⟩,
             ⟨(some 18), .ia 1 (.t 16) (.t 17), none⟩,
             ⟨(some 19), .load 1 false (.t 18), none⟩,
             ⟨(some 20), .mv (.t 6), none⟩,
             ⟨(some 21), .ia 1 (.t 19) (.t 20), none⟩,
             ⟨(some 22), .load 1 false (.t 21), none⟩] [5, 6, 22]) (
           .cond (.t 22) (
            .seq (
             .ops [
               ⟨(some 4), .mv (.k (.d (.lit (.bool true)))), none⟩] [4]) (
             .ret)) (
            .skip)))) (
         .ops [
           ⟨(some 14), .mv (.t 6), none⟩,
           ⟨(some 15), .bin .add (.t 14) (.k (.d (.lit (.int .i64 1)))), none⟩,
           ⟨(some 6), .mv (.t 15), none⟩] [5, 6])))))) (
    .seq (
     .ops [
       ⟨(some 4), .mv (.k (.d (.lit (.bool false)))), none⟩] [4]) (
     .ret))))
def rs41 : List RV := [.t 4 false]
theorem k41 : okFn G.tab Try.f41 2 c41 rs41 = true := by kernel_rfl
def c34 : Cd :=
 .seq (
  .ops [
    ⟨(some 6), .mv (.k (.d (.lit (.bool false)))), none⟩] [0, 1, 2]) (
  .seq (
   .seq (
    .ops [
      ⟨(some 7), .mv (.k (.d (.lit (.int .i64 0)))), none⟩] [0, 1, 2, 7]) (
    .block 0 (
     .loop (
      .seq (
       .seq (
        .ops [
          ⟨(some 8), .mv (.t 7), none⟩,
          ⟨(some 9), .mv (.t 0), none⟩,
          ⟨(some 10), .len false (.t 9), none⟩,
          ⟨(some 11), .bin .lss (.t 8) (.t 10), none⟩] [0, 1, 2, 7, 11]) (
        .cond (.t 11) (
         .skip) (
         .exit 0))) (
       .seq (
        .block 1 (
         .seq (
          .ops [
            ⟨(some 14), .mv (.t 0), none⟩,
            ⟨(some 15), .mv (.t 7), none⟩,
            ⟨(some 16), .ia 2 (.t 14) (.t 15), none⟩,
            ⟨(some 17), .aa 1 2 (.t 16) (.k (.d (.lit (.int .i64 0)))), none⟩,
            ⟨(some 18), .load 1 false (.t 17), none⟩,
            ⟨(some 19), .mv (.t 1), none⟩,
            ⟨(some 20), .bin .eql (.t 18) (.t 19), none⟩,
            ⟨(some 21), .mv (.t 20), none⟩,
            ⟨(some 22), .mv (.t 0), (some (21, true))⟩,
            ⟨(some 23), .mv (.t 7), (some (21, true))⟩,
            ⟨(some 24), .ia 2 (.t 22) (.t 23), (some (21, true))⟩,
            ⟨(some 25), .aa 1 2 (.t 24) (.k (.d (.lit (.int .i64 1)))), (some (21, true))⟩,
            ⟨(some 26), .load 1 false (.t 25), (some (21, true))⟩,
            ⟨(some 27), .mv (.t 2), (some (21, true))⟩,
            ⟨(some 28), .bin .eql (.t 26) (.t 27), (some (21, true))⟩,
            ⟨(some 29), .pick (.t 21) (.t 28) (.k (.d (.lit (.bool false)))), none⟩] [0, 1, 2, 7, 29]) (
          .cond (.t 29) (
           .seq (
            .ops [
              ⟨(some 6), .mv (.k (.d (.lit (.bool true)))), none⟩] [6]) (
            .ret)) (
           .skip)))) (
        .ops [
          ⟨(some 12), .mv (.t 7), none⟩,
          ⟨(some 13), .bin .add (.t 12) (.k (.d (.lit (.int .i64 1)))), none⟩,
          ⟨(some 7), .mv (.t 13), none⟩] [0, 1, 2, 7])))))) (
   .seq (
    .ops [
      ⟨(some 6), .mv (.k (.d (.lit (.bool false)))), none⟩] [6]) (
    .ret)))
def rs34 : List RV := [.t 6 false]
theorem k34 : okFn G.tab Try.f34 3 c34 rs34 = true := by kernel_rfl
def c33 : Cd :=
 .seq (
  .ops [
    ⟨(some 6), .mv (.k (.nil)), none⟩] [0, 1, 2]) (
  .seq (
   .ops [
     ⟨(some 11), .mv (.t 0), none⟩,
     ⟨(some 12), .mkb 3 8 (.d (.lit (.int .i64 0))) (.t 11), none⟩,
     ⟨(some 7), .mv (.t 12), none⟩] [0, 1, 2, 7]) (
   .seq (
    .seq (
     .ops [
       ⟨(some 8), .mv (.k (.d (.lit (.int .i64 0)))), none⟩] [0, 1, 2, 7, 8]) (
     .block 0 (
      .loop (
       .seq (
        .seq (
         .ops [
           ⟨(some 13), .mv (.t 8), none⟩,
           ⟨(some 14), .mv (.t 0), none⟩,
           ⟨(some 15), .bin .lss (.t 13) (.t 14), none⟩] [0, 1, 2, 7, 8, 15]) (
         .cond (.t 15) (
          .skip) (
          .exit 0))) (
        .seq (
         .block 1 (
          .ops [
            ⟨(some 18), .mv (.t 7), none⟩,
            ⟨(some 19), .mv (.t 8), none⟩,
            ⟨(some 20), .mv (.t 0), none⟩,
            ⟨(some 21), .bin .add (.t 20) (.k (.d (.lit (.int .i64 1)))), none⟩,
            ⟨(some 22), .ia 1 (.t 18) (.t 19), none⟩,
            ⟨none, .sto 1 (.t 22) (.t 21), none⟩] [0, 1, 2, 7, 8])) (
         .ops [
           ⟨(some 16), .mv (.t 8), none⟩,
           ⟨(some 17), .bin .add (.t 16) (.k (.d (.lit (.int .i64 1)))), none⟩,
           ⟨(some 8), .mv (.t 17), none⟩] [0, 1, 2, 7, 8])))))) (
    .seq (
     .ops [
       ⟨(some 23), .mv (.t 7), none⟩,
       ⟨(some 24), .mv (.t 2), none⟩,
       ⟨(some 25), .ia 1 (.t 23) (.t 24), none⟩,
       ⟨none, .sto 1 (.t 25) (.k (.d (.lit (.int .i64 0)))), none⟩] [0, 1, 7]) (
     .seq (
      .seq (
       .ops [
         ⟨(some 9), .mv (.k (.d (.lit (.int .i64 0)))), none⟩] [0, 1, 7, 9]) (
       .block 2 (
        .loop (
         .seq (
          .seq (
           .ops [
             ⟨(some 26), .mv (.t 9), none⟩,
             ⟨(some 27), .mv (.t 0), none⟩,
             ⟨(some 28), .bin .lss (.t 26) (.t 27), none⟩] [0, 1, 7, 9, 28]) (
           .cond (.t 28) (
            .skip) (
            .exit 2))) (
          .seq (
           .block 3 (
            .seq (
             .ops [
               ⟨(some 10), .mv (.k (.d (.lit (.int .i64 0)))), none⟩] [0, 1, 7, 9, 10]) (
             .block 4 (
              .loop (
               .seq (
                .seq (
                 .ops [
                   ⟨(some 31), .mv (.t 10), none⟩,
                   ⟨(some 32), .mv (.t 1), none⟩,
                   ⟨(some 33), .len false (.t 32), none⟩,
                   ⟨(some 34), .bin .lss (.t 31) (.t 33), none⟩] [0, 1, 7, 9, 10, 34]) (
                 .cond (.t 34) (
                  .skip) (
                  .exit 4))) (
                .seq (
                 .block 5 (
                  .seq (
                   .draw [
                     ⟨(some 37), .mv (.t 7), none⟩,
                     ⟨(some 38), .mv (.t 1), none⟩,
                     ⟨(some 39), .mv (.t 10), none⟩,
                     ⟨(some 40), .ia 2 (.t 38) (.t 39), none⟩,
                     ⟨(some 41), .aa 1 2 (.t 40) (.k (.d (.lit (.int .i64 1)))), none⟩,
                     ⟨(some 42), .load 1 false (.t 41), none⟩,
                     ⟨(some 43), .ia 1 (.t 37) (.t 42), none⟩,
                     ⟨(some 44), .load 1 false (.t 43), none⟩,
                     ⟨(some 45), .bin .add (.t 44) (.k (.d (.lit (.int .i64 1)))), none⟩,
                     ⟨(some 46), .mv (.t 7), none⟩,
                     ⟨(some 47), .mv (.t 1), none⟩,
                     ⟨(some 48), .mv (.t 10), none⟩,
                     ⟨(some 49), .ia 2 (.t 47) (.t 48), none⟩,
                     ⟨(some 50), .aa 1 2 (.t 49) (.k (.d (.lit (.int .i64 0)))), none⟩,
                     ⟨(some 51), .load 1 false (.t 50), none⟩,
                     ⟨(some 52), .ia 1 (.t 46) (.t 51), none⟩,
                     ⟨(some 53), .load 1 false (.t 52), none⟩,
                     ⟨(some 54), .bin .lss (.t 45) (.t 53), none⟩] [0, 1, 7, 9, 10, 54]) (
                   .cond (.t 54) (
                    .drawg [
                      (⟨(some 55), .mv (.t 7), none⟩, .free 0),
                      (⟨(some 56), .mv (.t 1), none⟩, .free 0),
                      (⟨(some 57), .mv (.t 10), none⟩, .free 0),
                      (⟨(some 58), .ia 2 (.t 56) (.t 57), none⟩, .free 0),
                      (⟨(some 59), .aa 1 2 (.t 58) (.k (.d (.lit (.int .i64 0)))), none⟩, .free 0),
                      (⟨(some 60), .load 1 false (.t 59), none⟩, .calm 0 0),
                      (⟨(some 61), .mv (.t 7), none⟩, .free 0),
                      (⟨(some 62), .mv (.t 1), none⟩, .free 0),
                      (⟨(some 63), .mv (.t 10), none⟩, .free 0),
                      (⟨(some 64), .ia 2 (.t 62) (.t 63), none⟩, .free 0),
                      (⟨(some 65), .aa 1 2 (.t 64) (.k (.d (.lit (.int .i64 1)))), none⟩, .free 0),
                      (⟨(some 66), .load 1 false (.t 65), none⟩, .calm 0 0),
                      (⟨(some 67), .ia 1 (.t 61) (.t 66), none⟩, .free 0),
                      (⟨(some 68), .load 1 false (.t 67), none⟩, .calm 0 0),
                      (⟨(some 69), .bin .add (.t 68) (.k (.d (.lit (.int .i64 1)))), none⟩, .free 0),
                      (⟨(some 70), .ia 1 (.t 55) (.t 60), none⟩, .free 0),
                      (⟨none, .sto 1 (.t 70) (.t 69), none⟩, .act)] [0, 1, 7, 9, 10]) (
                    .skip)))) (
                 .ops [
                   ⟨(some 35), .mv (.t 10), none⟩,
                   ⟨(some 36), .bin .add (.t 35) (.k (.d (.lit (.int .i64 1)))), none⟩,
                   ⟨(some 10), .mv (.t 36), none⟩] [0, 1, 7, 9, 10]))))))) (
           .ops [
             ⟨(some 29), .mv (.t 9), none⟩,
             ⟨(some 30), .bin .add (.t 29) (.k (.d (.lit (.int .i64 1)))), none⟩,
             ⟨(some 9), .mv (.t 30), none⟩] [0, 1, 7, 9])))))) (
      .seq (
       .ops [
         ⟨(some 71), .mv (.t 7), none⟩,
         ⟨(some 6), .mv (.t 71), none⟩] [6]) (
       .ret))))))
def rs33 : List RV := [.t 6 false]
theorem k33 : okFn G.tab Try.f33 3 c33 rs33 = true := by kernel_rfl
def c17 : Cd :=
 .seq (
  .ops [
    ⟨(some 4), .mv (.k (.d (.lit (.bool false)))), none⟩] [0, 1]) (
  .seq (
   .seq (
    .ops [
      ⟨(some 7), .mv (.t 0), none⟩,
      ⟨(some 8), .bin .lss (.t 7) (.k (.d (.lit (.int .i64 0)))), none⟩,
      ⟨(some 9), .mv (.t 8), none⟩,
      ⟨(some 10), .mv (.t 0), (some (9, false))⟩,
      ⟨(some 11), .bin .gtr (.t 10) (.k (.d (.lit (.int .i64 64)))), (some (9, false))⟩,
      ⟨(some 12), .pick (.t 9) (.k (.d (.lit (.bool true)))) (.t 11), none⟩] [0, 1, 12]) (
    .cond (.t 12) (
     .seq (
      .ops [
        ⟨(some 4), .mv (.k (.d (.lit (.bool false)))), none⟩] [4]) (
      .ret)) (
     .skip))) (
   .seq (
    .seq (
     .ops [
       ⟨(some 13), .mv (.t 1), none⟩,
       ⟨(some 14), .len false (.t 13), none⟩,
       ⟨(some 15), .mv (.k (.d (.lit (.int .i64 0)))), none⟩] [0, 13, 14, 15]) (
     .block 0 (
      .loop (
       .seq (
        .ops [
          ⟨(some 16), .bin .lss (.t 15) (.t 14), none⟩] [0, 13, 14, 15, 16]) (
        .seq (
         .cond (.t 16) (
          .skip) (
          .exit 0)) (
         .seq (
          .block 1 (
           .seq (
            .ops [
              ⟨(some 17), .ia 2 (.t 13) (.t 15), none⟩,
              ⟨(some 18), .load 2 true (.t 17), none⟩,
              ⟨(some 6), .new 31 [.d (.lit (.int .i64 0)), .d (.lit (.int .i64 0))], none⟩,
              ⟨none, .sto 2 (.t 6) (.t 18), none⟩] [0, 6, 13, 14, 15]) (
            .seq (
             .ops [
               ⟨(some 19), .aa 1 2 (.t 6) (.k (.d (.lit (.int .i64 0)))), none⟩,
               ⟨(some 20), .load 1 false (.t 19), none⟩,
               ⟨(some 21), .bin .lss (.t 20) (.k (.d (.lit (.int .i64 0)))), none⟩,
               ⟨(some 22), .mv (.t 21), none⟩,
               ⟨(some 23), .aa 1 2 (.t 6) (.k (.d (.lit (.int .i64 0)))), (some (22, false))⟩,
               ⟨(some 24), .load 1 false (.t 23), (some (22, false))⟩,
               ⟨(some 25), .mv (.t 0), (some (22, false))⟩,
               ⟨(some 26), .bin .geq (.t 24) (.t 25), (some (22, false))⟩,
               ⟨(some 27), .pick (.t 22) (.k (.d (.lit (.bool true)))) (.t 26), none⟩,
               ⟨(some 28), .mv (.t 27), none⟩,
               ⟨(some 29), .aa 1 2 (.t 6) (.k (.d (.lit (.int .i64 1)))), (some (28, false))⟩,
               ⟨(some 30), .load 1 false (.t 29), (some (28, false))⟩,
               ⟨(some 31), .bin .lss (.t 30) (.k (.d (.lit (.int .i64 0)))), (some (28, false))⟩,
               ⟨(some 32), .pick (.t 28) (.k (.d (.lit (.bool true)))) (.t 31), none⟩,
               ⟨(some 33), .mv (.t 32), none⟩,
               ⟨(some 34), .aa 1 2 (.t 6) (.k (.d (.lit (.int .i64 1)))), (some (33, false))⟩,
               ⟨(some 35), .load 1 false (.t 34), (some (33, false))⟩,
               ⟨(some 36), .mv (.t 0), (some (33, false))⟩,
               ⟨(some 37), .bin .geq (.t 35) (.t 36), (some (33, false))⟩,
               ⟨(some 38), .pick (.t 33) (.k (.d (.lit (.bool true)))) (.t 37), none⟩] [0, 13, 14, 15, 38]) (
             .cond (.t 38) (
              .seq (
               .ops [
                 ⟨(some 4), .mv (.k (.d (.lit (.bool false)))), none⟩] [4]) (
               .ret)) (
              .skip))))) (
          .ops [
            ⟨(some 39), .bin .add (.t 15) (.k (.d (.lit (.int .i64 1)))), none⟩,
            ⟨(some 15), .mv (.t 39), none⟩] [0, 13, 14, 15]))))))) (
    .seq (
     .ops [
       ⟨(some 4), .mv (.k (.d (.lit (.bool true)))), none⟩] [4]) (
     .ret))))
def rs17 : List RV := [.t 4 false]
theorem k17 : okFn G.tab Try.f17 2 c17 rs17 = true := by kernel_rfl
def c15 : Cd :=
 .seq (
  .ops [
    ⟨(some 4), .mv (.k (.nil)), none⟩] [0, 1]) (
  .seq (
   .seq (
    .ops [
      ⟨(some 16), .mv (.t 0), none⟩,
      ⟨(some 17), .mv (.t 1), none⟩,
      ⟨(some 18), .call 17 [.t 16, .t 17], none⟩,
      ⟨(some 19), .un .not (.t 18), none⟩] [0, 1, 19]) (
    .cond (.t 19) (
     .seq (
      .ops [
        ⟨(some 4), .mv (.k (.nil)), none⟩] [4]) (
      .ret)) (
     .skip))) (
   .seq (
    .ops [
      ⟨(some 20), .mv (.t 0), none⟩,
      ⟨(some 21), .mv (.t 1), none⟩,
      ⟨(some 22), .call 31 [.t 20, .t 21], none⟩,
      ⟨(some 5), .mv (.t 22), none⟩] [0, 1, 5]) (
    .seq (
     .ops [
       ⟨(some 6), .mv (.k (.d (.lit (.int .i64 (-1))))), none⟩] [0, 1, 5, 6]) (
     .seq (
      .seq (
       .ops [
         ⟨(some 23), .mv (.t 5), none⟩,
         ⟨(some 24), .len false (.t 23), none⟩,
         ⟨(some 25), .mv (.k (.d (.lit (.int .i64 0)))), none⟩] [0, 1, 5, 6, 24, 25]) (
       .block 0 (
        .loop (
         .seq (
          .ops [
            ⟨(some 26), .bin .lss (.t 25) (.t 24), none⟩] [0, 1, 5, 6, 24, 25, 26]) (
          .seq (
           .cond (.t 26) (
            .skip) (
            .exit 0)) (
           .seq (
            .block 1 (
             .seq (
              .ops [
                ⟨(some 27), .mv (.t 25), none⟩,
                ⟨(some 7), .mv (.t 27), none⟩] [0, 1, 5, 6, 7, 24, 25]) (
              .seq (
               .ops [
                 ⟨(some 28), .mv (.t 5), none⟩,
                 ⟨(some 29), .mv (.t 7), none⟩,
                 ⟨(some 30), .ia 1 (.t 28) (.t 29), none⟩,
                 ⟨(some 31), .load 1 false (.t 30), none⟩,
                 ⟨(some 32), .mv (.t 7), none⟩,
                 ⟨(some 33), .ia 1 (.t 31) (.t 32), none⟩,
                 ⟨(some 34), .load 1 false (.t 33), none⟩] [0, 1, 5, 6, 7, 24, 25, 34]) (
               .cond (.t 34) (
                .seq (
                 .ops [
                   ⟨(some 35), .mv (.t 7), none⟩,
                   ⟨(some 6), .mv (.t 35), none⟩] [0, 1, 6]) (
                 .exit 0)) (
                .skip))))) (
            .ops [
              ⟨(some 36), .bin .add (.t 25) (.k (.d (.lit (.int .i64 1)))), none⟩,
              ⟨(some 25), .mv (.t 36), none⟩] [0, 1, 5, 6, 24, 25]))))))) (
      .seq (
       .seq (
        .ops [
          ⟨(some 37), .mv (.t 6), none⟩,
          ⟨(some 38), .bin .lss (.t 37) (.k (.d (.lit (.int .i64 0)))), none⟩] [0, 1, 6, 38]) (
        .cond (.t 38) (
         .seq (
          .ops [
            ⟨(some 4), .mv (.k (.nil)), none⟩] [4]) (
          .ret)) (
         .skip))) (
       .seq (
        .ops [
          ⟨(some 39), .mv (.t 0), none⟩,
          ⟨(some 40), .mv (.t 1), none⟩,
          ⟨(some 41), .mv (.t 6), none⟩,
          ⟨(some 42), .call 32 [.t 39, .t 40, .t 41], none⟩,
          ⟨(some 8), .mv (.t 42), none⟩] [0, 1, 6, 8]) (
        .seq (
         .ops [
           ⟨(some 43), .mv (.t 6), none⟩,
           ⟨(some 44), .mkso 3 1 [.t 43], none⟩,
           ⟨(some 9), .mvo 44, none⟩] [0, 1, 6, 8, 9]) (
         .seq (
          .ops [
            ⟨(some 45), .mv (.t 0), none⟩,
            ⟨(some 46), .bin .add (.t 45) (.k (.d (.lit (.int .i64 1)))), none⟩,
            ⟨(some 10), .mv (.t 46), none⟩] [0, 1, 6, 8, 9, 10]) (
          .seq (
           .seq (
            .ops [
              ⟨(some 47), .mv (.t 1), none⟩,
              ⟨(some 48), .len false (.t 47), none⟩,
              ⟨(some 49), .mv (.k (.d (.lit (.int .i64 0)))), none⟩] [0, 1, 6, 8, 9, 10, 47, 48, 49]) (
            .block 2 (
             .loop (
              .seq (
               .ops [
                 ⟨(some 50), .bin .lss (.t 49) (.t 48), none⟩] [0, 1, 6, 8, 9, 10, 47, 48, 49, 50]) (
               .seq (
                .cond (.t 50) (
                 .skip) (
                 .exit 2)) (
                .seq (
                 .block 3 (
                  .seq (
                   .ops [
                     ⟨(some 51), .ia 2 (.t 47) (.t 49), none⟩,
                     ⟨(some 52), .load 2 true (.t 51), none⟩,
                     ⟨(some 12), .new 31 [.d (.lit (.int .i64 0)), .d (.lit (.int .i64 0))], none⟩,
                     ⟨none, .sto 2 (.t 12) (.t 52), none⟩] [0, 1, 6, 8, 9, 10, 12, 47, 48, 49]) (
                   .seq (
                    .ops [
                      ⟨(some 53), .aa 1 2 (.t 12) (.k (.d (.lit (.int .i64 0)))), none⟩,
                      ⟨(some 54), .load 1 false (.t 53), none⟩,
                      ⟨(some 55), .mv (.t 6), none⟩,
                      ⟨(some 56), .bin .eql (.t 54) (.t 55), none⟩,
                      ⟨(some 57), .mv (.t 56), none⟩,
                      ⟨(some 58), .mv (.t 8), (some (57, true))⟩,
                      ⟨(some 59), .aa 1 2 (.t 12) (.k (.d (.lit (.int .i64 1)))), (some (57, true))⟩,
                      ⟨(some 60), .load 1 false (.t 59), (some (57, true))⟩,
                      ⟨(some 61), .ia 1 (.t 58) (.t 60), (some (57, true))⟩,
                      ⟨(some 62), .load 1 false (.t 61), (some (57, true))⟩,
                      ⟨(some 63), .bin .geq (.t 62) (.k (.d (.lit (.int .i64 0)))), (some (57, true))⟩,
                      ⟨(some 64), .pick (.t 57) (.t 63) (.k (.d (.lit (.bool false)))), none⟩] [0, 1, 6, 8, 9, 10, 12, 47, 48, 49, 64]) (
                    .cond (.t 64) (
                     .ops [
                       ⟨(some 65), .mv (.t 10), none⟩,
                       ⟨(some 66), .mv (.t 8), none⟩,
                       ⟨(some 67), .aa 1 2 (.t 12) (.k (.d (.lit (.int .i64 1)))), none⟩,
                       ⟨(some 68), .load 1 false (.t 67), none⟩,
                       ⟨(some 69), .ia 1 (.t 66) (.t 68), none⟩,
                       ⟨(some 70), .load 1 false (.t 69), none⟩,
                       ⟨(some 71), .bin .add (.t 70) (.k (.d (.lit (.int .i64 1)))), none⟩,
                       ⟨(some 72), .mx false (.t 65) (.t 71), none⟩,
                       ⟨(some 10), .mv (.t 72), none⟩] [0, 1, 6, 8, 9, 10, 47, 48, 49]) (
                     .skip))))) (
                 .ops [
                   ⟨(some 73), .bin .add (.t 49) (.k (.d (.lit (.int .i64 1)))), none⟩,
                   ⟨(some 49), .mv (.t 73), none⟩] [0, 1, 6, 8, 9, 10, 47, 48, 49]))))))) (
           .seq (
            .block 4 (
             .loop (
              .seq (
               .seq (
                .ops [
                  ⟨(some 74), .mv (.t 9), none⟩,
                  ⟨(some 75), .len false (.t 74), none⟩,
                  ⟨(some 76), .mv (.t 10), none⟩,
                  ⟨(some 77), .bin .lss (.t 75) (.t 76), none⟩] [0, 1, 6, 8, 9, 10, 77]) (
                .cond (.t 77) (
                 .skip) (
                 .exit 4))) (
               .block 5 (
                .seq (
                 .ops [
                   ⟨(some 78), .mv (.t 0), none⟩,
                   ⟨(some 13), .mv (.t 78), none⟩] [0, 1, 6, 8, 9, 10, 13]) (
                 .seq (
                  .seq (
                   .ops [
                     ⟨(some 79), .mv (.t 1), none⟩,
                     ⟨(some 80), .len false (.t 79), none⟩,
                     ⟨(some 81), .mv (.k (.d (.lit (.int .i64 0)))), none⟩] [0, 1, 6, 8, 9, 10, 13, 79, 80, 81]) (
                   .block 6 (
                    .loop (
                     .seq (
                      .ops [
                        ⟨(some 82), .bin .lss (.t 81) (.t 80), none⟩] [0, 1, 6, 8, 9, 10, 13, 79, 80, 81, 82]) (
                      .seq (
                       .cond (.t 82) (
                        .skip) (
                        .exit 6)) (
                       .seq (
                        .block 7 (
                         .seq (
                          .ops [
                            ⟨(some 83), .ia 2 (.t 79) (.t 81), none⟩,
                            ⟨(some 84), .load 2 true (.t 83), none⟩,
                            ⟨(some 15), .new 31 [.d (.lit (.int .i64 0)), .d (.lit (.int .i64 0))], none⟩,
                            ⟨none, .sto 2 (.t 15) (.t 84), none⟩] [0, 1, 6, 8, 9, 10, 13, 15, 79, 80, 81]) (
                          .seq (
                           .draw [
                             ⟨(some 85), .aa 1 2 (.t 15) (.k (.d (.lit (.int .i64 0)))), none⟩,
                             ⟨(some 86), .load 1 false (.t 85), none⟩,
                             ⟨(some 87), .mv (.t 9), none⟩,
                             ⟨(some 88), .mv (.t 9), none⟩,
                             ⟨(some 89), .len false (.t 88), none⟩,
                             ⟨(some 90), .bin .sub (.t 89) (.k (.d (.lit (.int .i64 1)))), none⟩,
                             ⟨(some 91), .ia 1 (.t 87) (.t 90), none⟩,
                             ⟨(some 92), .load 1 false (.t 91), none⟩,
                             ⟨(some 93), .bin .eql (.t 86) (.t 92), none⟩,
                             ⟨(some 94), .mv (.t 93), none⟩,
                             ⟨(some 95), .aa 1 2 (.t 15) (.k (.d (.lit (.int .i64 1)))), (some (94, true))⟩,
                             ⟨(some 96), .load 1 false (.t 95), (some (94, true))⟩,
                             ⟨(some 97), .mv (.t 6), (some (94, true))⟩,
                             ⟨(some 98), .bin .neq (.t 96) (.t 97), (some (94, true))⟩,
                             ⟨(some 99), .pick (.t 94) (.t 98) (.k (.d (.lit (.bool false)))), none⟩,
                             ⟨(some 100), .mv (.t 99), none⟩,
                             ⟨(some 101), .mv (.t 8), (some (100, true))⟩,
                             ⟨(some 102), .aa 1 2 (.t 15) (.k (.d (.lit (.int .i64 1)))), (some (100, true))⟩,
                             ⟨(some 103), .load 1 false (.t 102), (some (100, true))⟩,
                             ⟨(some 104), .ia 1 (.t 101) (.t 103), (some (100, true))⟩,
                             ⟨(some 105), .load 1 false (.t 104), (some (100, true))⟩,
                             ⟨(some 106), .mv (.t 10), (some (100, true))⟩,
                             ⟨(some 107), .mv (.t 9), (some (100, true))⟩,
                             ⟨(some 108), .len false (.t 107), (some (100, true))⟩,
                             ⟨(some 109), .bin .sub (.t 106) (.t 108), (some (100, true))⟩,
                             ⟨(some 110), .bin .eql (.t 105) (.t 109), (some (100, true))⟩,
                             ⟨(some 111), .pick (.t 100) (.t 110) (.k (.d (.lit (.bool false)))), none⟩] [0, 1, 6, 8, 9, 10, 13, 15, 79, 80, 81, 111]) (
                           .cond (.t 111) (
                            .ops [
                              ⟨(some 112), .mv (.t 13), none⟩,
                              ⟨(some 113), .aa 1 2 (.t 15) (.k (.d (.lit (.int .i64 1)))), none⟩,
                              ⟨(some 114), .load 1 false (.t 113), none⟩,
                              ⟨(some 115), .mx false (.t 112) (.t 114), none⟩,
                              ⟨(some 13), .mv (.t 115), none⟩] [0, 1, 6, 8, 9, 10, 13, 79, 80, 81]) (
                            .skip))))) (
                        .ops [
                          ⟨(some 116), .bin .add (.t 81) (.k (.d (.lit (.int .i64 1)))), none⟩,
                          ⟨(some 81), .mv (.t 116), none⟩] [0, 1, 6, 8, 9, 10, 13, 79, 80, 81]))))))) (
                  .ops [
                    ⟨(some 117), .mvo 9, none⟩,
                    ⟨(some 118), .mv (.t 13), none⟩,
                    ⟨(some 119), .mks 3 1 [.t 118], none⟩,
                    ⟨(some 120), .app 3 1 8 117 (.t 119), none⟩,
                    ⟨(some 9), .mvo 120, none⟩] [0, 1, 6, 8, 9, 10]))))))) (
            .seq (
             .ops [
               ⟨(some 121), .mv (.t 9), none⟩,
               ⟨(some 4), .mv (.t 121), none⟩] [4]) (
             .ret))))))))))))
def rs15 : List RV := [.t 4 false]
theorem k15 : okFn G.tab Try.f15 2 c15 rs15 = true := by kernel_rfl
def c19 : Cd :=
 .seq (
  .ops [
    ⟨(some 4), .mv (.k (.nil)), none⟩] [0, 1]) (
  .seq (
   .seq (
    .ops [
      ⟨(some 5), .mv (.t 0), none⟩,
      ⟨(some 6), .mv (.t 1), none⟩,
      ⟨(some 7), .call 17 [.t 5, .t 6], none⟩,
      ⟨(some 8), .un .not (.t 7), none⟩] [0, 1, 8]) (
    .cond (.t 8) (
     .seq (
      .ops [
        ⟨(some 4), .mv (.k (.nil)), none⟩] [4]) (
      .ret)) (
     .skip))) (
   .seq (
    .ops [
      ⟨(some 9), .mv (.t 0), none⟩,
      ⟨(some 10), .mv (.t 1), none⟩,
      ⟨(some 11), .call 31 [.t 9, .t 10], none⟩,
      ⟨(some 4), .mv (.t 11), none⟩] [4]) (
    .ret)))
def rs19 : List RV := [.t 4 false]
theorem k19 : okFn G.tab Try.f19 2 c19 rs19 = true := by kernel_rfl
def c21 : Cd :=
 .seq (
  .ops [
    ⟨(some 4), .mv (.k (.nil)), none⟩,
    ⟨(some 5), .mv (.k (.d (.lit (.int .i64 0)))), none⟩] [0, 1]) (
  .seq (
   .seq (
    .ops [
      ⟨(some 11), .mv (.t 0), none⟩,
      ⟨(some 12), .mv (.t 1), none⟩,
      ⟨(some 13), .call 17 [.t 11, .t 12], none⟩,
      ⟨(some 14), .un .not (.t 13), none⟩] [0, 1, 14]) (
    .cond (.t 14) (
     .seq (
      .ops [
        ⟨(some 4), .mv (.k (.nil)), none⟩,
        ⟨(some 5), .mv (.k (.d (.lit (.int .i64 1)))), none⟩] [4, 5]) (
      .ret)) (
     .skip))) (
   .seq (
    .ops [
      ⟨(some 15), .mv (.t 0), none⟩,
      ⟨(some 16), .mv (.t 1), none⟩,
      ⟨(some 17), .call 31 [.t 15, .t 16], none⟩,
      ⟨(some 6), .mv (.t 17), none⟩] [0, 6]) (
    .seq (
     .seq (
      .ops [
        ⟨(some 18), .mv (.t 0), none⟩,
        ⟨(some 19), .mv (.k (.d (.lit (.int .i64 0)))), none⟩] [0, 6, 18, 19]) (
      .block 0 (
       .loop (
        .seq (
         .ops [
           ⟨(some 20), .bin .lss (.t 19) (.t 18), none⟩] [0, 6, 18, 19, 20]) (
         .seq (
          .cond (.t 20) (
           .skip) (
           .exit 0)) (
          .seq (
           .block 1 (
            .seq (
             .ops [
               ⟨(some 21), .mv (.t 19), none⟩,
               ⟨(some 7), .mv (.t 21), none⟩] [0, 6, 7, 18, 19]) (
             .seq (
              .ops [
                ⟨(some 22), .mv (.t 6), none⟩,
                ⟨(some 23), .mv (.t 7), none⟩,
                ⟨(some 24), .ia 1 (.t 22) (.t 23), none⟩,
                ⟨(some 25), .load 1 false (.t 24), none⟩,
                ⟨(some 26), .mv (.t 7), none⟩,
                ⟨(some 27), .ia 1 (.t 25) (.t 26), none⟩,
                ⟨(some 28), .load 1 false (.t 27), none⟩] [0, 6, 18, 19, 28]) (
              .cond (.t 28) (
               .seq (
                .ops [
                  ⟨(some 4), .mv (.k (.nil)), none⟩,
                  ⟨(some 5), .mv (.k (.d (.lit (.int .i64 10)))), none⟩] [4, 5]) (
                .ret)) (
               .skip))))) (
           .ops [
             ⟨(some 29), .bin .add (.t 19) (.k (.d (.lit (.int .i64 1)))), none⟩,
             ⟨(some 19), .mv (.t 29), none⟩] [0, 6, 18, 19]))))))) (
     .seq (
      .ops [
        ⟨(some 8), .nilo 31 2, none⟩] [0, 6, 8]) (
      .seq (
       .seq (
        .ops [
          ⟨(some 30), .mv (.t 0), none⟩,
          ⟨(some 31), .mv (.k (.d (.lit (.int .i64 0)))), none⟩] [0, 6, 8, 30, 31]) (
        .block 2 (
         .loop (
          .seq (
           .ops [
             ⟨(some 32), .bin .lss (.t 31) (.t 30), none⟩] [0, 6, 8, 30, 31, 32]) (
           .seq (
            .cond (.t 32) (
             .skip) (
             .exit 2)) (
            .seq (
             .block 3 (
              .seq (
               .ops [
                 ⟨(some 33), .mv (.t 31), none⟩,
                 ⟨(some 9), .mv (.t 33), none⟩] [0, 6, 8, 9, 30, 31]) (
               .seq (
                .ops [
                  ⟨(some 34), .mv (.t 0), none⟩,
                  ⟨(some 35), .mv (.k (.d (.lit (.int .i64 0)))), none⟩] [0, 6, 8, 9, 30, 31, 34, 35]) (
                .block 4 (
                 .loop (
                  .seq (
                   .ops [
                     ⟨(some 36), .bin .lss (.t 35) (.t 34), none⟩] [0, 6, 8, 9, 30, 31, 34, 35, 36]) (
                   .seq (
                    .cond (.t 36) (
                     .skip) (
                     .exit 4)) (
                    .seq (
                     .block 5 (
                      .seq (
                       .ops [
                         ⟨(some 37), .mv (.t 35), none⟩,
                         ⟨(some 10), .mv (.t 37), none⟩] [0, 6, 8, 9, 10, 30, 31, 34, 35]) (
                       .seq (
                        .ops [
                          ⟨(some 38), .mv (.t 6), none⟩,
                          ⟨(some 39), .mv (.t 9), none⟩,
                          ⟨(some 40), .ia 1 (.t 38) (.t 39), none⟩,
                          ⟨(some 41), .load 1 false (.t 40), none⟩,
                          ⟨(some 42), .mv (.t 10), none⟩,
                          ⟨(some 43), .ia 1 (.t 41) (.t 42), none⟩,
                          ⟨(some 44), .load 1 false (.t 43), none⟩,
                          ⟨(some 45), .mv (.t 44), none⟩,
                          ⟨(some 46), .mv (.t 6), (some (45, true))⟩,
                          ⟨(some 47), .mv (.t 9), (some (45, true))⟩,
                          ⟨(some 48), .mv (.t 10), (some (45, true))⟩,
                          ⟨(some 49), .call 35 [.t 46, .t 47, .t 48], (some (45, true))⟩,
                          ⟨(some 50), .un .not (.t 49), (some (45, true))⟩,
                          ⟨(some 51), .pick (.t 45) (.t 50) (.k (.d (.lit (.bool false)))), none⟩] [0, 6, 8, 9, 10, 30, 31, 34, 35, 51]) (
                        .cond (.t 51) (
                         .ops [
                           ⟨(some 52), .mvo 8, none⟩,
                           ⟨(some 53), .mv (.t 9), none⟩,
                           ⟨(some 54), .mv (.t 10), none⟩,
                           ⟨(some 55), .bld [.d (.lit (.int .i64 0)), .d (.lit (.int .i64 0))] [(0, 1, .t 53), (1, 1, .t 54)], none⟩,
                           ⟨(some 56), .mks 31 2 [.t 55], none⟩,
                           ⟨(some 57), .app 31 2 16 52 (.t 56), none⟩,
                           ⟨(some 8), .mvo 57, none⟩] [0, 6, 8, 9, 30, 31, 34, 35]) (
                         .skip))))) (
                     .ops [
                       ⟨(some 58), .bin .add (.t 35) (.k (.d (.lit (.int .i64 1)))), none⟩,
                       ⟨(some 35), .mv (.t 58), none⟩] [0, 6, 8, 9, 30, 31, 34, 35]))))))))) (
             .ops [
               ⟨(some 59), .bin .add (.t 31) (.k (.d (.lit (.int .i64 1)))), none⟩,
               ⟨(some 31), .mv (.t 59), none⟩] [0, 6, 8, 30, 31]))))))) (
       .seq (
        .ops [
          ⟨(some 60), .mv (.t 8), none⟩,
          ⟨(some 4), .mv (.t 60), none⟩,
          ⟨(some 5), .mv (.k (.d (.lit (.int .i64 0)))), none⟩] [4, 5]) (
        .ret)))))))
def rs21 : List RV := [.t 4 false, .t 5 false]
theorem k21 : okFn G.tab Try.f21 2 c21 rs21 = true := by kernel_rfl
def c31 : Cd :=
 .seq (
  .ops [
    ⟨(some 4), .mv (.k (.nil)), none⟩] [0, 1]) (
  .seq (
   .ops [
     ⟨(some 12), .mv (.t 0), none⟩,
     ⟨(some 13), .mkb 51 24 (.nil) (.t 12), none⟩,
     ⟨(some 5), .mv (.t 13), none⟩] [0, 1, 5]) (
   .seq (
    .seq (
     .ops [
       ⟨(some 14), .mv (.t 5), none⟩,
       ⟨(some 15), .len false (.t 14), none⟩,
       ⟨(some 16), .mv (.k (.d (.lit (.int .i64 0)))), none⟩] [0, 1, 5, 15, 16]) (
     .block 0 (
      .loop (
       .seq (
        .ops [
          ⟨(some 17), .bin .lss (.t 16) (.t 15), none⟩] [0, 1, 5, 15, 16, 17]) (
        .seq (
         .cond (.t 17) (
          .skip) (
          .exit 0)) (
         .seq (
          .block 1 (
           .seq (
            .ops [
              ⟨(some 18), .mv (.t 16), none⟩,
              ⟨(some 6), .mv (.t 18), none⟩] [0, 1, 5, 6, 15, 16]) (
            .ops [
              ⟨(some 19), .mv (.t 5), none⟩,
              ⟨(some 20), .mv (.t 6), none⟩,
              ⟨(some 21), .mv (.t 0), none⟩,
              ⟨(some 22), .mkb 4 1 (.d (.lit (.bool false))) (.t 21), none⟩,
              ⟨(some 23), .ia 1 (.t 19) (.t 20), none⟩,
              ⟨none, .sto 1 (.t 23) (.t 22), none⟩] [0, 1, 5, 15, 16]))) (
          .ops [
            ⟨(some 24), .bin .add (.t 16) (.k (.d (.lit (.int .i64 1)))), none⟩,
            ⟨(some 16), .mv (.t 24), none⟩] [0, 1, 5, 15, 16]))))))) (
    .seq (
     .seq (
      .ops [
        ⟨(some 25), .mv (.t 1), none⟩,
        ⟨(some 26), .len false (.t 25), none⟩,
        ⟨(some 27), .mv (.k (.d (.lit (.int .i64 0)))), none⟩] [0, 5, 25, 26, 27]) (
      .block 2 (
       .loop (
        .seq (
         .ops [
           ⟨(some 28), .bin .lss (.t 27) (.t 26), none⟩] [0, 5, 25, 26, 27, 28]) (
         .seq (
          .cond (.t 28) (
           .skip) (
           .exit 2)) (
          .seq (
           .block 3 (
            .seq (
             .ops [
               ⟨(some 29), .ia 2 (.t 25) (.t 27), none⟩,
               ⟨(some 30), .load 2 true (.t 29), none⟩,
               ⟨(some 8), .new 31 [.d (.lit (.int .i64 0)), .d (.lit (.int .i64 0))], none⟩,
               ⟨none, .sto 2 (.t 8) (.t 30), none⟩] [0, 5, 8, 25, 26, 27]) (
             .drawg [
               (⟨(some 31), .mv (.t 5), none⟩, .free 0),
               (⟨(some 32), .aa 1 2 (.t 8) (.k (.d (.lit (.int .i64 0)))), none⟩, .free 0),
               (⟨(some 33), .load 1 false (.t 32), none⟩, .calm 0 0),
               (⟨(some 34), .ia 1 (.t 31) (.t 33), none⟩, .free 0),
               (⟨(some 35), .load 1 false (.t 34), none⟩, .calm 0 0),
               (⟨(some 36), .aa 1 2 (.t 8) (.k (.d (.lit (.int .i64 1)))), none⟩, .free 0),
               (⟨(some 37), .load 1 false (.t 36), none⟩, .calm 0 0),
               (⟨(some 38), .ia 1 (.t 35) (.t 37), none⟩, .free 0),
               (⟨none, .sto 1 (.t 38) (.k (.d (.lit (.bool true)))), none⟩, .act)] [0, 5, 25, 26, 27]))) (
           .ops [
             ⟨(some 39), .bin .add (.t 27) (.k (.d (.lit (.int .i64 1)))), none⟩,
             ⟨(some 27), .mv (.t 39), none⟩] [0, 5, 25, 26, 27]))))))) (
     .seq (
      .seq (
       .ops [
         ⟨(some 40), .mv (.t 0), none⟩,
         ⟨(some 41), .mv (.k (.d (.lit (.int .i64 0)))), none⟩] [0, 5, 40, 41]) (
       .block 4 (
        .loop (
         .seq (
          .ops [
            ⟨(some 42), .bin .lss (.t 41) (.t 40), none⟩] [0, 5, 40, 41, 42]) (
          .seq (
           .cond (.t 42) (
            .skip) (
            .exit 4)) (
           .seq (
            .block 5 (
             .seq (
              .ops [
                ⟨(some 43), .mv (.t 41), none⟩,
                ⟨(some 9), .mv (.t 43), none⟩] [0, 5, 9, 40, 41]) (
              .seq (
               .ops [
                 ⟨(some 44), .mv (.t 0), none⟩,
                 ⟨(some 45), .mv (.k (.d (.lit (.int .i64 0)))), none⟩] [0, 5, 9, 40, 41, 44, 45]) (
               .block 6 (
                .loop (
                 .seq (
                  .ops [
                    ⟨(some 46), .bin .lss (.t 45) (.t 44), none⟩] [0, 5, 9, 40, 41, 44, 45, 46]) (
                  .seq (
                   .cond (.t 46) (
                    .skip) (
                    .exit 6)) (
                   .seq (
                    .block 7 (
                     .seq (
                      .ops [
                        ⟨(some 47), .mv (.t 45), none⟩,
                        ⟨(some 10), .mv (.t 47), none⟩] [0, 5, 9, 10, 40, 41, 44, 45]) (
                      .seq (
                       .ops [
                         ⟨(some 48), .mv (.t 0), none⟩,
                         ⟨(some 49), .mv (.k (.d (.lit (.int .i64 0)))), none⟩] [0, 5, 9, 10, 40, 41, 44, 45, 48, 49]) (
                       .block 8 (
                        .loop (
                         .seq (
                          .ops [
                            ⟨(some 50), .bin .lss (.t 49) (.t 48), none⟩] [0, 5, 9, 10, 40, 41, 44, 45, 48, 49, 50]) (
                          .seq (
                           .cond (.t 50) (
                            .skip) (
                            .exit 8)) (
                           .seq (
                            .block 9 (
                             .seq (
                              .ops [
                                ⟨(some 51), .mv (.t 49), none⟩,
                                ⟨(some 11), .mv (.t 51), none⟩] [0, 5, 9, 10, 11, 40, 41, 44, 45, 48, 49]) (
                              .drawg [
                                (⟨(some 52), .mv (.t 5), none⟩, .free 0),
                                (⟨(some 53), .mv (.t 10), none⟩, .free 0),
                                (⟨(some 54), .ia 1 (.t 52) (.t 53), none⟩, .free 0),
                                (⟨(some 55), .load 1 false (.t 54), none⟩, .calm 0 0),
                                (⟨(some 56), .mv (.t 11), none⟩, .free 0),
                                (⟨(some 57), .mv (.t 5), none⟩, .free 0),
                                (⟨(some 58), .mv (.t 10), none⟩, .free 0),
                                (⟨(some 59), .ia 1 (.t 57) (.t 58), none⟩, .free 0),
                                (⟨(some 60), .load 1 false (.t 59), none⟩, .calm 0 0),
                                (⟨(some 61), .mv (.t 11), none⟩, .free 0),
                                (⟨(some 62), .ia 1 (.t 60) (.t 61), none⟩, .free 0),
                                (⟨(some 63), .load 1 false (.t 62), none⟩, .calm 0 0),
                                (⟨(some 64), .mv (.t 63), none⟩, .free 0),
                                (⟨(some 65), .mv (.t 5), (some (64, false))⟩, .free 0),
                                (⟨(some 66), .mv (.t 10), (some (64, false))⟩, .free 0),
                                (⟨(some 67), .ia 1 (.t 65) (.t 66), (some (64, false))⟩, .free 0),
                                (⟨(some 68), .load 1 false (.t 67), (some (64, false))⟩, .calm 0 0),
                                (⟨(some 69), .mv (.t 9), (some (64, false))⟩, .free 0),
                                (⟨(some 70), .ia 1 (.t 68) (.t 69), (some (64, false))⟩, .free 0),
                                (⟨(some 71), .load 1 false (.t 70), (some (64, false))⟩, .calm 0 0),
                                (⟨(some 72), .mv (.t 71), (some (64, false))⟩, .free 0),
                                (⟨(some 73), .mv (.t 5), (some (72, true))⟩, .free 0),
                                (⟨(some 74), .mv (.t 9), (some (72, true))⟩, .free 0),
                                (⟨(some 75), .ia 1 (.t 73) (.t 74), (some (72, true))⟩, .free 0),
                                (⟨(some 76), .load 1 false (.t 75), (some (72, true))⟩, .calm 0 0),
                                (⟨(some 77), .mv (.t 11), (some (72, true))⟩, .free 0),
                                (⟨(some 78), .ia 1 (.t 76) (.t 77), (some (72, true))⟩, .free 0),
                                (⟨(some 79), .load 1 false (.t 78), (some (72, true))⟩, .calm 0 0),
                                (⟨(some 80), .pick (.t 72) (.t 79) (.k (.d (.lit (.bool false)))), (some (64, false))⟩, .free 0),
                                (⟨(some 81), .pick (.t 64) (.k (.d (.lit (.bool true)))) (.t 80), none⟩, .free 0),
                                (⟨(some 82), .ia 1 (.t 55) (.t 56), none⟩, .free 0),
                                (⟨none, .sto 1 (.t 82) (.t 81), none⟩, .act)] [0, 5, 9, 10, 40, 41, 44, 45, 48, 49]))) (
                            .ops [
                              ⟨(some 83), .bin .add (.t 49) (.k (.d (.lit (.int .i64 1)))), none⟩,
                              ⟨(some 49), .mv (.t 83), none⟩] [0, 5, 9, 10, 40, 41, 44, 45, 48, 49]))))))))) (
                    .ops [
                      ⟨(some 84), .bin .add (.t 45) (.k (.d (.lit (.int .i64 1)))), none⟩,
                      ⟨(some 45), .mv (.t 84), none⟩] [0, 5, 9, 40, 41, 44, 45]))))))))) (
            .ops [
              ⟨(some 85), .bin .add (.t 41) (.k (.d (.lit (.int .i64 1)))), none⟩,
              ⟨(some 41), .mv (.t 85), none⟩] [0, 5, 40, 41]))))))) (
      .seq (
       .ops [
         ⟨(some 86), .mv (.t 5), none⟩,
         ⟨(some 4), .mv (.t 86), none⟩] [4]) (
       .ret))))))
def rs31 : List RV := [.t 4 false]
theorem k31 : okFn G.tab Try.f31 2 c31 rs31 = true := by kernel_rfl
def c32 : Cd :=
 .seq (
  .ops [
    ⟨(some 6), .mv (.k (.nil)), none⟩] [0, 1, 2]) (
  .seq (
   .ops [
     ⟨(some 16), .mks 3 1 [.k (.d (.lit (.int .i64 (-1))))], none⟩,
     ⟨(some 17), .mv (.t 0), none⟩,
     ⟨(some 18), .call 42 [.t 16, .t 17], none⟩,
     ⟨(some 7), .mv (.t 18), none⟩] [1, 2, 7]) (
   .seq (
    .ops [
      ⟨(some 19), .mv (.t 7), none⟩,
      ⟨(some 20), .mv (.t 2), none⟩,
      ⟨(some 21), .ia 1 (.t 19) (.t 20), none⟩,
      ⟨none, .sto 1 (.t 21) (.k (.d (.lit (.int .i64 0)))), none⟩] [1, 2, 7]) (
    .seq (
     .ops [
       ⟨(some 22), .mv (.t 2), none⟩,
       ⟨(some 23), .mks 3 1 [.t 22], none⟩,
       ⟨(some 8), .mv (.t 23), none⟩] [1, 7, 8]) (
     .seq (
      .ops [
        ⟨(some 24), .mv (.t 1), none⟩,
        ⟨(some 25), .call 23 [.t 24], none⟩,
        ⟨(some 9), .mv (.t 25), none⟩] [7, 8, 9]) (
      .seq (
       .seq (
        .ops [
          ⟨(some 10), .mv (.k (.d (.lit (.int .i64 1)))), none⟩] [7, 8, 9, 10]) (
        .block 0 (
         .loop (
          .seq (
           .seq (
            .ops [
              ⟨(some 26), .mv (.t 8), none⟩,
              ⟨(some 27), .len false (.t 26), none⟩,
              ⟨(some 28), .bin .gtr (.t 27) (.k (.d (.lit (.int .i64 0)))), none⟩] [7, 8, 9, 10, 28]) (
            .cond (.t 28) (
             .skip) (
             .exit 0))) (
           .seq (
            .block 1 (
             .seq (
              .ops [
                ⟨(some 11), .nilo 3 1, none⟩] [7, 8, 9, 10, 11]) (
              .seq (
               .seq (
                .ops [
                  ⟨(some 31), .mv (.t 8), none⟩,
                  ⟨(some 32), .len false (.t 31), none⟩,
                  ⟨(some 33), .mv (.k (.d (.lit (.int .i64 0)))), none⟩] [7, 9, 10, 11, 31, 32, 33]) (
                .block 2 (
                 .loop (
                  .seq (
                   .ops [
                     ⟨(some 34), .bin .lss (.t 33) (.t 32), none⟩] [7, 9, 10, 11, 31, 32, 33, 34]) (
                   .seq (
                    .cond (.t 34) (
                     .skip) (
                     .exit 2)) (
                    .seq (
                     .block 3 (
                      .seq (
                       .ops [
                         ⟨(some 35), .ia 1 (.t 31) (.t 33), none⟩,
                         ⟨(some 36), .load 1 false (.t 35), none⟩,
                         ⟨(some 13), .mv (.t 36), none⟩] [7, 9, 10, 11, 13, 31, 32, 33]) (
                       .seq (
                        .ops [
                          ⟨(some 37), .mv (.t 9), none⟩,
                          ⟨(some 38), .mv (.t 13), none⟩,
                          ⟨(some 39), .mlk false false (.nil) (.t 37) (.t 38), none⟩,
                          ⟨(some 40), .len false (.t 39), none⟩,
                          ⟨(some 41), .mv (.k (.d (.lit (.int .i64 0)))), none⟩] [7, 9, 10, 11, 31, 32, 33, 39, 40, 41]) (
                        .block 4 (
                         .loop (
                          .seq (
                           .ops [
                             ⟨(some 42), .bin .lss (.t 41) (.t 40), none⟩] [7, 9, 10, 11, 31, 32, 33, 39, 40, 41, 42]) (
                           .seq (
                            .cond (.t 42) (
                             .skip) (
                             .exit 4)) (
                            .seq (
                             .block 5 (
                              .seq (
                               .ops [
                                 ⟨(some 43), .ia 1 (.t 39) (.t 41), none⟩,
                                 ⟨(some 44), .load 1 false (.t 43), none⟩,
                                 ⟨(some 15), .mv (.t 44), none⟩] [7, 9, 10, 11, 15, 31, 32, 33, 39, 40, 41]) (
                               .seq (
                                .ops [
                                  ⟨(some 45), .mv (.t 7), none⟩,
                                  ⟨(some 46), .mv (.t 15), none⟩,
                                  ⟨(some 47), .ia 1 (.t 45) (.t 46), none⟩,
                                  ⟨(some 48), .load 1 false (.t 47), none⟩,
                                  ⟨(some 49), .bin .lss (.t 48) (.k (.d (.lit (.int .i64 0)))), none⟩] [7, 9, 10, 11, 15, 31, 32, 33, 39, 40, 41, 49]) (
                                .cond (.t 49) (
                                 .seq (
                                  .ops [
                                    ⟨(some 50), .mv (.t 7), none⟩,
                                    ⟨(some 51), .mv (.t 15), none⟩,
                                    ⟨(some 52), .mv (.t 10), none⟩,
                                    ⟨(some 53), .ia 1 (.t 50) (.t 51), none⟩,
                                    ⟨none, .sto 1 (.t 53) (.t 52), none⟩] [7, 9, 10, 11, 15, 31, 32, 33, 39, 40, 41]) (
                                  .ops [
                                    ⟨(some 54), .mvo 11, none⟩,
                                    ⟨(some 55), .mv (.t 15), none⟩,
                                    ⟨(some 56), .mks 3 1 [.t 55], none⟩,
                                    ⟨(some 57), .app 3 1 8 54 (.t 56), none⟩,
                                    ⟨(some 11), .mvo 57, none⟩] [7, 9, 10, 11, 31, 32, 33, 39, 40, 41])) (
                                 .skip))))) (
                             .ops [
                               ⟨(some 58), .bin .add (.t 41) (.k (.d (.lit (.int .i64 1)))), none⟩,
                               ⟨(some 41), .mv (.t 58), none⟩] [7, 9, 10, 11, 31, 32, 33, 39, 40, 41]))))))))) (
                     .ops [
                       ⟨(some 59), .bin .add (.t 33) (.k (.d (.lit (.int .i64 1)))), none⟩,
                       ⟨(some 33), .mv (.t 59), none⟩] [7, 9, 10, 11, 31, 32, 33]))))))) (
               .ops [
                 ⟨(some 60), .mv (.t 11), none⟩,
                 ⟨(some 8), .mv (.t 60), none⟩] [7, 8, 9, 10])))) (
            .ops [
              ⟨(some 29), .mv (.t 10), none⟩,
              ⟨(some 30), .bin .add (.t 29) (.k (.d (.lit (.int .i64 1)))), none⟩,
              ⟨(some 10), .mv (.t 30), none⟩] [7, 8, 9, 10])))))) (
       .seq (
        .ops [
          ⟨(some 61), .mv (.t 7), none⟩,
          ⟨(some 6), .mv (.t 61), none⟩] [6]) (
        .ret)))))))
def rs32 : List RV := [.t 6 false]
theorem k32 : okFn G.tab Try.f32 3 c32 rs32 = true := by kernel_rfl
def c35 : Cd :=
 .seq (
  .ops [
    ⟨(some 6), .mv (.k (.d (.lit (.bool false)))), none⟩] [0, 1, 2]) (
  .seq (
   .seq (
    .ops [
      ⟨(some 8), .mv (.t 0), none⟩,
      ⟨(some 9), .len false (.t 8), none⟩,
      ⟨(some 10), .mv (.k (.d (.lit (.int .i64 0)))), none⟩] [0, 1, 2, 9, 10]) (
    .block 0 (
     .loop (
      .seq (
       .ops [
         ⟨(some 11), .bin .lss (.t 10) (.t 9), none⟩] [0, 1, 2, 9, 10, 11]) (
       .seq (
        .cond (.t 11) (
         .skip) (
         .exit 0)) (
        .seq (
         .block 1 (
          .seq (
           .ops [
             ⟨(some 12), .mv (.t 10), none⟩,
             ⟨(some 7), .mv (.t 12), none⟩] [0, 1, 2, 7, 9, 10]) (
           .seq (
            .ops [
              ⟨(some 13), .mv (.t 0), none⟩,
              ⟨(some 14), .mv (.t 1), none⟩,
              ⟨(some 15), .ia 1 (.t 13) (.t 14), none⟩,
              ⟨(some 16), .load 1 false (.t 15), none⟩,
              ⟨(some 17), .mv (.t 7), none⟩,
              ⟨(some 18), .ia 1 (.t 16) (.t 17), none⟩,
              ⟨(some 19), .load 1 false (.t 18), none⟩,
              ⟨(some 20), .mv (.t 19), none⟩,
              ⟨(some 21), .mv (.t 0), (some (20, true))⟩,
              ⟨(some 22), .mv (.t 7), (some (20, true))⟩,
              ⟨(some 23), .ia 1 (.t 21) (.t 22), (some (20, true))⟩,
              ⟨(some 24), .load 1 false (.t 23), (some (20, true))⟩,
              ⟨(some 25), .mv (.t 2), (some (20, true))⟩,
              ⟨(some 26), .ia 1 (.t 24) (.t 25), (some (20, true))⟩,
              ⟨(some 27), .load 1 false (.t 26), (some (20, true))⟩,
              ⟨(some 28), .pick (.t 20) (.t 27) (.k (.d (.lit (.bool false)))), none⟩] [0, 1, 2, 9, 10, 28]) (
            .cond (.t 28) (
             .seq (
              .ops [
                ⟨(some 6), .mv (.k (.d (.lit (.bool true)))), none⟩] [6]) (
              .ret)) (
             .skip))))) (
         .ops [
           ⟨(some 29), .bin .add (.t 10) (.k (.d (.lit (.int .i64 1)))), none⟩,
           ⟨(some 10), .mv (.t 29), none⟩] [0, 1, 2, 9, 10]))))))) (
   .seq (
    .ops [
      ⟨(some 6), .mv (.k (.d (.lit (.bool false)))), none⟩] [6]) (
    .ret)))
def rs35 : List RV := [.t 6 false]
theorem k35 : okFn G.tab Try.f35 3 c35 rs35 = true := by kernel_rfl
def c23 : Cd :=
 .seq (
  .ops [
    ⟨(some 2), .mv (.k (.d (.lit (.map none)))), none⟩] [0]) (
  .seq (
   .ops [
     ⟨(some 6), .mmk false, none⟩,
     ⟨(some 3), .mv (.t 6), none⟩] [0, 3]) (
   .seq (
    .seq (
     .ops [
       ⟨(some 7), .mv (.t 0), none⟩,
       ⟨(some 8), .len false (.t 7), none⟩,
       ⟨(some 9), .mv (.k (.d (.lit (.int .i64 0)))), none⟩] [3, 7, 8, 9]) (
     .block 0 (
      .loop (
       .seq (
        .ops [
          ⟨(some 10), .bin .lss (.t 9) (.t 8), none⟩] [3, 7, 8, 9, 10]) (
        .seq (
         .cond (.t 10) (
          .skip) (
          .exit 0)) (
         .seq (
          .block 1 (
           .seq (
            .ops [
              ⟨(some 11), .ia 2 (.t 7) (.t 9), none⟩,
              ⟨(some 12), .load 2 true (.t 11), none⟩,
              ⟨(some 5), .new 31 [.d (.lit (.int .i64 0)), .d (.lit (.int .i64 0))], none⟩,
              ⟨none, .sto 2 (.t 5) (.t 12), none⟩] [3, 5, 7, 8, 9]) (
            .seq (
             .ops [
               ⟨(some 13), .mv (.t 3), none⟩,
               ⟨(some 14), .aa 1 2 (.t 5) (.k (.d (.lit (.int .i64 1)))), none⟩,
               ⟨(some 15), .load 1 false (.t 14), none⟩,
               ⟨(some 16), .mlk false false (.nil) (.t 13) (.t 15), none⟩,
               ⟨(some 17), .aa 1 2 (.t 5) (.k (.d (.lit (.int .i64 0)))), none⟩,
               ⟨(some 18), .load 1 false (.t 17), none⟩,
               ⟨(some 19), .call 29 [.t 16, .t 18], none⟩,
               ⟨(some 20), .un .not (.t 19), none⟩] [3, 5, 7, 8, 9, 20]) (
             .cond (.t 20) (
              .drawv ⟨31, 3, 8, (.d (.lit (.int .i64 0))), 27, (.t 30), false, (.t 21), (.t 23), (.t 31)⟩ [
                ⟨(some 21), .mv (.t 3), none⟩,
                ⟨(some 22), .aa 1 2 (.t 5) (.k (.d (.lit (.int .i64 1)))), none⟩,
                ⟨(some 23), .load 1 false (.t 22), none⟩,
                ⟨(some 24), .mv (.t 3), none⟩,
                ⟨(some 25), .aa 1 2 (.t 5) (.k (.d (.lit (.int .i64 1)))), none⟩,
                ⟨(some 26), .load 1 false (.t 25), none⟩,
                ⟨(some 27), .mlk false false (.nil) (.t 24) (.t 26), none⟩,
                ⟨(some 28), .aa 1 2 (.t 5) (.k (.d (.lit (.int .i64 0)))), none⟩,
                ⟨(some 29), .load 1 false (.t 28), none⟩,
                ⟨(some 30), .mks 3 1 [.t 29], none⟩] [3, 7, 8, 9]) (
              .skip))))) (
          .ops [
            ⟨(some 32), .bin .add (.t 9) (.k (.d (.lit (.int .i64 1)))), none⟩,
            ⟨(some 9), .mv (.t 32), none⟩] [3, 7, 8, 9]))))))) (
    .seq (
     .ops [
       ⟨(some 33), .mv (.t 3), none⟩,
       ⟨(some 2), .mv (.t 33), none⟩] [2]) (
     .ret))))
def rs23 : List RV := [.t 2 false]
theorem k23 : okFn G.tab Try.f23 1 c23 rs23 = true := by kernel_rfl
def c28 : Cd :=
 .seq (
  .ops [
    ⟨(some 3), .mv (.k (.d (.lit (.bool false)))), none⟩] [0, 1]) (
  .seq (
   .ops [
     ⟨(some 4), .load 1 false (.t 1), none⟩,
     ⟨(some 5), .mv (.t 0), none⟩,
     ⟨(some 6), .call 29 [.t 4, .t 5], none⟩,
     ⟨(some 3), .mv (.t 6), none⟩] [3]) (
   .ret))
def rs28 : List RV := [.t 3 false]
theorem k28 : okFn G.tab Try.f28 2 c28 rs28 = true := by kernel_rfl
def c27 : Cd :=
 .seq (
  .ops [
    ⟨(some 4), .mv (.k (.nil)), none⟩] [0, 1]) (
  .seq (
   .ops [
     ⟨(some 8), .mv (.t 0), none⟩,
     ⟨(some 9), .mv (.t 1), none⟩,
     ⟨(some 10), .call 39 [.t 8, .t 9], none⟩,
     ⟨(some 5), .mv (.t 10), none⟩] [0, 1, 5]) (
   .seq (
    .seq (
     .ops [
       ⟨(some 11), .mv (.t 5), none⟩,
       ⟨(some 12), .bin .eql (.t 11) (.k (.d (.lit (.int .i64 (-1))))), none⟩] [0, 1, 5, 12]) (
     .cond (.t 12) (
      .seq (
       .ops [
         ⟨(some 13), .mv (.t 0), none⟩,
         ⟨(some 4), .mv (.t 13), none⟩] [4]) (
       .ret)) (
      .skip))) (
    .seq (
     .seq (
      .ops [
        ⟨(some 14), .mv (.t 5), none⟩,
        ⟨(some 15), .bin .add (.t 14) (.k (.d (.lit (.int .i64 1)))), none⟩,
        ⟨(some 6), .mv (.t 15), none⟩] [0, 1, 5, 6]) (
      .block 0 (
       .loop (
        .seq (
         .seq (
          .ops [
            ⟨(some 16), .mv (.t 6), none⟩,
            ⟨(some 17), .mv (.t 0), none⟩,
            ⟨(some 18), .len false (.t 17), none⟩,
            ⟨(some 19), .bin .lss (.t 16) (.t 18), none⟩] [0, 1, 5, 6, 19]) (
          .cond (.t 19) (
           .skip) (
           .exit 0))) (
         .seq (
          .block 1 (
           .seq (
            .ops [
              ⟨(some 22), .mv (.t 0), none⟩,
              ⟨(some 23), .mv (.t 6), none⟩,
              ⟨(some 24), .ia 1 (.t 22) (.t 23), none⟩,
              ⟨(some 25), .load 1 false (.t 24), none⟩,
              ⟨(some 7), .mv (.t 25), none⟩] [0, 1, 5, 6, 7]) (
            .seq (
             .ops [
               ⟨(some 26), .mv (.t 1), none⟩,
               ⟨(some 27), .mv (.t 7), none⟩,
               ⟨(some 28), .callv (.t 26) [.t 27], none⟩,
               ⟨(some 29), .un .not (.t 28), none⟩] [0, 1, 5, 6, 7, 29]) (
             .cond (.t 29) (
              .seq (
               .ops [
                 ⟨(some 30), .mv (.t 0), none⟩,
                 ⟨(some 31), .mv (.t 5), none⟩,
                 ⟨(some 32), .mv (.t 7), none⟩,
                 ⟨(some 33), .ia 1 (.t 30) (.t 31), none⟩,
                 ⟨none, .sto 1 (.t 33) (.t 32), none⟩] [0, 1, 5, 6]) (
               .ops [
                 ⟨(some 34), .mv (.t 5), none⟩,
                 ⟨(some 35), .bin .add (.t 34) (.k (.d (.lit (.int .i64 1)))), none⟩,
                 ⟨(some 5), .mv (.t 35), none⟩] [0, 1, 5, 6])) (
              .skip))))) (
          .ops [
            ⟨(some 20), .mv (.t 6), none⟩,
            ⟨(some 21), .bin .add (.t 20) (.k (.d (.lit (.int .i64 1)))), none⟩,
            ⟨(some 6), .mv (.t 21), none⟩] [0, 1, 5, 6])))))) (
     .seq (
      .ops [
        ⟨(some 36), .mv (.t 0), none⟩,
        ⟨(some 37), .mv (.t 5), none⟩,
        ⟨(some 38), .sub false 1 (.t 36) (some (.t 37)) none, none⟩,
        ⟨none, .clr (.d (.lit (.int .i64 0))) (.t 38), none⟩] [0, 5]) (
      .seq (
       .ops [
         ⟨(some 39), .mv (.t 0), none⟩,
         ⟨(some 40), .mv (.t 5), none⟩,
         ⟨(some 41), .sub false 1 (.t 39) none (some (.t 40)), none⟩,
         ⟨(some 4), .mv (.t 41), none⟩] [4]) (
       .ret))))))
def rs27 : List RV := [.t 4 false]
theorem k27 : okFn G.tab Try.f27 2 c27 rs27 = true := by kernel_rfl
def c29 : Cd :=
 .seq (
  .ops [
    ⟨(some 4), .mv (.k (.d (.lit (.bool false)))), none⟩] [0, 1]) (
  .seq (
   .ops [
     ⟨(some 5), .mv (.t 0), none⟩,
     ⟨(some 6), .mv (.t 1), none⟩,
     ⟨(some 7), .call 40 [.t 5, .t 6], none⟩,
     ⟨(some 8), .bin .geq (.t 7) (.k (.d (.lit (.int .i64 0)))), none⟩,
     ⟨(some 4), .mv (.t 8), none⟩] [4]) (
   .ret))
def rs29 : List RV := [.t 4 false]
theorem k29 : okFn G.tab Try.f29 2 c29 rs29 = true := by kernel_rfl
def c40 : Cd :=
 .seq (
  .ops [
    ⟨(some 4), .mv (.k (.d (.lit (.int .i64 0)))), none⟩] [0, 1]) (
  .seq (
   .seq (
    .ops [
      ⟨(some 6), .mv (.t 0), none⟩,
      ⟨(some 7), .len false (.t 6), none⟩,
      ⟨(some 8), .mv (.k (.d (.lit (.int .i64 0)))), none⟩] [0, 1, 7, 8]) (
    .block 0 (
     .loop (
      .seq (
       .ops [
         ⟨(some 9), .bin .lss (.t 8) (.t 7), none⟩] [0, 1, 7, 8, 9]) (
       .seq (
        .cond (.t 9) (
         .skip) (
         .exit 0)) (
        .seq (
         .block 1 (
          .seq (
           .ops [
             ⟨(some 10), .mv (.t 8), none⟩,
             ⟨(some 5), .mv (.t 10), none⟩] [0, 1, 5, 7, 8]) (
           .seq (
            .ops [
              ⟨(some 11), .mv (.t 1), none⟩,
              ⟨(some 12), .mv (.t 0), none⟩,
              ⟨(some 13), .mv (.t 5), none⟩,
              ⟨(some 14), .ia 1 (.t 12) (.t 13), none⟩,
              ⟨(some 15), .load 1 false (.t 14), none⟩,
              ⟨(some 16), .bin .eql (.t 11) (.t 15), none⟩] [0, 1, 5, 7, 8, 16]) (
            .cond (.t 16) (
             .seq (
              .ops [
                ⟨(some 17), .mv (.t 5), none⟩,
                ⟨(some 4), .mv (.t 17), none⟩] [4]) (
              .ret)) (
             .skip))))) (
         .ops [
           ⟨(some 18), .bin .add (.t 8) (.k (.d (.lit (.int .i64 1)))), none⟩,
           ⟨(some 8), .mv (.t 18), none⟩] [0, 1, 7, 8]))))))) (
   .seq (
    .ops [
      ⟨(some 4), .mv (.k (.d (.lit (.int .i64 (-1))))), none⟩] [4]) (
    .ret)))
def rs40 : List RV := [.t 4 false]
theorem k40 : okFn G.tab Try.f40 2 c40 rs40 = true := by kernel_rfl
def c39 : Cd :=
 .seq (
  .ops [
    ⟨(some 4), .mv (.k (.d (.lit (.int .i64 0)))), none⟩] [0, 1]) (
  .seq (
   .seq (
    .ops [
      ⟨(some 6), .mv (.t 0), none⟩,
      ⟨(some 7), .len false (.t 6), none⟩,
      ⟨(some 8), .mv (.k (.d (.lit (.int .i64 0)))), none⟩] [0, 1, 7, 8]) (
    .block 0 (
     .loop (
      .seq (
       .ops [
         ⟨(some 9), .bin .lss (.t 8) (.t 7), none⟩] [0, 1, 7, 8, 9]) (
       .seq (
        .cond (.t 9) (
         .skip) (
         .exit 0)) (
        .seq (
         .block 1 (
          .seq (
           .ops [
             ⟨(some 10), .mv (.t 8), none⟩,
             ⟨(some 5), .mv (.t 10), none⟩] [0, 1, 5, 7, 8]) (
           .seq (
            .ops [
              ⟨(some 11), .mv (.t 1), none⟩,
              ⟨(some 12), .mv (.t 0), none⟩,
              ⟨(some 13), .mv (.t 5), none⟩,
              ⟨(some 14), .ia 1 (.t 12) (.t 13), none⟩,
              ⟨(some 15), .load 1 false (.t 14), none⟩,
              ⟨(some 16), .callv (.t 11) [.t 15], none⟩] [0, 1, 5, 7, 8, 16]) (
            .cond (.t 16) (
             .seq (
              .ops [
                ⟨(some 17), .mv (.t 5), none⟩,
                ⟨(some 4), .mv (.t 17), none⟩] [4]) (
              .ret)) (
             .skip))))) (
         .ops [
           ⟨(some 18), .bin .add (.t 8) (.k (.d (.lit (.int .i64 1)))), none⟩,
           ⟨(some 8), .mv (.t 18), none⟩] [0, 1, 7, 8]))))))) (
   .seq (
    .ops [
      ⟨(some 4), .mv (.k (.d (.lit (.int .i64 (-1))))), none⟩] [4]) (
    .ret)))
def rs39 : List RV := [.t 4 false]
theorem k39 : okFn G.tab Try.f39 2 c39 rs39 = true := by kernel_rfl
def c42 : Cd :=
 .seq (
  .ops [
    ⟨(some 4), .mv (.k (.nil)), none⟩] [0, 1]) (
  .seq (
   .seq (
    .ops [
      ⟨(some 9), .mv (.t 1), none⟩,
      ⟨(some 10), .bin .lss (.t 9) (.k (.d (.lit (.int .i64 0)))), none⟩] [0, 1, 10]) (
    .cond (.t 10) (
     .ops [
       ⟨(some 11), .mki 9 (.k (.d (.lit (.string ⟨#[99, 97, 110, 110, 111, 116, 32, 98, 101, 32, 110, 101, 103, 97, 116, 105, 118, 101]⟩)))), none⟩,
       ⟨none, .pan (.t 11), none⟩] [0, 1]) (
     .skip))) (
   .seq (
    .ops [
      ⟨(some 13), .mv (.t 0), none⟩,
      ⟨(some 14), .len false (.t 13), none⟩,
      ⟨(some 15), .conv .u64 (.t 14), none⟩,
      ⟨(some 16), .mv (.t 1), none⟩,
      ⟨(some 17), .conv .u64 (.t 16), none⟩,
      ⟨(some 18), .call 46 [.t 15, .t 17], none⟩,
      ⟨(some 12), .mv (.t 18), none⟩,
      ⟨(some 19), .ext (.t 12) 0, none⟩,
      ⟨(some 20), .ext (.t 12) 1, none⟩,
      ⟨(some 5), .mv (.t 19), none⟩,
      ⟨(some 6), .mv (.t 20), none⟩] [0, 5, 6]) (
    .seq (
     .seq (
      .ops [
        ⟨(some 21), .mv (.t 5), none⟩,
        ⟨(some 22), .bin .gtr (.t 21) (.k (.d (.lit (.int .u64 0)))), none⟩,
        ⟨(some 23), .mv (.t 22), none⟩,
        ⟨(some 24), .mv (.t 6), (some (23, false))⟩,
        ⟨(some 25), .bin .gtr (.t 24) (.k (.d (.lit (.int .u64 9223372036854775807)))), (some (23, false))⟩,
        ⟨(some 26), .pick (.t 23) (.k (.d (.lit (.bool true)))) (.t 25), none⟩] [0, 6, 26]) (
      .cond (.t 26) (
       .ops [
         ⟨(some 27), .mki 9 (.k (.d (.lit (.string ⟨#[116, 104, 101, 32, 114, 101, 115, 117, 108, 116, 32, 111, 102, 32, 40, 108, 101, 110, 40, 120, 41, 32, 42, 32, 99, 111, 117, 110, 116, 41, 32, 111, 118, 101, 114, 102, 108, 111, 119, 115]⟩)))), none⟩,
         ⟨none, .pan (.t 27), none⟩] [0, 6]) (
       .skip))) (
     .seq (
      .ops [
        ⟨(some 28), .mv (.t 6), none⟩,
        ⟨(some 29), .conv .i64 (.t 28), none⟩,
        ⟨(some 30), .mkb 3 8 (.d (.lit (.int .i64 0))) (.t 29), none⟩,
        ⟨(some 7), .mv (.t 30), none⟩] [0, 7]) (
      .seq (
       .ops [
         ⟨(some 31), .mv (.t 7), none⟩,
         ⟨(some 32), .mv (.t 0), none⟩,
         ⟨(some 33), .cpy (.t 31) (.t 32), none⟩,
         ⟨(some 8), .mv (.t 33), none⟩] [7, 8]) (
       .seq (
        .block 0 (
         .loop (
          .seq (
           .seq (
            .ops [
              ⟨(some 34), .mv (.t 8), none⟩,
              ⟨(some 35), .mv (.t 7), none⟩,
              ⟨(some 36), .len false (.t 35), none⟩,
              ⟨(some 37), .bin .lss (.t 34) (.t 36), none⟩] [7, 8, 37]) (
            .cond (.t 37) (
             .skip) (
             .exit 0))) (
           .block 1 (
            .drawg [
              (⟨(some 38), .mv (.t 8), none⟩, .free 0),
              (⟨(some 39), .mv (.t 7), none⟩, .free 0),
              (⟨(some 40), .mv (.t 8), none⟩, .free 0),
              (⟨(some 41), .sub false 1 (.t 39) (some (.t 40)) none, none⟩, .free 0),
              (⟨(some 42), .mv (.t 7), none⟩, .free 0),
              (⟨(some 43), .mv (.t 8), none⟩, .free 0),
              (⟨(some 44), .sub false 1 (.t 42) none (some (.t 43)), none⟩, .free 0),
              (⟨(some 45), .cpy (.t 41) (.t 44), none⟩, .act),
              (⟨(some 46), .bin .add (.t 38) (.t 45), none⟩, .free 1),
              (⟨(some 8), .mv (.t 46), none⟩, .free 1)] [7, 8]))))) (
        .seq (
         .ops [
           ⟨(some 47), .mv (.t 7), none⟩,
           ⟨(some 4), .mv (.t 47), none⟩] [4]) (
         .ret))))))))
def rs42 : List RV := [.t 4 false]
theorem k42 : okFn G.tab Try.f42 2 c42 rs42 = true := by kernel_rfl
def c25 : Cd :=
 .seq (
  .ops [
    ⟨(some 1), .box 41 (.t 0), none⟩,
    ⟨(some 2), .mv (.k (.d (.lit .nilFunc))), none⟩] [1]) (
  .seq (
   .ops [
     ⟨(some 3), .mkfn 38 [.t 1], none⟩,
     ⟨(some 2), .mv (.t 3), none⟩] [2]) (
   .ret))
def rs25 : List RV := [.t 2 false]
theorem k25 : okFn G.tab Try.f25 1 c25 rs25 = true := by kernel_rfl
def c46 : Cd :=
 .seq (
  .ops [
    ⟨(some 4), .mv (.k (.d (.lit (.int .u64 0)))), none⟩,
    ⟨(some 5), .mv (.k (.d (.lit (.int .u64 0)))), none⟩] [0, 1]) (
  .seq (
   .cond (.k (.d (.lit (.bool false)))) (
    .seq (
     .ops [
       ⟨(some 11), .mv (.t 0), none⟩,
       ⟨(some 12), .conv .u32 (.t 11), none⟩,
       ⟨(some 13), .mv (.t 1), none⟩,
       ⟨(some 14), .conv .u32 (.t 13), none⟩,
       ⟨(some 15), .call 58 [.t 12, .t 14], none⟩,
       ⟨(some 10), .mv (.t 15), none⟩,
       ⟨(some 16), .ext (.t 10) 0, none⟩,
       ⟨(some 17), .ext (.t 10) 1, none⟩,
       ⟨(some 6), .mv (.t 16), none⟩,
       ⟨(some 7), .mv (.t 17), none⟩] [6, 7]) (
     .seq (
      .ops [
        ⟨(some 18), .mv (.t 6), none⟩,
        ⟨(some 19), .conv .u64 (.t 18), none⟩,
        ⟨(some 20), .mv (.t 7), none⟩,
        ⟨(some 21), .conv .u64 (.t 20), none⟩,
        ⟨(some 4), .mv (.t 19), none⟩,
        ⟨(some 5), .mv (.t 21), none⟩] [4, 5]) (
      .ret))) (
    .skip)) (
   .seq (
    .ops [
      ⟨(some 23), .mv (.t 0), none⟩,
      ⟨(some 24), .mv (.t 1), none⟩,
      ⟨(some 25), .call 59 [.t 23, .t 24], none⟩,
      ⟨(some 22), .mv (.t 25), none⟩,
      ⟨(some 26), .ext (.t 22) 0, none⟩,
      ⟨(some 27), .ext (.t 22) 1, none⟩,
      ⟨(some 8), .mv (.t 26), none⟩,
      ⟨(some 9), .mv (.t 27), none⟩] [8, 9]) (
    .seq (
     .ops [
       ⟨(some 28), .mv (.t 8), none⟩,
       ⟨(some 29), .mv (.t 9), none⟩,
       ⟨(some 4), .mv (.t 28), none⟩,
       ⟨(some 5), .mv (.t 29), none⟩] [4, 5]) (
     .ret))))
def rs46 : List RV := [.t 4 false, .t 5 false]
theorem k46 : okFn G.tab Try.f46 2 c46 rs46 = true := by kernel_rfl
def c59 : Cd :=
 .seq (
  .ops [
    ⟨(some 4), .mv (.k (.d (.lit (.int .u64 0)))), none⟩,
    ⟨(some 5), .mv (.k (.d (.lit (.int .u64 0)))), none⟩] [0, 1]) (
  .seq (
   .ops [
     ⟨(some 14), .mv (.t 0), none⟩,
     ⟨(some 15), .bin .and (.t 14) (.k (.d (.lit (.int .u64 4294967295)))), none⟩,
     ⟨(some 6), .mv (.t 15), none⟩] [0, 1, 6]) (
   .seq (
    .ops [
      ⟨(some 16), .mv (.t 0), none⟩,
      ⟨(some 17), .bin .shr (.t 16) (.k (.d (.lit (.int .u64 32)))), none⟩,
      ⟨(some 7), .mv (.t 17), none⟩] [0, 1, 6, 7]) (
    .seq (
     .ops [
       ⟨(some 18), .mv (.t 1), none⟩,
       ⟨(some 19), .bin .and (.t 18) (.k (.d (.lit (.int .u64 4294967295)))), none⟩,
       ⟨(some 8), .mv (.t 19), none⟩] [0, 1, 6, 7, 8]) (
     .seq (
      .ops [
        ⟨(some 20), .mv (.t 1), none⟩,
        ⟨(some 21), .bin .shr (.t 20) (.k (.d (.lit (.int .u64 32)))), none⟩,
        ⟨(some 9), .mv (.t 21), none⟩] [0, 1, 6, 7, 8, 9]) (
      .seq (
       .ops [
         ⟨(some 22), .mv (.t 6), none⟩,
         ⟨(some 23), .mv (.t 8), none⟩,
         ⟨(some 24), .bin .mul (.t 22) (.t 23), none⟩,
         ⟨(some 10), .mv (.t 24), none⟩] [0, 1, 6, 7, 8, 9, 10]) (
       .seq (
        .ops [
          ⟨(some 25), .mv (.t 7), none⟩,
          ⟨(some 26), .mv (.t 8), none⟩,
          ⟨(some 27), .bin .mul (.t 25) (.t 26), none⟩,
          ⟨(some 28), .mv (.t 10), none⟩,
          ⟨(some 29), .bin .shr (.t 28) (.k (.d (.lit (.int .u64 32)))), none⟩,
          ⟨(some 30), .bin .add (.t 27) (.t 29), none⟩,
          ⟨(some 11), .mv (.t 30), none⟩] [0, 1, 6, 7, 9, 11]) (
        .seq (
         .ops [
           ⟨(some 31), .mv (.t 11), none⟩,
           ⟨(some 32), .bin .and (.t 31) (.k (.d (.lit (.int .u64 4294967295)))), none⟩,
           ⟨(some 12), .mv (.t 32), none⟩] [0, 1, 6, 7, 9, 11, 12]) (
         .seq (
          .ops [
            ⟨(some 33), .mv (.t 11), none⟩,
            ⟨(some 34), .bin .shr (.t 33) (.k (.d (.lit (.int .u64 32)))), none⟩,
            ⟨(some 13), .mv (.t 34), none⟩] [0, 1, 6, 7, 9, 12, 13]) (
          .seq (
           .ops [
             ⟨(some 35), .mv (.t 12), none⟩,
             ⟨(some 36), .mv (.t 6), none⟩,
             ⟨(some 37), .mv (.t 9), none⟩,
             ⟨(some 38), .bin .mul (.t 36) (.t 37), none⟩,
             ⟨(some 39), .bin .add (.t 35) (.t 38), none⟩,
             ⟨(some 12), .mv (.t 39), none⟩] [0, 1, 7, 9, 12, 13]) (
           .seq (
            .ops [
              ⟨(some 40), .mv (.t 7), none⟩,
              ⟨(some 41), .mv (.t 9), none⟩,
              ⟨(some 42), .bin .mul (.t 40) (.t 41), none⟩,
              ⟨(some 43), .mv (.t 13), none⟩,
              ⟨(some 44), .bin .add (.t 42) (.t 43), none⟩,
              ⟨(some 45), .mv (.t 12), none⟩,
              ⟨(some 46), .bin .shr (.t 45) (.k (.d (.lit (.int .u64 32)))), none⟩,
              ⟨(some 47), .bin .add (.t 44) (.t 46), none⟩,
              ⟨(some 4), .mv (.t 47), none⟩] [0, 1, 4]) (
            .seq (
             .ops [
               ⟨(some 48), .mv (.t 0), none⟩,
               ⟨(some 49), .mv (.t 1), none⟩,
               ⟨(some 50), .bin .mul (.t 48) (.t 49), none⟩,
               ⟨(some 5), .mv (.t 50), none⟩] [4, 5]) (
             .ret))))))))))))
def rs59 : List RV := [.t 4 false, .t 5 false]
theorem k59 : okFn G.tab Try.f59 2 c59 rs59 = true := by kernel_rfl
end Go.Proofs.Ytinenohgemndiaa
