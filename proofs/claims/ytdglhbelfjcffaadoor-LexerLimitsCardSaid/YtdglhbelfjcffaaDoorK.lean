/-
  Code of functions in the plain world.
-/
import Derived.Test.YtdglhbelfjcffaaDoorProg
import Derived.Test.YtdglhbelfjcffaaDoorA20
import Derived.KernelRfl
import Derived.Lib.ItoaNum
import Derived.Lib.LaidTab
import Derived.Test.YtdglhbelfjcffaaDoorBs
namespace Go.Proofs.YtdglhbelfjcffaaDoor
open Go.RowKit
set_option maxRecDepth 100000
set_option linter.unusedVariables false
set_option linter.unusedSimpArgs false

noncomputable def G : Cx := cxk Tryd.prog (fun g => if g = 0 then some [.sl (kwList.map fun s => [.lit (.string s)])] else if g = 1 then some [.sl (markList.map fun s => [.lit (.string (bs s))])] else none) (fun g => if g = 5 then some (fun cs => cs = (Lib.pow10Tab.map fun z => Value.int .u64 z).toArray) else if g = 4 then some (fun cs => ∃ t x, cs[0]? = some (.iface t x)) else none) (by kernel_rfl)
/-- testbench/testbenchlaw07.LexerTokens -/
def c3 : Cd :=
 .seq (
  .ops [
    ⟨(some 2), .mv (.k (.d (.lit (.bool false)))), none⟩] [0]) (
  .seq (
   .seq (
    .ops [
      ⟨(some 9), .mv (.t 0), none⟩,
      ⟨(some 10), .len true (.t 9), none⟩,
      ⟨(some 11), .bin .gtr (.t 10) (.k (.d (.lit (.int .i64 1000)))), none⟩] [0, 11]) (
    .cond (.t 11) (
     .seq (
      .ops [
        ⟨(some 12), .call 9 [], none⟩,
        ⟨(some 2), .mv (.t 12), none⟩] [2]) (
      .ret)) (
     .skip))) (
   .seq (
    .ops [
      ⟨(some 14), .mv (.t 0), none⟩,
      ⟨(some 15), .call 10 [.t 14], none⟩,
      ⟨(some 13), .mv (.t 15), none⟩,
      ⟨(some 16), .ext (.t 13) 0, none⟩,
      ⟨(some 17), .ext (.t 13) 1, none⟩,
      ⟨(some 18), .ext (.t 13) 2, none⟩,
      ⟨(some 3), .mv (.t 16), none⟩,
      ⟨(some 4), .mv (.t 17), none⟩,
      ⟨(some 5), .mv (.t 18), none⟩] [0, 3, 4, 5]) (
    .seq (
     .ops [
       ⟨(some 20), .mv (.t 0), none⟩,
       ⟨(some 21), .call 11 [.t 20], none⟩,
       ⟨(some 19), .mv (.t 21), none⟩,
       ⟨(some 22), .ext (.t 19) 0, none⟩,
       ⟨(some 23), .ext (.t 19) 1, none⟩,
       ⟨(some 24), .ext (.t 19) 2, none⟩,
       ⟨(some 6), .mv (.t 22), none⟩,
       ⟨(some 7), .mv (.t 23), none⟩,
       ⟨(some 8), .mv (.t 24), none⟩] [3, 4, 5, 6, 7, 8]) (
     .seq (
      .ops [
        ⟨(some 25), .mv (.t 3), none⟩,
        ⟨(some 26), .mv (.t 6), none⟩,
        ⟨(some 27), .call 12 [.t 25, .t 26], none⟩,
        ⟨(some 28), .mv (.t 27), none⟩,
        ⟨(some 29), .mv (.t 4), (some (28, true))⟩,
        ⟨(some 30), .mv (.t 7), (some (28, true))⟩,
        ⟨(some 31), .bin .eql (.t 29) (.t 30), (some (28, true))⟩,
        ⟨(some 32), .pick (.t 28) (.t 31) (.k (.d (.lit (.bool false)))), none⟩,
        ⟨(some 33), .mv (.t 32), none⟩,
        ⟨(some 34), .mv (.t 5), (some (33, true))⟩,
        ⟨(some 35), .mv (.t 8), (some (33, true))⟩,
        ⟨(some 36), .bin .eql (.t 34) (.t 35), (some (33, true))⟩,
        ⟨(some 37), .pick (.t 33) (.t 36) (.k (.d (.lit (.bool false)))), none⟩,
        ⟨(some 38), .mv (.t 37), none⟩,
        ⟨(some 39), .call 9 [], (some (38, true))⟩,
        ⟨(some 40), .pick (.t 38) (.t 39) (.k (.d (.lit (.bool false)))), none⟩,
        ⟨(some 2), .mv (.t 40), none⟩] [2]) (
      .ret)))))
def rs3 : List RV := [.t 2 false]
theorem k3 : okFn G.tab Tryd.f3 1 c3 rs3 = true := by kernel_rfl

/-- testbench/testbenchlaw07.LexerTexts -/
def c4 : Cd :=
 .seq (
  .ops [
    ⟨(some 2), .mv (.k (.d (.lit (.bool false)))), none⟩] [0]) (
  .seq (
   .seq (
    .ops [
      ⟨(some 3), .mv (.k (.d (.lit (.int .i64 0)))), none⟩] [0, 3]) (
    .block 0 (
     .loop (
      .seq (
       .seq (
        .ops [
          ⟨(some 9), .mv (.t 3), none⟩,
          ⟨(some 10), .mv (.t 0), none⟩,
          ⟨(some 11), .len false (.t 10), none⟩,
          ⟨(some 12), .bin .lss (.t 9) (.t 11), none⟩,
          ⟨(some 13), .mv (.t 12), none⟩,
          ⟨(some 14), .mv (.t 3), (some (13, true))⟩,
          ⟨(some 15), .bin .lss (.t 14) (.k (.d (.lit (.int .i64 31)))), (some (13, true))⟩,
          ⟨(some 16), .pick (.t 13) (.t 15) (.k (.d (.lit (.bool false)))), none⟩] [0, 3, 16]) (
        .cond (.t 16) (
         .skip) (
         .exit 0))) (
       .seq (
        .block 1 (
         .seq (
          .ops [
            ⟨(some 19), .mv (.t 0), none⟩,
            ⟨(some 20), .mv (.t 3), none⟩,
            ⟨(some 21), .ia 4 (.t 19) (.t 20), none⟩,
            ⟨(some 22), .fa 2 (.t 21), none⟩,
            ⟨(some 23), .load 1 false (.t 22), none⟩,
            ⟨(some 4), .mv (.t 23), none⟩] [0, 3, 4]) (
          .seq (
           .seq (
            .ops [
              ⟨(some 24), .mv (.t 4), none⟩,
              ⟨(some 25), .len true (.t 24), none⟩,
              ⟨(some 26), .bin .gtr (.t 25) (.k (.d (.lit (.int .i64 40)))), none⟩] [0, 3, 4, 26]) (
            .cond (.t 26) (
             .seq (
              .ops [
                ⟨(some 27), .call 9 [], none⟩,
                ⟨(some 2), .mv (.t 27), none⟩] [2]) (
              .ret)) (
             .skip))) (
           .seq (
            .ops [
              ⟨(some 28), .mv (.t 4), none⟩,
              ⟨(some 29), .call 13 [.t 28], none⟩,
              ⟨(some 30), .mv (.t 4), none⟩,
              ⟨(some 31), .call 14 [.t 30], none⟩,
              ⟨(some 32), .binb .neq (.t 29) (.t 31), none⟩,
              ⟨(some 33), .mv (.t 32), none⟩,
              ⟨(some 34), .mv (.t 4), (some (33, false))⟩,
              ⟨(some 35), .call 15 [.t 34], (some (33, false))⟩,
              ⟨(some 36), .mv (.t 4), (some (33, false))⟩,
              ⟨(some 37), .call 16 [.t 36], (some (33, false))⟩,
              ⟨(some 38), .binb .neq (.t 35) (.t 37), (some (33, false))⟩,
              ⟨(some 39), .pick (.t 33) (.k (.d (.lit (.bool true)))) (.t 38), none⟩,
              ⟨(some 40), .mv (.t 39), none⟩,
              ⟨(some 41), .mv (.t 4), (some (40, false))⟩,
              ⟨(some 42), .call 17 [.t 41], (some (40, false))⟩,
              ⟨(some 43), .mv (.t 4), (some (40, false))⟩,
              ⟨(some 44), .call 18 [.t 43], (some (40, false))⟩,
              ⟨(some 45), .binb .neq (.t 42) (.t 44), (some (40, false))⟩,
              ⟨(some 46), .pick (.t 40) (.k (.d (.lit (.bool true)))) (.t 45), none⟩] [0, 3, 46]) (
            .cond (.t 46) (
             .seq (
              .ops [
                ⟨(some 2), .mv (.k (.d (.lit (.bool false)))), none⟩] [2]) (
              .ret)) (
             .skip)))))) (
        .ops [
          ⟨(some 17), .mv (.t 3), none⟩,
          ⟨(some 18), .bin .add (.t 17) (.k (.d (.lit (.int .i64 1)))), none⟩,
          ⟨(some 3), .mv (.t 18), none⟩] [0, 3])))))) (
   .seq (
    .seq (
     .ops [
       ⟨(some 47), .mv (.t 0), none⟩,
       ⟨(some 48), .len false (.t 47), none⟩,
       ⟨(some 49), .bin .gtr (.t 48) (.k (.d (.lit (.int .i64 30)))), none⟩] [0, 49]) (
     .cond (.t 49) (
      .seq (
       .ops [
         ⟨(some 50), .call 9 [], none⟩,
         ⟨(some 2), .mv (.t 50), none⟩] [2]) (
       .ret)) (
      .skip))) (
    .seq (
     .ops [
       ⟨(some 52), .mv (.t 0), none⟩,
       ⟨(some 53), .call 19 [.t 52], none⟩,
       ⟨(some 51), .mv (.t 53), none⟩,
       ⟨(some 54), .ext (.t 51) 0, none⟩,
       ⟨(some 55), .ext (.t 51) 1, none⟩,
       ⟨(some 5), .mv (.t 54), none⟩,
       ⟨(some 6), .mv (.t 55), none⟩] [0, 5, 6]) (
     .seq (
      .ops [
        ⟨(some 57), .mv (.t 0), none⟩,
        ⟨(some 58), .call 20 [.t 57], none⟩,
        ⟨(some 56), .mv (.t 58), none⟩,
        ⟨(some 59), .ext (.t 56) 0, none⟩,
        ⟨(some 60), .ext (.t 56) 1, none⟩,
        ⟨(some 7), .mv (.t 59), none⟩,
        ⟨(some 8), .mv (.t 60), none⟩] [5, 6, 7, 8]) (
      .seq (
       .ops [
         ⟨(some 61), .mv (.t 5), none⟩,
         ⟨(some 62), .mv (.t 7), none⟩,
         ⟨(some 63), .bin .eql (.t 61) (.t 62), none⟩,
         ⟨(some 64), .mv (.t 63), none⟩,
         ⟨(some 65), .mv (.t 6), (some (64, true))⟩,
         ⟨(some 66), .mv (.t 8), (some (64, true))⟩,
         ⟨(some 67), .bin .eql (.t 65) (.t 66), (some (64, true))⟩,
         ⟨(some 68), .pick (.t 64) (.t 67) (.k (.d (.lit (.bool false)))), none⟩,
         ⟨(some 69), .mv (.t 68), none⟩,
         ⟨(some 70), .call 9 [], (some (69, true))⟩,
         ⟨(some 71), .pick (.t 69) (.t 70) (.k (.d (.lit (.bool false)))), none⟩,
         ⟨(some 2), .mv (.t 71), none⟩] [2]) (
       .ret))))))
def rs4 : List RV := [.t 2 false]
theorem k4 : okFn G.tab Tryd.f4 1 c4 rs4 = true := by kernel_rfl

/-- testbench/testbenchlaw07.LexerJoins -/
def c5 : Cd :=
 .seq (
  .ops [
    ⟨(some 2), .mv (.k (.d (.lit (.bool false)))), none⟩] [0]) (
  .seq (
   .seq (
    .ops [
      ⟨(some 13), .mv (.t 0), none⟩,
      ⟨(some 14), .len false (.t 13), none⟩,
      ⟨(some 15), .bin .gtr (.t 14) (.k (.d (.lit (.int .i64 30)))), none⟩] [0, 15]) (
    .cond (.t 15) (
     .seq (
      .ops [
        ⟨(some 16), .call 9 [], none⟩,
        ⟨(some 2), .mv (.t 16), none⟩] [2]) (
      .ret)) (
     .skip))) (
   .seq (
    .seq (
     .ops [
       ⟨(some 3), .mv (.k (.d (.lit (.int .i64 0)))), none⟩] [0, 3]) (
     .block 0 (
      .loop (
       .seq (
        .seq (
         .ops [
           ⟨(some 17), .mv (.t 3), none⟩,
           ⟨(some 18), .mv (.t 0), none⟩,
           ⟨(some 19), .len false (.t 18), none⟩,
           ⟨(some 20), .bin .lss (.t 17) (.t 19), none⟩] [0, 3, 20]) (
         .cond (.t 20) (
          .skip) (
          .exit 0))) (
        .seq (
         .block 1 (
          .seq (
           .ops [
             ⟨(some 23), .mv (.t 0), none⟩,
             ⟨(some 24), .mv (.t 3), none⟩,
             ⟨(some 25), .ia 4 (.t 23) (.t 24), none⟩,
             ⟨(some 26), .fa 2 (.t 25), none⟩,
             ⟨(some 27), .load 1 false (.t 26), none⟩,
             ⟨(some 28), .len true (.t 27), none⟩,
             ⟨(some 29), .bin .gtr (.t 28) (.k (.d (.lit (.int .i64 40)))), none⟩] [0, 3, 29]) (
           .cond (.t 29) (
            .seq (
             .ops [
               ⟨(some 30), .call 9 [], none⟩,
               ⟨(some 2), .mv (.t 30), none⟩] [2]) (
             .ret)) (
            .skip)))) (
         .ops [
           ⟨(some 21), .mv (.t 3), none⟩,
           ⟨(some 22), .bin .add (.t 21) (.k (.d (.lit (.int .i64 1)))), none⟩,
           ⟨(some 3), .mv (.t 22), none⟩] [0, 3])))))) (
    .seq (
     .ops [
       ⟨(some 32), .mv (.t 0), none⟩,
       ⟨(some 33), .call 19 [.t 32], none⟩,
       ⟨(some 31), .mv (.t 33), none⟩,
       ⟨(some 34), .ext (.t 31) 0, none⟩,
       ⟨(some 35), .ext (.t 31) 1, none⟩,
       ⟨(some 4), .mv (.t 34), none⟩,
       ⟨(some 5), .mv (.t 35), none⟩] [0, 4, 5]) (
     .seq (
      .seq (
       .ops [
         ⟨(some 36), .mv (.t 5), none⟩,
         ⟨(some 37), .bin .neq (.t 36) (.k (.d (.lit (.int .i64 0)))), none⟩] [0, 4, 5, 37]) (
       .cond (.t 37) (
        .seq (
         .ops [
           ⟨(some 38), .mv (.t 5), none⟩,
           ⟨(some 39), .bin .eql (.t 38) (.k (.d (.lit (.int .i64 1)))), none⟩,
           ⟨(some 40), .mv (.t 39), none⟩,
           ⟨(some 41), .mv (.t 4), (some (40, true))⟩,
           ⟨(some 42), .bin .eql (.t 41) (.k (.d (.lit (.string ⟨#[]⟩)))), (some (40, true))⟩,
           ⟨(some 43), .pick (.t 40) (.t 42) (.k (.d (.lit (.bool false)))), none⟩,
           ⟨(some 44), .mv (.t 43), none⟩,
           ⟨(some 45), .call 9 [], (some (44, true))⟩,
           ⟨(some 46), .pick (.t 44) (.t 45) (.k (.d (.lit (.bool false)))), none⟩,
           ⟨(some 2), .mv (.t 46), none⟩] [2]) (
         .ret)) (
        .skip))) (
      .seq (
       .ops [
         ⟨(some 48), .mv (.t 4), none⟩,
         ⟨(some 49), .call 10 [.t 48], none⟩,
         ⟨(some 47), .mv (.t 49), none⟩,
         ⟨(some 50), .ext (.t 47) 0, none⟩,
         ⟨(some 51), .ext (.t 47) 1, none⟩,
         ⟨(some 52), .ext (.t 47) 2, none⟩,
         ⟨(some 6), .mv (.t 50), none⟩,
         ⟨(some 7), .mv (.t 51), none⟩,
         ⟨(some 8), .mv (.t 52), none⟩] [0, 4, 6, 7, 8]) (
       .seq (
        .seq (
         .ops [
           ⟨(some 53), .mv (.t 7), none⟩,
           ⟨(some 54), .bin .neq (.t 53) (.k (.d (.lit (.int .i64 0)))), none⟩,
           ⟨(some 55), .mv (.t 54), none⟩,
           ⟨(some 56), .mv (.t 8), (some (55, false))⟩,
           ⟨(some 57), .bin .neq (.t 56) (.k (.d (.lit (.int .i64 0)))), (some (55, false))⟩,
           ⟨(some 58), .pick (.t 55) (.k (.d (.lit (.bool true)))) (.t 57), none⟩,
           ⟨(some 59), .mv (.t 58), none⟩,
           ⟨(some 60), .mv (.t 6), (some (59, false))⟩,
           ⟨(some 61), .len false (.t 60), (some (59, false))⟩,
           ⟨(some 62), .mv (.t 0), (some (59, false))⟩,
           ⟨(some 63), .len false (.t 62), (some (59, false))⟩,
           ⟨(some 64), .bin .neq (.t 61) (.t 63), (some (59, false))⟩,
           ⟨(some 65), .pick (.t 59) (.k (.d (.lit (.bool true)))) (.t 64), none⟩] [0, 4, 6, 65]) (
         .cond (.t 65) (
          .seq (
           .ops [
             ⟨(some 2), .mv (.k (.d (.lit (.bool false)))), none⟩] [2]) (
           .ret)) (
          .skip))) (
        .seq (
         .seq (
          .ops [
            ⟨(some 9), .mv (.k (.d (.lit (.int .i64 0)))), none⟩] [0, 4, 6, 9]) (
          .block 2 (
           .loop (
            .seq (
             .seq (
              .ops [
                ⟨(some 66), .mv (.t 9), none⟩,
                ⟨(some 67), .mv (.t 0), none⟩,
                ⟨(some 68), .len false (.t 67), none⟩,
                ⟨(some 69), .bin .lss (.t 66) (.t 68), none⟩] [0, 4, 6, 9, 69]) (
              .cond (.t 69) (
               .skip) (
               .exit 2))) (
             .seq (
              .block 3 (
               .seq (
                .ops [
                  ⟨(some 72), .mv (.t 0), none⟩,
                  ⟨(some 73), .mv (.t 9), none⟩,
                  ⟨(some 74), .ia 4 (.t 72) (.t 73), none⟩,
                  ⟨(some 75), .load 4 true (.t 74), none⟩,
                  ⟨(some 10), .new 30 [.d (.lit (.int .i64 0)), .d (.lit (.int .i64 0)), .d (.lit (.string ⟨#[]⟩)), .d (.lit (.int .i64 0))], none⟩,
                  ⟨none, .sto 4 (.t 10) (.t 75), none⟩] [0, 4, 6, 9, 10]) (
                .seq (
                 .ops [
                   ⟨(some 76), .fa 3 (.t 10), none⟩,
                   ⟨none, .sto 1 (.t 76) (.k (.d (.lit (.int .i64 1)))), none⟩] [0, 4, 6, 9, 10]) (
                 .seq (
                  .draw [
                    ⟨(some 77), .mv (.t 6), none⟩,
                    ⟨(some 78), .mv (.t 9), none⟩,
                    ⟨(some 79), .ia 4 (.t 77) (.t 78), none⟩,
                    ⟨(some 80), .load 4 true (.t 79), none⟩,
                    ⟨(some 81), .load 4 true (.t 10), none⟩,
                    ⟨(some 82), .eqa true 30 [.i .i64, .i .i64, .s, .i .i64] (.t 80) (.t 81), none⟩] [0, 4, 6, 9, 82]) (
                  .cond (.t 82) (
                   .seq (
                    .ops [
                      ⟨(some 2), .mv (.k (.d (.lit (.bool false)))), none⟩] [2]) (
                    .ret)) (
                   .skip)))))) (
              .ops [
                ⟨(some 70), .mv (.t 9), none⟩,
                ⟨(some 71), .bin .add (.t 70) (.k (.d (.lit (.int .i64 1)))), none⟩,
                ⟨(some 9), .mv (.t 71), none⟩] [0, 4, 6, 9])))))) (
         .seq (
          .ops [
            ⟨(some 84), .mv (.t 6), none⟩,
            ⟨(some 85), .call 19 [.t 84], none⟩,
            ⟨(some 83), .mv (.t 85), none⟩,
            ⟨(some 86), .ext (.t 83) 0, none⟩,
            ⟨(some 87), .ext (.t 83) 1, none⟩,
            ⟨(some 11), .mv (.t 86), none⟩,
            ⟨(some 12), .mv (.t 87), none⟩] [4, 11, 12]) (
          .seq (
           .ops [
             ⟨(some 88), .mv (.t 11), none⟩,
             ⟨(some 89), .mv (.t 4), none⟩,
             ⟨(some 90), .bin .eql (.t 88) (.t 89), none⟩,
             ⟨(some 91), .mv (.t 90), none⟩,
             ⟨(some 92), .mv (.t 12), (some (91, true))⟩,
             ⟨(some 93), .bin .eql (.t 92) (.k (.d (.lit (.int .i64 0)))), (some (91, true))⟩,
             ⟨(some 94), .pick (.t 91) (.t 93) (.k (.d (.lit (.bool false)))), none⟩,
             ⟨(some 95), .mv (.t 94), none⟩,
             ⟨(some 96), .call 9 [], (some (95, true))⟩,
             ⟨(some 97), .pick (.t 95) (.t 96) (.k (.d (.lit (.bool false)))), none⟩,
             ⟨(some 2), .mv (.t 97), none⟩] [2]) (
           .ret))))))))))
def rs5 : List RV := [.t 2 false]
theorem k5 : okFn G.tab Tryd.f5 1 c5 rs5 = true := by kernel_rfl

/-- testbench/testbenchlaw07.LexerAppends -/
def c6 : Cd :=
 .seq (
  .ops [
    ⟨(some 4), .mv (.k (.d (.lit (.bool false)))), none⟩] [0, 1]) (
  .seq (
   .seq (
    .ops [
      ⟨(some 18), .mv (.t 0), none⟩,
      ⟨(some 19), .len true (.t 18), none⟩,
      ⟨(some 20), .bin .gtr (.t 19) (.k (.d (.lit (.int .i64 500)))), none⟩,
      ⟨(some 21), .mv (.t 20), none⟩,
      ⟨(some 22), .mv (.t 1), (some (21, false))⟩,
      ⟨(some 23), .len true (.t 22), (some (21, false))⟩,
      ⟨(some 24), .bin .gtr (.t 23) (.k (.d (.lit (.int .i64 500)))), (some (21, false))⟩,
      ⟨(some 25), .pick (.t 21) (.k (.d (.lit (.bool true)))) (.t 24), none⟩] [0, 1, 25]) (
    .cond (.t 25) (
     .seq (
      .ops [
        ⟨(some 26), .call 9 [], none⟩,
        ⟨(some 4), .mv (.t 26), none⟩] [4]) (
      .ret)) (
     .skip))) (
   .seq (
    .ops [
      ⟨(some 28), .mv (.t 0), none⟩,
      ⟨(some 29), .call 10 [.t 28], none⟩,
      ⟨(some 27), .mv (.t 29), none⟩,
      ⟨(some 30), .ext (.t 27) 0, none⟩,
      ⟨(some 31), .ext (.t 27) 1, none⟩,
      ⟨(some 32), .ext (.t 27) 2, none⟩,
      ⟨(some 5), .mv (.t 30), none⟩,
      ⟨(some 6), .mv (.t 31), none⟩,
      ⟨(some 7), .mv (.t 32), none⟩] [0, 1, 5, 6, 7]) (
    .seq (
     .seq (
      .ops [
        ⟨(some 33), .mv (.t 7), none⟩,
        ⟨(some 34), .bin .neq (.t 33) (.k (.d (.lit (.int .i64 0)))), none⟩] [0, 1, 5, 6, 34]) (
      .cond (.t 34) (
       .seq (
        .ops [
          ⟨(some 35), .mv (.t 5), none⟩,
          ⟨(some 36), .len false (.t 35), none⟩,
          ⟨(some 37), .bin .eql (.t 36) (.k (.d (.lit (.int .i64 0)))), none⟩,
          ⟨(some 38), .mv (.t 37), none⟩,
          ⟨(some 39), .mv (.t 6), (some (38, true))⟩,
          ⟨(some 40), .bin .geq (.t 39) (.k (.d (.lit (.int .i64 0)))), (some (38, true))⟩,
          ⟨(some 41), .pick (.t 38) (.t 40) (.k (.d (.lit (.bool false)))), none⟩,
          ⟨(some 42), .mv (.t 41), none⟩,
          ⟨(some 43), .call 9 [], (some (42, true))⟩,
          ⟨(some 44), .pick (.t 42) (.t 43) (.k (.d (.lit (.bool false)))), none⟩,
          ⟨(some 4), .mv (.t 44), none⟩] [4]) (
        .ret)) (
       .skip))) (
     .seq (
      .ops [
        ⟨(some 8), .mv (.k (.d (.lit (.int .i64 1)))), none⟩] [0, 1, 5, 8]) (
      .seq (
       .seq (
        .ops [
          ⟨(some 9), .mv (.k (.d (.lit (.int .i64 0)))), none⟩] [0, 1, 5, 8, 9]) (
        .block 0 (
         .loop (
          .seq (
           .seq (
            .ops [
              ⟨(some 45), .mv (.t 9), none⟩,
              ⟨(some 46), .mv (.t 0), none⟩,
              ⟨(some 47), .len true (.t 46), none⟩,
              ⟨(some 48), .bin .lss (.t 45) (.t 47), none⟩] [0, 1, 5, 8, 9, 48]) (
            .cond (.t 48) (
             .skip) (
             .exit 0))) (
           .seq (
            .block 1 (
             .seq (
              .ops [
                ⟨(some 51), .mv (.t 0), none⟩,
                ⟨(some 52), .mv (.t 9), none⟩,
                ⟨(some 53), .ix (.t 51) (.t 52), none⟩,
                ⟨(some 54), .bin .eql (.t 53) (.k (.d (.lit (.int .u8 10)))), none⟩] [0, 1, 5, 8, 9, 54]) (
              .cond (.t 54) (
               .ops [
                 ⟨(some 55), .mv (.t 8), none⟩,
                 ⟨(some 56), .bin .add (.t 55) (.k (.d (.lit (.int .i64 1)))), none⟩,
                 ⟨(some 8), .mv (.t 56), none⟩] [0, 1, 5, 8, 9]) (
               .skip)))) (
            .ops [
              ⟨(some 49), .mv (.t 9), none⟩,
              ⟨(some 50), .bin .add (.t 49) (.k (.d (.lit (.int .i64 1)))), none⟩,
              ⟨(some 9), .mv (.t 50), none⟩] [0, 1, 5, 8, 9])))))) (
       .seq (
        .ops [
          ⟨(some 58), .mv (.t 1), none⟩,
          ⟨(some 59), .call 10 [.t 58], none⟩,
          ⟨(some 57), .mv (.t 59), none⟩,
          ⟨(some 60), .ext (.t 57) 0, none⟩,
          ⟨(some 61), .ext (.t 57) 1, none⟩,
          ⟨(some 62), .ext (.t 57) 2, none⟩,
          ⟨(some 10), .mv (.t 60), none⟩,
          ⟨(some 11), .mv (.t 61), none⟩,
          ⟨(some 12), .mv (.t 62), none⟩] [0, 1, 5, 8, 10, 11, 12]) (
        .seq (
         .ops [
           ⟨(some 64), .mv (.t 0), none⟩,
           ⟨(some 65), .bin .add (.t 64) (.k (.d (.lit (.string ⟨#[10]⟩)))), none⟩,
           ⟨(some 66), .mv (.t 1), none⟩,
           ⟨(some 67), .bin .add (.t 65) (.t 66), none⟩,
           ⟨(some 68), .call 10 [.t 67], none⟩,
           ⟨(some 63), .mv (.t 68), none⟩,
           ⟨(some 69), .ext (.t 63) 0, none⟩,
           ⟨(some 70), .ext (.t 63) 1, none⟩,
           ⟨(some 71), .ext (.t 63) 2, none⟩,
           ⟨(some 13), .mv (.t 69), none⟩,
           ⟨(some 14), .mv (.t 70), none⟩,
           ⟨(some 15), .mv (.t 71), none⟩] [5, 8, 10, 11, 12, 13, 14, 15]) (
         .seq (
          .seq (
           .ops [
             ⟨(some 72), .mv (.t 12), none⟩,
             ⟨(some 73), .bin .neq (.t 72) (.k (.d (.lit (.int .i64 0)))), none⟩] [5, 8, 10, 11, 12, 13, 14, 15, 73]) (
           .cond (.t 73) (
            .seq (
             .ops [
               ⟨(some 74), .mv (.t 13), none⟩,
               ⟨(some 75), .len false (.t 74), none⟩,
               ⟨(some 76), .bin .eql (.t 75) (.k (.d (.lit (.int .i64 0)))), none⟩,
               ⟨(some 77), .mv (.t 76), none⟩,
               ⟨(some 78), .mv (.t 15), (some (77, true))⟩,
               ⟨(some 79), .mv (.t 12), (some (77, true))⟩,
               ⟨(some 80), .bin .eql (.t 78) (.t 79), (some (77, true))⟩,
               ⟨(some 81), .pick (.t 77) (.t 80) (.k (.d (.lit (.bool false)))), none⟩,
               ⟨(some 82), .mv (.t 81), none⟩,
               ⟨(some 83), .mv (.t 14), (some (82, true))⟩,
               ⟨(some 84), .mv (.t 11), (some (82, true))⟩,
               ⟨(some 85), .mv (.t 8), (some (82, true))⟩,
               ⟨(some 86), .bin .add (.t 84) (.t 85), (some (82, true))⟩,
               ⟨(some 87), .bin .eql (.t 83) (.t 86), (some (82, true))⟩,
               ⟨(some 88), .pick (.t 82) (.t 87) (.k (.d (.lit (.bool false)))), none⟩,
               ⟨(some 89), .mv (.t 88), none⟩,
               ⟨(some 90), .call 9 [], (some (89, true))⟩,
               ⟨(some 91), .pick (.t 89) (.t 90) (.k (.d (.lit (.bool false)))), none⟩,
               ⟨(some 4), .mv (.t 91), none⟩] [4]) (
             .ret)) (
            .skip))) (
          .seq (
           .seq (
            .ops [
              ⟨(some 92), .mv (.t 14), none⟩,
              ⟨(some 93), .bin .neq (.t 92) (.k (.d (.lit (.int .i64 0)))), none⟩,
              ⟨(some 94), .mv (.t 93), none⟩,
              ⟨(some 95), .mv (.t 15), (some (94, false))⟩,
              ⟨(some 96), .bin .neq (.t 95) (.k (.d (.lit (.int .i64 0)))), (some (94, false))⟩,
              ⟨(some 97), .pick (.t 94) (.k (.d (.lit (.bool true)))) (.t 96), none⟩,
              ⟨(some 98), .mv (.t 97), none⟩,
              ⟨(some 99), .mv (.t 13), (some (98, false))⟩,
              ⟨(some 100), .len false (.t 99), (some (98, false))⟩,
              ⟨(some 101), .mv (.t 5), (some (98, false))⟩,
              ⟨(some 102), .len false (.t 101), (some (98, false))⟩,
              ⟨(some 103), .mv (.t 10), (some (98, false))⟩,
              ⟨(some 104), .len false (.t 103), (some (98, false))⟩,
              ⟨(some 105), .bin .add (.t 102) (.t 104), (some (98, false))⟩,
              ⟨(some 106), .bin .neq (.t 100) (.t 105), (some (98, false))⟩,
              ⟨(some 107), .pick (.t 98) (.k (.d (.lit (.bool true)))) (.t 106), none⟩,
              ⟨(some 108), .mv (.t 107), none⟩,
              ⟨(some 109), .mv (.t 13), (some (108, false))⟩,
              ⟨(some 110), .mv (.t 5), (some (108, false))⟩,
              ⟨(some 111), .len false (.t 110), (some (108, false))⟩,
              ⟨(some 112), .sub false 4 (.t 109) none (some (.t 111)), (some (108, false))⟩,
              ⟨(some 113), .mv (.t 5), (some (108, false))⟩,
              ⟨(some 114), .call 12 [.t 112, .t 113], (some (108, false))⟩,
              ⟨(some 115), .un .not (.t 114), (some (108, false))⟩,
              ⟨(some 116), .pick (.t 108) (.k (.d (.lit (.bool true)))) (.t 115), none⟩] [5, 8, 10, 13, 116]) (
            .cond (.t 116) (
             .seq (
              .ops [
                ⟨(some 4), .mv (.k (.d (.lit (.bool false)))), none⟩] [4]) (
              .ret)) (
             .skip))) (
           .seq (
            .seq (
             .ops [
               ⟨(some 16), .mv (.k (.d (.lit (.int .i64 0)))), none⟩] [5, 8, 10, 13, 16]) (
             .block 2 (
              .loop (
               .seq (
                .seq (
                 .ops [
                   ⟨(some 117), .mv (.t 16), none⟩,
                   ⟨(some 118), .mv (.t 10), none⟩,
                   ⟨(some 119), .len false (.t 118), none⟩,
                   ⟨(some 120), .bin .lss (.t 117) (.t 119), none⟩] [5, 8, 10, 13, 16, 120]) (
                 .cond (.t 120) (
                  .skip) (
                  .exit 2))) (
                .seq (
                 .block 3 (
                  .seq (
                   .ops [
                     ⟨(some 123), .mv (.t 10), none⟩,
                     ⟨(some 124), .mv (.t 16), none⟩,
                     ⟨(some 125), .ia 4 (.t 123) (.t 124), none⟩,
                     ⟨(some 126), .load 4 true (.t 125), none⟩,
                     ⟨(some 17), .new 30 [.d (.lit (.int .i64 0)), .d (.lit (.int .i64 0)), .d (.lit (.string ⟨#[]⟩)), .d (.lit (.int .i64 0))], none⟩,
                     ⟨none, .sto 4 (.t 17) (.t 126), none⟩] [5, 8, 10, 13, 16, 17]) (
                   .seq (
                    .ops [
                      ⟨(some 127), .fa 3 (.t 17), none⟩,
                      ⟨(some 128), .load 1 false (.t 127), none⟩,
                      ⟨(some 129), .mv (.t 8), none⟩,
                      ⟨(some 130), .bin .add (.t 128) (.t 129), none⟩,
                      ⟨(some 131), .fa 3 (.t 17), none⟩,
                      ⟨none, .sto 1 (.t 131) (.t 130), none⟩] [5, 8, 10, 13, 16, 17]) (
                    .seq (
                     .draw [
                       ⟨(some 132), .mv (.t 13), none⟩,
                       ⟨(some 133), .mv (.t 5), none⟩,
                       ⟨(some 134), .len false (.t 133), none⟩,
                       ⟨(some 135), .mv (.t 16), none⟩,
                       ⟨(some 136), .bin .add (.t 134) (.t 135), none⟩,
                       ⟨(some 137), .ia 4 (.t 132) (.t 136), none⟩,
                       ⟨(some 138), .load 4 true (.t 137), none⟩,
                       ⟨(some 139), .load 4 true (.t 17), none⟩,
                       ⟨(some 140), .eqa true 30 [.i .i64, .i .i64, .s, .i .i64] (.t 138) (.t 139), none⟩] [5, 8, 10, 13, 16, 140]) (
                     .cond (.t 140) (
                      .seq (
                       .ops [
                         ⟨(some 4), .mv (.k (.d (.lit (.bool false)))), none⟩] [4]) (
                       .ret)) (
                      .skip)))))) (
                 .ops [
                   ⟨(some 121), .mv (.t 16), none⟩,
                   ⟨(some 122), .bin .add (.t 121) (.k (.d (.lit (.int .i64 1)))), none⟩,
                   ⟨(some 16), .mv (.t 122), none⟩] [5, 8, 10, 13, 16])))))) (
            .seq (
             .ops [
               ⟨(some 141), .call 9 [], none⟩,
               ⟨(some 4), .mv (.t 141), none⟩] [4]) (
             .ret))))))))))))
def rs6 : List RV := [.t 4 false]
theorem k6 : okFn G.tab Tryd.f6 2 c6 rs6 = true := by kernel_rfl

/-- testbench/testbenchlaw07.LexerBlanks -/
def c7 : Cd :=
 .seq (
  .ops [
    ⟨(some 4), .mv (.k (.d (.lit (.bool false)))), none⟩] [0, 1]) (
  .seq (
   .seq (
    .ops [
      ⟨(some 15), .mv (.t 0), none⟩,
      ⟨(some 16), .len false (.t 15), none⟩,
      ⟨(some 17), .bin .gtr (.t 16) (.k (.d (.lit (.int .i64 20)))), none⟩,
      ⟨(some 18), .mv (.t 17), none⟩,
      ⟨(some 19), .mv (.t 1), (some (18, false))⟩,
      ⟨(some 20), .len false (.t 19), (some (18, false))⟩,
      ⟨(some 21), .bin .gtr (.t 20) (.k (.d (.lit (.int .i64 40)))), (some (18, false))⟩,
      ⟨(some 22), .pick (.t 18) (.k (.d (.lit (.bool true)))) (.t 21), none⟩] [0, 1, 22]) (
    .cond (.t 22) (
     .seq (
      .ops [
        ⟨(some 23), .call 9 [], none⟩,
        ⟨(some 4), .mv (.t 23), none⟩] [4]) (
      .ret)) (
     .skip))) (
   .seq (
    .ops [
      ⟨(some 5), .mv (.k (.d (.lit (.string ⟨#[9]⟩)))), none⟩] [0, 1, 5]) (
    .seq (
     .seq (
      .ops [
        ⟨(some 6), .mv (.k (.d (.lit (.int .i64 0)))), none⟩] [0, 1, 5, 6]) (
      .block 0 (
       .loop (
        .seq (
         .seq (
          .ops [
            ⟨(some 24), .mv (.t 6), none⟩,
            ⟨(some 25), .mv (.t 0), none⟩,
            ⟨(some 26), .len false (.t 25), none⟩,
            ⟨(some 27), .bin .lss (.t 24) (.t 26), none⟩] [0, 1, 5, 6, 27]) (
          .cond (.t 27) (
           .skip) (
           .exit 0))) (
         .seq (
          .block 1 (
           .seq (
            .seq (
             .ops [
               ⟨(some 30), .mv (.t 0), none⟩,
               ⟨(some 31), .mv (.t 6), none⟩,
               ⟨(some 32), .ia 4 (.t 30) (.t 31), none⟩,
               ⟨(some 33), .fa 2 (.t 32), none⟩,
               ⟨(some 34), .load 1 false (.t 33), none⟩,
               ⟨(some 35), .len true (.t 34), none⟩,
               ⟨(some 36), .bin .gtr (.t 35) (.k (.d (.lit (.int .i64 40)))), none⟩] [0, 1, 5, 6, 36]) (
             .cond (.t 36) (
              .seq (
               .ops [
                 ⟨(some 37), .call 9 [], none⟩,
                 ⟨(some 4), .mv (.t 37), none⟩] [4]) (
               .ret)) (
              .skip))) (
            .seq (
             .ops [
               ⟨(some 38), .mv (.t 5), none⟩,
               ⟨(some 39), .mv (.t 0), none⟩,
               ⟨(some 40), .mv (.t 6), none⟩,
               ⟨(some 41), .ia 4 (.t 39) (.t 40), none⟩,
               ⟨(some 42), .fa 2 (.t 41), none⟩,
               ⟨(some 43), .load 1 false (.t 42), none⟩,
               ⟨(some 44), .bin .add (.t 38) (.t 43), none⟩,
               ⟨(some 5), .mv (.t 44), none⟩] [0, 1, 5, 6]) (
             .seq (
              .ops [
                ⟨(some 45), .mv (.t 6), none⟩,
                ⟨(some 46), .conv .u8 (.t 45), none⟩,
                ⟨(some 7), .mv (.t 46), none⟩] [0, 1, 5, 6, 7]) (
              .seq (
               .seq (
                .ops [
                  ⟨(some 47), .mv (.t 6), none⟩,
                  ⟨(some 48), .mv (.t 1), none⟩,
                  ⟨(some 49), .len false (.t 48), none⟩,
                  ⟨(some 50), .bin .lss (.t 47) (.t 49), none⟩] [0, 1, 5, 6, 7, 50]) (
                .cond (.t 50) (
                 .ops [
                   ⟨(some 51), .mv (.t 1), none⟩,
                   ⟨(some 52), .mv (.t 6), none⟩,
                   ⟨(some 53), .ia 1 (.t 51) (.t 52), none⟩,
                   ⟨(some 54), .load 1 false (.t 53), none⟩,
                   ⟨(some 7), .mv (.t 54), none⟩] [0, 1, 5, 6, 7]) (
                 .skip))) (
               .seq (
                .ops [
                  ⟨(some 55), .mv (.t 7), none⟩,
                  ⟨(some 56), .bin .rem (.t 55) (.k (.d (.lit (.int .u8 5)))), none⟩] [0, 1, 5, 6, 56]) (
                .block 2 (
                 .seq (
                  .ops [
                    ⟨(some 60), .bin .eql (.t 56) (.k (.d (.lit (.int .u8 0)))), none⟩,
                    ⟨(some 59), .mv (.t 60), none⟩] [0, 1, 5, 6, 56, 59]) (
                  .cond (.t 59) (
                   .ops [
                     ⟨(some 61), .mv (.t 5), none⟩,
                     ⟨(some 62), .bin .add (.t 61) (.k (.d (.lit (.string ⟨#[32, 9, 32]⟩)))), none⟩,
                     ⟨(some 5), .mv (.t 62), none⟩] [0, 1, 5, 6]) (
                   .seq (
                    .ops [
                      ⟨(some 64), .bin .eql (.t 56) (.k (.d (.lit (.int .u8 1)))), none⟩,
                      ⟨(some 63), .mv (.t 64), none⟩] [0, 1, 5, 6, 56, 63]) (
                    .cond (.t 63) (
                     .ops [
                       ⟨(some 65), .mv (.t 5), none⟩,
                       ⟨(some 66), .bin .add (.t 65) (.k (.d (.lit (.string ⟨#[10, 10]⟩)))), none⟩,
                       ⟨(some 5), .mv (.t 66), none⟩] [0, 1, 5, 6]) (
                     .seq (
                      .ops [
                        ⟨(some 68), .bin .eql (.t 56) (.k (.d (.lit (.int .u8 2)))), none⟩,
                        ⟨(some 67), .mv (.t 68), none⟩] [0, 1, 5, 6, 56, 67]) (
                      .cond (.t 67) (
                       .ops [
                         ⟨(some 69), .mv (.t 5), none⟩,
                         ⟨(some 70), .bin .add (.t 69) (.k (.d (.lit (.string ⟨#[32, 47, 47, 32, 120, 32, 123, 32, 34, 32, 64, 10]⟩)))), none⟩,
                         ⟨(some 5), .mv (.t 70), none⟩] [0, 1, 5, 6]) (
                       .seq (
                        .ops [
                          ⟨(some 72), .bin .eql (.t 56) (.k (.d (.lit (.int .u8 3)))), none⟩,
                          ⟨(some 71), .mv (.t 72), none⟩] [0, 1, 5, 6, 71]) (
                        .cond (.t 71) (
                         .ops [
                           ⟨(some 73), .mv (.t 5), none⟩,
                           ⟨(some 74), .bin .add (.t 73) (.k (.d (.lit (.string ⟨#[10, 47, 47, 10, 32]⟩)))), none⟩,
                           ⟨(some 5), .mv (.t 74), none⟩] [0, 1, 5, 6]) (
                         .ops [
                           ⟨(some 57), .mv (.t 5), none⟩,
                           ⟨(some 58), .bin .add (.t 57) (.k (.d (.lit (.string ⟨#[32]⟩)))), none⟩,
                           ⟨(some 5), .mv (.t 58), none⟩] [0, 1, 5, 6])))))))))))))))) (
          .ops [
            ⟨(some 28), .mv (.t 6), none⟩,
            ⟨(some 29), .bin .add (.t 28) (.k (.d (.lit (.int .i64 1)))), none⟩,
            ⟨(some 6), .mv (.t 29), none⟩] [0, 1, 5, 6])))))) (
     .seq (
      .ops [
        ⟨(some 76), .mv (.t 0), none⟩,
        ⟨(some 77), .call 19 [.t 76], none⟩,
        ⟨(some 75), .mv (.t 77), none⟩,
        ⟨(some 78), .ext (.t 75) 0, none⟩,
        ⟨(some 79), .ext (.t 75) 1, none⟩,
        ⟨(some 8), .mv (.t 78), none⟩,
        ⟨(some 9), .mv (.t 79), none⟩] [0, 5, 8, 9]) (
      .seq (
       .seq (
        .ops [
          ⟨(some 80), .mv (.t 9), none⟩,
          ⟨(some 81), .bin .neq (.t 80) (.k (.d (.lit (.int .i64 0)))), none⟩] [0, 5, 8, 81]) (
        .cond (.t 81) (
         .seq (
          .ops [
            ⟨(some 82), .mv (.t 8), none⟩,
            ⟨(some 83), .bin .eql (.t 82) (.k (.d (.lit (.string ⟨#[]⟩)))), none⟩,
            ⟨(some 84), .mv (.t 83), none⟩,
            ⟨(some 85), .call 9 [], (some (84, true))⟩,
            ⟨(some 86), .pick (.t 84) (.t 85) (.k (.d (.lit (.bool false)))), none⟩,
            ⟨(some 4), .mv (.t 86), none⟩] [4]) (
          .ret)) (
         .skip))) (
       .seq (
        .ops [
          ⟨(some 88), .mv (.t 5), none⟩,
          ⟨(some 89), .call 10 [.t 88], none⟩,
          ⟨(some 87), .mv (.t 89), none⟩,
          ⟨(some 90), .ext (.t 87) 0, none⟩,
          ⟨(some 91), .ext (.t 87) 1, none⟩,
          ⟨(some 92), .ext (.t 87) 2, none⟩,
          ⟨(some 10), .mv (.t 90), none⟩,
          ⟨(some 11), .mv (.t 91), none⟩,
          ⟨(some 12), .mv (.t 92), none⟩] [0, 8, 10, 11, 12]) (
        .seq (
         .seq (
          .ops [
            ⟨(some 93), .mv (.t 11), none⟩,
            ⟨(some 94), .bin .neq (.t 93) (.k (.d (.lit (.int .i64 0)))), none⟩,
            ⟨(some 95), .mv (.t 94), none⟩,
            ⟨(some 96), .mv (.t 12), (some (95, false))⟩,
            ⟨(some 97), .bin .neq (.t 96) (.k (.d (.lit (.int .i64 0)))), (some (95, false))⟩,
            ⟨(some 98), .pick (.t 95) (.k (.d (.lit (.bool true)))) (.t 97), none⟩,
            ⟨(some 99), .mv (.t 98), none⟩,
            ⟨(some 100), .mv (.t 10), (some (99, false))⟩,
            ⟨(some 101), .len false (.t 100), (some (99, false))⟩,
            ⟨(some 102), .mv (.t 0), (some (99, false))⟩,
            ⟨(some 103), .len false (.t 102), (some (99, false))⟩,
            ⟨(some 104), .bin .neq (.t 101) (.t 103), (some (99, false))⟩,
            ⟨(some 105), .pick (.t 99) (.k (.d (.lit (.bool true)))) (.t 104), none⟩] [8, 10, 105]) (
          .cond (.t 105) (
           .seq (
            .ops [
              ⟨(some 4), .mv (.k (.d (.lit (.bool false)))), none⟩] [4]) (
            .ret)) (
           .skip))) (
         .seq (
          .ops [
            ⟨(some 107), .mv (.t 10), none⟩,
            ⟨(some 108), .call 19 [.t 107], none⟩,
            ⟨(some 106), .mv (.t 108), none⟩,
            ⟨(some 109), .ext (.t 106) 0, none⟩,
            ⟨(some 110), .ext (.t 106) 1, none⟩,
            ⟨(some 13), .mv (.t 109), none⟩,
            ⟨(some 14), .mv (.t 110), none⟩] [8, 13, 14]) (
          .seq (
           .ops [
             ⟨(some 111), .mv (.t 13), none⟩,
             ⟨(some 112), .mv (.t 8), none⟩,
             ⟨(some 113), .bin .eql (.t 111) (.t 112), none⟩,
             ⟨(some 114), .mv (.t 113), none⟩,
             ⟨(some 115), .mv (.t 14), (some (114, true))⟩,
             ⟨(some 116), .bin .eql (.t 115) (.k (.d (.lit (.int .i64 0)))), (some (114, true))⟩,
             ⟨(some 117), .pick (.t 114) (.t 116) (.k (.d (.lit (.bool false)))), none⟩,
             ⟨(some 118), .mv (.t 117), none⟩,
             ⟨(some 119), .call 9 [], (some (118, true))⟩,
             ⟨(some 120), .pick (.t 118) (.t 119) (.k (.d (.lit (.bool false)))), none⟩,
             ⟨(some 4), .mv (.t 120), none⟩] [4]) (
           .ret))))))))))
def rs7 : List RV := [.t 4 false]
theorem k7 : okFn G.tab Tryd.f7 2 c7 rs7 = true := by kernel_rfl

/-- testbench/testbenchlaw07.LexerLimits -/
def c8 : Cd :=
 .seq (
  .ops [
    ⟨(some 2), .mv (.k (.d (.lit (.bool false)))), none⟩] [0]) (
  .seq (
   .ops [
     ⟨(some 8), .mv (.t 0), none⟩,
     ⟨(some 9), .bin .rem (.t 8) (.k (.d (.lit (.int .u8 5)))), none⟩,
     ⟨(some 10), .conv .i64 (.t 9), none⟩,
     ⟨(some 11), .bin .add (.k (.d (.lit (.int .i64 16382)))) (.t 10), none⟩,
     ⟨(some 12), .mkb 5 1 (.d (.lit (.int .u8 0))) (.t 11), none⟩,
     ⟨(some 3), .mv (.t 12), none⟩] [3]) (
   .seq (
    .seq (
     .ops [
       ⟨(some 4), .mv (.k (.d (.lit (.int .i64 0)))), none⟩] [3, 4]) (
     .block 0 (
      .loop (
       .seq (
        .seq (
         .ops [
           ⟨(some 13), .mv (.t 4), none⟩,
           ⟨(some 14), .mv (.t 3), none⟩,
           ⟨(some 15), .len false (.t 14), none⟩,
           ⟨(some 16), .bin .lss (.t 13) (.t 15), none⟩] [3, 4, 16]) (
         .cond (.t 16) (
          .skip) (
          .exit 0))) (
        .seq (
         .block 1 (
          .ops [
            ⟨(some 19), .mv (.t 3), none⟩,
            ⟨(some 20), .mv (.t 4), none⟩,
            ⟨(some 21), .ia 1 (.t 19) (.t 20), none⟩,
            ⟨none, .sto 1 (.t 21) (.k (.d (.lit (.int .u8 32)))), none⟩] [3, 4])) (
         .ops [
           ⟨(some 17), .mv (.t 4), none⟩,
           ⟨(some 18), .bin .add (.t 17) (.k (.d (.lit (.int .i64 1)))), none⟩,
           ⟨(some 4), .mv (.t 18), none⟩] [3, 4])))))) (
    .seq (
     .ops [
       ⟨(some 22), .mv (.t 3), none⟩,
       ⟨(some 23), .mv (.t 3), none⟩,
       ⟨(some 24), .len false (.t 23), none⟩,
       ⟨(some 25), .bin .sub (.t 24) (.k (.d (.lit (.int .i64 1)))), none⟩,
       ⟨(some 26), .ia 1 (.t 22) (.t 25), none⟩,
       ⟨none, .sto 1 (.t 26) (.k (.d (.lit (.int .u8 64)))), none⟩] [3]) (
     .seq (
      .ops [
        ⟨(some 28), .mv (.t 3), none⟩,
        ⟨(some 29), .cbs (.t 28), none⟩,
        ⟨(some 30), .call 10 [.t 29], none⟩,
        ⟨(some 27), .mv (.t 30), none⟩,
        ⟨(some 31), .ext (.t 27) 0, none⟩,
        ⟨(some 32), .ext (.t 27) 1, none⟩,
        ⟨(some 33), .ext (.t 27) 2, none⟩,
        ⟨(some 5), .mv (.t 31), none⟩,
        ⟨(some 6), .mv (.t 32), none⟩,
        ⟨(some 7), .mv (.t 33), none⟩] [3, 5, 6, 7]) (
      .seq (
       .seq (
        .ops [
          ⟨(some 34), .mv (.t 3), none⟩,
          ⟨(some 35), .len false (.t 34), none⟩,
          ⟨(some 36), .bin .gtr (.t 35) (.k (.d (.lit (.int .i64 16384)))), none⟩] [5, 6, 7, 36]) (
        .cond (.t 36) (
         .seq (
          .ops [
            ⟨(some 37), .mv (.t 5), none⟩,
            ⟨(some 38), .len false (.t 37), none⟩,
            ⟨(some 39), .bin .eql (.t 38) (.k (.d (.lit (.int .i64 0)))), none⟩,
            ⟨(some 40), .mv (.t 39), none⟩,
            ⟨(some 41), .mv (.t 6), (some (40, true))⟩,
            ⟨(some 42), .bin .eql (.t 41) (.k (.d (.lit (.int .i64 0)))), (some (40, true))⟩,
            ⟨(some 43), .pick (.t 40) (.t 42) (.k (.d (.lit (.bool false)))), none⟩,
            ⟨(some 44), .mv (.t 43), none⟩,
            ⟨(some 45), .mv (.t 7), (some (44, true))⟩,
            ⟨(some 46), .bin .eql (.t 45) (.k (.d (.lit (.int .i64 2)))), (some (44, true))⟩,
            ⟨(some 47), .pick (.t 44) (.t 46) (.k (.d (.lit (.bool false)))), none⟩,
            ⟨(some 48), .mv (.t 47), none⟩,
            ⟨(some 49), .call 9 [], (some (48, true))⟩,
            ⟨(some 50), .pick (.t 48) (.t 49) (.k (.d (.lit (.bool false)))), none⟩,
            ⟨(some 2), .mv (.t 50), none⟩] [2]) (
          .ret)) (
         .skip))) (
       .seq (
        .ops [
          ⟨(some 51), .mv (.t 5), none⟩,
          ⟨(some 52), .len false (.t 51), none⟩,
          ⟨(some 53), .bin .eql (.t 52) (.k (.d (.lit (.int .i64 1)))), none⟩,
          ⟨(some 54), .mv (.t 53), none⟩,
          ⟨(some 55), .mv (.t 6), (some (54, true))⟩,
          ⟨(some 56), .bin .eql (.t 55) (.k (.d (.lit (.int .i64 0)))), (some (54, true))⟩,
          ⟨(some 57), .pick (.t 54) (.t 56) (.k (.d (.lit (.bool false)))), none⟩,
          ⟨(some 58), .mv (.t 57), none⟩,
          ⟨(some 59), .mv (.t 7), (some (58, true))⟩,
          ⟨(some 60), .bin .eql (.t 59) (.k (.d (.lit (.int .i64 0)))), (some (58, true))⟩,
          ⟨(some 61), .pick (.t 58) (.t 60) (.k (.d (.lit (.bool false)))), none⟩,
          ⟨(some 62), .mv (.t 61), none⟩,
          ⟨(some 63), .call 9 [], (some (62, true))⟩,
          ⟨(some 64), .pick (.t 62) (.t 63) (.k (.d (.lit (.bool false)))), none⟩,
          ⟨(some 2), .mv (.t 64), none⟩] [2]) (
        .ret)))))))
def rs8 : List RV := [.t 2 false]
theorem k8 : okFn G.tab Tryd.f8 1 c8 rs8 = true := by kernel_rfl

/-- testbench/testbenchlaw07.awake -/
def c9 : Cd :=
 .seq (
  .ops [
    ⟨(some 0), .mv (.k (.d (.lit (.bool false)))), none⟩] []) (
  .seq (
   .ops [
     ⟨(some 10), .call 10 [.k (.d (.lit (.string ⟨#[120, 49, 60, 61, 50, 48, 47, 47, 121]⟩)))], none⟩,
     ⟨(some 9), .mv (.t 10), none⟩,
     ⟨(some 11), .ext (.t 9) 0, none⟩,
     ⟨(some 12), .ext (.t 9) 1, none⟩,
     ⟨(some 13), .ext (.t 9) 2, none⟩,
     ⟨(some 1), .mv (.t 11), none⟩,
     ⟨(some 2), .mv (.t 12), none⟩,
     ⟨(some 3), .mv (.t 13), none⟩] [1, 2, 3]) (
   .seq (
    .ops [
      ⟨(some 15), .call 10 [.k (.d (.lit (.string ⟨#[97, 10, 32, 48, 48, 55]⟩)))], none⟩,
      ⟨(some 14), .mv (.t 15), none⟩,
      ⟨(some 16), .ext (.t 14) 0, none⟩,
      ⟨(some 17), .ext (.t 14) 1, none⟩,
      ⟨(some 18), .ext (.t 14) 2, none⟩,
      ⟨(some 4), .mv (.t 16), none⟩,
      ⟨(some 5), .mv (.t 17), none⟩,
      ⟨(some 6), .mv (.t 18), none⟩] [1, 2, 3, 5, 6]) (
    .seq (
     .ops [
       ⟨(some 20), .mv (.t 1), none⟩,
       ⟨(some 21), .call 19 [.t 20], none⟩,
       ⟨(some 19), .mv (.t 21), none⟩,
       ⟨(some 22), .ext (.t 19) 0, none⟩,
       ⟨(some 23), .ext (.t 19) 1, none⟩,
       ⟨(some 7), .mv (.t 22), none⟩,
       ⟨(some 8), .mv (.t 23), none⟩] [1, 2, 3, 5, 6, 7, 8]) (
     .seq (
      .ops [
        ⟨(some 24), .mv (.t 1), none⟩,
        ⟨(some 25), .len false (.t 24), none⟩,
        ⟨(some 26), .bin .eql (.t 25) (.k (.d (.lit (.int .i64 3)))), none⟩,
        ⟨(some 27), .mv (.t 26), none⟩,
        ⟨(some 28), .mv (.t 1), (some (27, true))⟩,
        ⟨(some 29), .ia 4 (.t 28) (.k (.d (.lit (.int .i64 1)))), (some (27, true))⟩,
        ⟨(some 30), .load 4 true (.t 29), (some (27, true))⟩,
        ⟨(some 31), .bld [.d (.lit (.int .i64 0)), .d (.lit (.int .i64 0)), .d (.lit (.string ⟨#[]⟩)), .d (.lit (.int .i64 0))] [(0, 1, .k (.d (.lit (.int .i64 4)))), (2, 1, .k (.d (.lit (.string ⟨#[60, 61]⟩)))), (3, 1, .k (.d (.lit (.int .i64 1))))], (some (27, true))⟩,
        ⟨(some 32), .eqa false 30 [.i .i64, .i .i64, .s, .i .i64] (.t 30) (.t 31), (some (27, true))⟩,
        ⟨(some 33), .pick (.t 27) (.t 32) (.k (.d (.lit (.bool false)))), none⟩,
        ⟨(some 34), .mv (.t 33), none⟩,
        ⟨(some 35), .mv (.t 1), (some (34, true))⟩,
        ⟨(some 36), .ia 4 (.t 35) (.k (.d (.lit (.int .i64 2)))), (some (34, true))⟩,
        ⟨(some 37), .fa 1 (.t 36), (some (34, true))⟩,
        ⟨(some 38), .load 1 false (.t 37), (some (34, true))⟩,
        ⟨(some 39), .bin .eql (.t 38) (.k (.d (.lit (.int .i64 20)))), (some (34, true))⟩,
        ⟨(some 40), .pick (.t 34) (.t 39) (.k (.d (.lit (.bool false)))), none⟩,
        ⟨(some 41), .mv (.t 40), none⟩,
        ⟨(some 42), .mv (.t 2), (some (41, true))⟩,
        ⟨(some 43), .bin .eql (.t 42) (.k (.d (.lit (.int .i64 0)))), (some (41, true))⟩,
        ⟨(some 44), .pick (.t 41) (.t 43) (.k (.d (.lit (.bool false)))), none⟩,
        ⟨(some 45), .mv (.t 44), none⟩,
        ⟨(some 46), .mv (.t 3), (some (45, true))⟩,
        ⟨(some 47), .bin .eql (.t 46) (.k (.d (.lit (.int .i64 0)))), (some (45, true))⟩,
        ⟨(some 48), .pick (.t 45) (.t 47) (.k (.d (.lit (.bool false)))), none⟩,
        ⟨(some 49), .mv (.t 48), none⟩,
        ⟨(some 50), .mv (.t 5), (some (49, true))⟩,
        ⟨(some 51), .bin .eql (.t 50) (.k (.d (.lit (.int .i64 2)))), (some (49, true))⟩,
        ⟨(some 52), .pick (.t 49) (.t 51) (.k (.d (.lit (.bool false)))), none⟩,
        ⟨(some 53), .mv (.t 52), none⟩,
        ⟨(some 54), .mv (.t 6), (some (53, true))⟩,
        ⟨(some 55), .bin .eql (.t 54) (.k (.d (.lit (.int .i64 5)))), (some (53, true))⟩,
        ⟨(some 56), .pick (.t 53) (.t 55) (.k (.d (.lit (.bool false)))), none⟩,
        ⟨(some 57), .mv (.t 56), none⟩,
        ⟨(some 58), .mv (.t 7), (some (57, true))⟩,
        ⟨(some 59), .bin .eql (.t 58) (.k (.d (.lit (.string ⟨#[120, 49, 32, 60, 61, 32, 50, 48]⟩)))), (some (57, true))⟩,
        ⟨(some 60), .pick (.t 57) (.t 59) (.k (.d (.lit (.bool false)))), none⟩,
        ⟨(some 61), .mv (.t 60), none⟩,
        ⟨(some 62), .mv (.t 8), (some (61, true))⟩,
        ⟨(some 63), .bin .eql (.t 62) (.k (.d (.lit (.int .i64 0)))), (some (61, true))⟩,
        ⟨(some 64), .pick (.t 61) (.t 63) (.k (.d (.lit (.bool false)))), none⟩,
        ⟨(some 65), .mv (.t 64), none⟩,
        ⟨(some 66), .call 13 [.k (.d (.lit (.string ⟨#[120, 49]⟩)))], (some (65, true))⟩,
        ⟨(some 67), .pick (.t 65) (.t 66) (.k (.d (.lit (.bool false)))), none⟩,
        ⟨(some 68), .mv (.t 67), none⟩,
        ⟨(some 69), .call 13 [.k (.d (.lit (.string ⟨#[99, 108, 97, 115, 115]⟩)))], (some (68, true))⟩,
        ⟨(some 70), .un .not (.t 69), (some (68, true))⟩,
        ⟨(some 71), .pick (.t 68) (.t 70) (.k (.d (.lit (.bool false)))), none⟩,
        ⟨(some 72), .mv (.t 71), none⟩,
        ⟨(some 73), .call 15 [.k (.d (.lit (.string ⟨#[99, 108, 97, 115, 115]⟩)))], (some (72, true))⟩,
        ⟨(some 74), .pick (.t 72) (.t 73) (.k (.d (.lit (.bool false)))), none⟩,
        ⟨(some 75), .mv (.t 74), none⟩,
        ⟨(some 76), .call 17 [.k (.d (.lit (.string ⟨#[35, 35]⟩)))], (some (75, true))⟩,
        ⟨(some 77), .pick (.t 75) (.t 76) (.k (.d (.lit (.bool false)))), none⟩,
        ⟨(some 0), .mv (.t 77), none⟩] [0]) (
      .ret)))))
def rs9 : List RV := [.t 0 false]
theorem k9 : okFn G.tab Tryd.f9 0 c9 rs9 = true := by kernel_rfl

/-- testbench/testbenchref07.Tokens -/
def c11 : Cd :=
 .seq (
  .ops [
    ⟨(some 2), .mv (.k (.nil)), none⟩,
    ⟨(some 3), .mv (.k (.d (.lit (.int .i64 0)))), none⟩,
    ⟨(some 4), .mv (.k (.d (.lit (.int .i64 0)))), none⟩] [0]) (
  .seq (
   .seq (
    .ops [
      ⟨(some 9), .mv (.t 0), none⟩,
      ⟨(some 10), .len true (.t 9), none⟩,
      ⟨(some 11), .bin .gtr (.t 10) (.k (.d (.lit (.int .i64 16384)))), none⟩] [0, 11]) (
    .cond (.t 11) (
     .seq (
      .ops [
        ⟨(some 2), .mv (.k (.nil)), none⟩,
        ⟨(some 3), .mv (.k (.d (.lit (.int .i64 0)))), none⟩,
        ⟨(some 4), .mv (.k (.d (.lit (.int .i64 2)))), none⟩] [2, 3, 4]) (
      .ret)) (
     .skip))) (
   .seq (
    .ops [
      ⟨(some 5), .nilo 30 4, none⟩] [0, 5]) (
    .seq (
     .seq (
      .ops [
        ⟨(some 12), .mv (.t 0), none⟩,
        ⟨(some 13), .call 23 [.t 12, .k (.d (.lit (.int .i64 0)))], none⟩,
        ⟨(some 6), .mv (.t 13), none⟩] [0, 5, 6]) (
      .block 0 (
       .loop (
        .seq (
         .seq (
          .ops [
            ⟨(some 14), .mv (.t 6), none⟩,
            ⟨(some 15), .mv (.t 0), none⟩,
            ⟨(some 16), .len true (.t 15), none⟩,
            ⟨(some 17), .bin .lss (.t 14) (.t 16), none⟩] [0, 5, 6, 17]) (
          .cond (.t 17) (
           .skip) (
           .exit 0))) (
         .seq (
          .block 1 (
           .seq (
            .ops [
              ⟨(some 22), .mv (.t 0), none⟩,
              ⟨(some 23), .mv (.t 6), none⟩,
              ⟨(some 24), .call 24 [.t 22, .t 23], none⟩,
              ⟨(some 21), .mv (.t 24), none⟩,
              ⟨(some 25), .ext (.t 21) 0, none⟩,
              ⟨(some 26), .ext (.t 21) 1, none⟩,
              ⟨(some 7), .new 30 [.d (.lit (.int .i64 0)), .d (.lit (.int .i64 0)), .d (.lit (.string ⟨#[]⟩)), .d (.lit (.int .i64 0))], none⟩,
              ⟨none, .sto 4 (.t 7) (.t 25), none⟩,
              ⟨(some 8), .mv (.t 26), none⟩] [0, 5, 6, 7, 8]) (
            .seq (
             .seq (
              .ops [
                ⟨(some 27), .mv (.t 8), none⟩,
                ⟨(some 28), .bin .neq (.t 27) (.k (.d (.lit (.int .i64 0)))), none⟩] [0, 5, 6, 7, 8, 28]) (
              .cond (.t 28) (
               .seq (
                .ops [
                  ⟨(some 29), .mv (.t 0), none⟩,
                  ⟨(some 30), .mv (.t 6), none⟩,
                  ⟨(some 31), .call 25 [.t 29, .t 30], none⟩,
                  ⟨(some 32), .mv (.t 8), none⟩,
                  ⟨(some 2), .mv (.k (.nil)), none⟩,
                  ⟨(some 3), .mv (.t 31), none⟩,
                  ⟨(some 4), .mv (.t 32), none⟩] [2, 3, 4]) (
                .ret)) (
               .skip))) (
             .seq (
              .ops [
                ⟨(some 33), .mv (.t 0), none⟩,
                ⟨(some 34), .mv (.t 6), none⟩,
                ⟨(some 35), .call 25 [.t 33, .t 34], none⟩,
                ⟨(some 36), .fa 3 (.t 7), none⟩,
                ⟨none, .sto 1 (.t 36) (.t 35), none⟩] [0, 5, 6, 7]) (
              .seq (
               .ops [
                 ⟨(some 37), .mvo 5, none⟩,
                 ⟨(some 38), .load 4 true (.t 7), none⟩,
                 ⟨(some 39), .mks 30 4 [.t 38], none⟩,
                 ⟨(some 40), .app 30 4 40 37 (.t 39), none⟩,
                 ⟨(some 5), .mvo 40, none⟩] [0, 5, 6, 7]) (
               .ops [
                 ⟨(some 41), .mv (.t 6), none⟩,
                 ⟨(some 42), .fa 2 (.t 7), none⟩,
                 ⟨(some 43), .load 1 false (.t 42), none⟩,
                 ⟨(some 44), .len true (.t 43), none⟩,
                 ⟨(some 45), .bin .add (.t 41) (.t 44), none⟩,
                 ⟨(some 6), .mv (.t 45), none⟩] [0, 5, 6])))))) (
          .ops [
            ⟨(some 18), .mv (.t 0), none⟩,
            ⟨(some 19), .mv (.t 6), none⟩,
            ⟨(some 20), .call 23 [.t 18, .t 19], none⟩,
            ⟨(some 6), .mv (.t 20), none⟩] [0, 5, 6])))))) (
     .seq (
      .ops [
        ⟨(some 46), .mv (.t 5), none⟩,
        ⟨(some 2), .mv (.t 46), none⟩,
        ⟨(some 3), .mv (.k (.d (.lit (.int .i64 0)))), none⟩,
        ⟨(some 4), .mv (.k (.d (.lit (.int .i64 0)))), none⟩] [2, 3, 4]) (
      .ret)))))
def rs11 : List RV := [.t 2 false, .t 3 false, .t 4 false]
theorem k11 : okFn G.tab Tryd.f11 1 c11 rs11 = true := by kernel_rfl

/-- testbench/testbenchref07.Same -/
def c12 : Cd :=
 .seq (
  .ops [
    ⟨(some 4), .mv (.k (.d (.lit (.bool false)))), none⟩] [0, 1]) (
  .seq (
   .seq (
    .ops [
      ⟨(some 6), .mv (.t 0), none⟩,
      ⟨(some 7), .len false (.t 6), none⟩,
      ⟨(some 8), .mv (.t 1), none⟩,
      ⟨(some 9), .len false (.t 8), none⟩,
      ⟨(some 10), .bin .neq (.t 7) (.t 9), none⟩] [0, 1, 10]) (
    .cond (.t 10) (
     .seq (
      .ops [
        ⟨(some 4), .mv (.k (.d (.lit (.bool false)))), none⟩] [4]) (
      .ret)) (
     .skip))) (
   .seq (
    .seq (
     .ops [
       ⟨(some 5), .mv (.k (.d (.lit (.int .i64 0)))), none⟩] [0, 1, 5]) (
     .block 0 (
      .loop (
       .seq (
        .seq (
         .ops [
           ⟨(some 11), .mv (.t 5), none⟩,
           ⟨(some 12), .mv (.t 0), none⟩,
           ⟨(some 13), .len false (.t 12), none⟩,
           ⟨(some 14), .bin .lss (.t 11) (.t 13), none⟩] [0, 1, 5, 14]) (
         .cond (.t 14) (
          .skip) (
          .exit 0))) (
        .seq (
         .block 1 (
          .seq (
           .draw [
             ⟨(some 17), .mv (.t 0), none⟩,
             ⟨(some 18), .mv (.t 5), none⟩,
             ⟨(some 19), .ia 4 (.t 17) (.t 18), none⟩,
             ⟨(some 20), .load 4 true (.t 19), none⟩,
             ⟨(some 21), .mv (.t 1), none⟩,
             ⟨(some 22), .mv (.t 5), none⟩,
             ⟨(some 23), .ia 4 (.t 21) (.t 22), none⟩,
             ⟨(some 24), .load 4 true (.t 23), none⟩,
             ⟨(some 25), .eqa true 30 [.i .i64, .i .i64, .s, .i .i64] (.t 20) (.t 24), none⟩] [0, 1, 5, 25]) (
           .cond (.t 25) (
            .seq (
             .ops [
               ⟨(some 4), .mv (.k (.d (.lit (.bool false)))), none⟩] [4]) (
             .ret)) (
            .skip)))) (
         .ops [
           ⟨(some 15), .mv (.t 5), none⟩,
           ⟨(some 16), .bin .add (.t 15) (.k (.d (.lit (.int .i64 1)))), none⟩,
           ⟨(some 5), .mv (.t 16), none⟩] [0, 1, 5])))))) (
    .seq (
     .ops [
       ⟨(some 4), .mv (.k (.d (.lit (.bool true)))), none⟩] [4]) (
     .ret))))
def rs12 : List RV := [.t 4 false]
theorem k12 : okFn G.tab Tryd.f12 2 c12 rs12 = true := by kernel_rfl

/-- testbench/testbenchref07.IsMark -/
def c18 : Cd :=
 .seq (
  .ops [
    ⟨(some 2), .mv (.k (.d (.lit (.bool false)))), none⟩] [0]) (
  .seq (
   .ops [
     ⟨(some 3), .call 32 [], none⟩,
     ⟨(some 4), .mv (.t 0), none⟩,
     ⟨(some 5), .call 30 [.t 3, .t 4], none⟩,
     ⟨(some 2), .mv (.t 5), none⟩] [2]) (
   .ret))
def rs18 : List RV := [.t 2 false]
theorem k18 : okFn G.tab Tryd.f18 1 c18 rs18 = true := by kernel_rfl

/-- testbench/testbenchref07.IsKeyword -/
def c16 : Cd :=
 .seq (
  .ops [
    ⟨(some 2), .mv (.k (.d (.lit (.bool false)))), none⟩] [0]) (
  .seq (
   .ops [
     ⟨(some 3), .call 31 [], none⟩,
     ⟨(some 4), .mv (.t 0), none⟩,
     ⟨(some 5), .call 30 [.t 3, .t 4], none⟩,
     ⟨(some 2), .mv (.t 5), none⟩] [2]) (
   .ret))
def rs16 : List RV := [.t 2 false]
theorem k16 : okFn G.tab Tryd.f16 1 c16 rs16 = true := by kernel_rfl

/-- testbench/testbenchref07.IsName -/
def c14 : Cd :=
 .seq (
  .ops [
    ⟨(some 2), .mv (.k (.d (.lit (.bool false)))), none⟩] [0]) (
  .seq (
   .seq (
    .ops [
      ⟨(some 4), .mv (.t 0), none⟩,
      ⟨(some 5), .bin .eql (.t 4) (.k (.d (.lit (.string ⟨#[]⟩)))), none⟩,
      ⟨(some 6), .mv (.t 5), none⟩,
      ⟨(some 7), .mv (.t 0), (some (6, false))⟩,
      ⟨(some 8), .len true (.t 7), (some (6, false))⟩,
      ⟨(some 9), .bin .gtr (.t 8) (.k (.d (.lit (.int .i64 16)))), (some (6, false))⟩,
      ⟨(some 10), .pick (.t 6) (.k (.d (.lit (.bool true)))) (.t 9), none⟩,
      ⟨(some 11), .mv (.t 10), none⟩,
      ⟨(some 12), .mv (.t 0), (some (11, false))⟩,
      ⟨(some 13), .ix (.t 12) (.k (.d (.lit (.int .i64 0)))), (some (11, false))⟩,
      ⟨(some 14), .call 27 [.t 13], (some (11, false))⟩,
      ⟨(some 15), .un .not (.t 14), (some (11, false))⟩,
      ⟨(some 16), .pick (.t 11) (.k (.d (.lit (.bool true)))) (.t 15), none⟩,
      ⟨(some 17), .mv (.t 16), none⟩,
      ⟨(some 18), .mv (.t 0), (some (17, false))⟩,
      ⟨(some 19), .call 16 [.t 18], (some (17, false))⟩,
      ⟨(some 20), .pick (.t 17) (.k (.d (.lit (.bool true)))) (.t 19), none⟩] [0, 20]) (
    .cond (.t 20) (
     .seq (
      .ops [
        ⟨(some 2), .mv (.k (.d (.lit (.bool false)))), none⟩] [2]) (
      .ret)) (
     .skip))) (
   .seq (
    .seq (
     .ops [
       ⟨(some 3), .mv (.k (.d (.lit (.int .i64 0)))), none⟩] [0, 3]) (
     .block 0 (
      .loop (
       .seq (
        .seq (
         .ops [
           ⟨(some 21), .mv (.t 3), none⟩,
           ⟨(some 22), .mv (.t 0), none⟩,
           ⟨(some 23), .len true (.t 22), none⟩,
           ⟨(some 24), .bin .lss (.t 21) (.t 23), none⟩] [0, 3, 24]) (
         .cond (.t 24) (
          .skip) (
          .exit 0))) (
        .seq (
         .block 1 (
          .seq (
           .ops [
             ⟨(some 27), .mv (.t 0), none⟩,
             ⟨(some 28), .mv (.t 3), none⟩,
             ⟨(some 29), .ix (.t 27) (.t 28), none⟩,
             ⟨(some 30), .call 28 [.t 29], none⟩,
             ⟨(some 31), .un .not (.t 30), none⟩] [0, 3, 31]) (
           .cond (.t 31) (
            .seq (
             .ops [
               ⟨(some 2), .mv (.k (.d (.lit (.bool false)))), none⟩] [2]) (
             .ret)) (
            .skip)))) (
         .ops [
           ⟨(some 25), .mv (.t 3), none⟩,
           ⟨(some 26), .bin .add (.t 25) (.k (.d (.lit (.int .i64 1)))), none⟩,
           ⟨(some 3), .mv (.t 26), none⟩] [0, 3])))))) (
    .seq (
     .ops [
       ⟨(some 2), .mv (.k (.d (.lit (.bool true)))), none⟩] [2]) (
     .ret))))
def rs14 : List RV := [.t 2 false]
theorem k14 : okFn G.tab Tryd.f14 1 c14 rs14 = true := by kernel_rfl

/-- testbench/testbenchref07.Join -/
def c20 : Cd :=
 .seq (
  .ops [
    ⟨(some 2), .mv (.k (.d (.lit (.string ⟨#[]⟩)))), none⟩,
    ⟨(some 3), .mv (.k (.d (.lit (.int .i64 0)))), none⟩] [0]) (
  .seq (
   .ops [
     ⟨(some 4), .mv (.k (.d (.lit (.string ⟨#[]⟩)))), none⟩] [0, 4]) (
   .seq (
    .seq (
     .ops [
       ⟨(some 5), .mv (.k (.d (.lit (.int .i64 0)))), none⟩] [0, 4, 5]) (
     .block 0 (
      .loop (
       .seq (
        .seq (
         .ops [
           ⟨(some 6), .mv (.t 5), none⟩,
           ⟨(some 7), .mv (.t 0), none⟩,
           ⟨(some 8), .len false (.t 7), none⟩,
           ⟨(some 9), .bin .lss (.t 6) (.t 8), none⟩] [0, 4, 5, 9]) (
         .cond (.t 9) (
          .skip) (
          .exit 0))) (
        .seq (
         .block 1 (
          .seq (
           .seq (
            .ops [
              ⟨(some 12), .mv (.t 0), none⟩,
              ⟨(some 13), .mv (.t 5), none⟩,
              ⟨(some 14), .ia 4 (.t 12) (.t 13), none⟩,
              ⟨(some 15), .load 4 true (.t 14), none⟩,
              ⟨(some 16), .call 35 [.t 15], none⟩,
              ⟨(some 17), .un .not (.t 16), none⟩] [0, 4, 5, 17]) (
            .cond (.t 17) (
             .seq (
              .ops [
                ⟨(some 2), .mv (.k (.d (.lit (.string ⟨#[]⟩)))), none⟩,
                ⟨(some 3), .mv (.k (.d (.lit (.int .i64 1)))), none⟩] [2, 3]) (
              .ret)) (
             .skip))) (
           .seq (
            .seq (
             .ops [
               ⟨(some 18), .mv (.t 5), none⟩,
               ⟨(some 19), .bin .gtr (.t 18) (.k (.d (.lit (.int .i64 0)))), none⟩] [0, 4, 5, 19]) (
             .cond (.t 19) (
              .ops [
                ⟨(some 20), .mv (.t 4), none⟩,
                ⟨(some 21), .bin .add (.t 20) (.k (.d (.lit (.string ⟨#[32]⟩)))), none⟩,
                ⟨(some 4), .mv (.t 21), none⟩] [0, 4, 5]) (
              .skip))) (
            .ops [
              ⟨(some 22), .mv (.t 4), none⟩,
              ⟨(some 23), .mv (.t 0), none⟩,
              ⟨(some 24), .mv (.t 5), none⟩,
              ⟨(some 25), .ia 4 (.t 23) (.t 24), none⟩,
              ⟨(some 26), .fa 2 (.t 25), none⟩,
              ⟨(some 27), .load 1 false (.t 26), none⟩,
              ⟨(some 28), .bin .add (.t 22) (.t 27), none⟩,
              ⟨(some 4), .mv (.t 28), none⟩] [0, 4, 5])))) (
         .ops [
           ⟨(some 10), .mv (.t 5), none⟩,
           ⟨(some 11), .bin .add (.t 10) (.k (.d (.lit (.int .i64 1)))), none⟩,
           ⟨(some 5), .mv (.t 11), none⟩] [0, 4, 5])))))) (
    .seq (
     .ops [
       ⟨(some 29), .mv (.t 4), none⟩,
       ⟨(some 2), .mv (.t 29), none⟩,
       ⟨(some 3), .mv (.k (.d (.lit (.int .i64 0)))), none⟩] [2, 3]) (
     .ret))))
def rs20 : List RV := [.t 2 false, .t 3 false]
theorem k20 : okFn G.tab Tryd.f20 1 c20 rs20 = true := by kernel_rfl

/-- testbench/testbenchref07.blank -/
def c23 : Cd :=
 .seq (
  .ops [
    ⟨(some 4), .mv (.k (.d (.lit (.int .i64 0)))), none⟩] [0, 1]) (
  .seq (
   .block 0 (
    .loop (
     .seq (
      .seq (
       .ops [
         ⟨(some 5), .mv (.t 1), none⟩,
         ⟨(some 6), .mv (.t 0), none⟩,
         ⟨(some 7), .len true (.t 6), none⟩,
         ⟨(some 8), .bin .lss (.t 5) (.t 7), none⟩] [0, 1, 8]) (
       .cond (.t 8) (
        .skip) (
        .exit 0))) (
      .block 1 (
       .seq (
        .ops [
          ⟨(some 9), .mv (.t 0), none⟩,
          ⟨(some 10), .mv (.t 1), none⟩,
          ⟨(some 11), .ix (.t 9) (.t 10), none⟩,
          ⟨(some 12), .bin .eql (.t 11) (.k (.d (.lit (.int .u8 32)))), none⟩,
          ⟨(some 13), .mv (.t 12), none⟩,
          ⟨(some 14), .mv (.t 0), (some (13, false))⟩,
          ⟨(some 15), .mv (.t 1), (some (13, false))⟩,
          ⟨(some 16), .ix (.t 14) (.t 15), (some (13, false))⟩,
          ⟨(some 17), .bin .eql (.t 16) (.k (.d (.lit (.int .u8 9)))), (some (13, false))⟩,
          ⟨(some 18), .pick (.t 13) (.k (.d (.lit (.bool true)))) (.t 17), none⟩,
          ⟨(some 19), .mv (.t 18), none⟩,
          ⟨(some 20), .mv (.t 0), (some (19, false))⟩,
          ⟨(some 21), .mv (.t 1), (some (19, false))⟩,
          ⟨(some 22), .ix (.t 20) (.t 21), (some (19, false))⟩,
          ⟨(some 23), .bin .eql (.t 22) (.k (.d (.lit (.int .u8 10)))), (some (19, false))⟩,
          ⟨(some 24), .pick (.t 19) (.k (.d (.lit (.bool true)))) (.t 23), none⟩] [0, 1, 24]) (
        .cond (.t 24) (
         .ops [
           ⟨(some 25), .mv (.t 1), none⟩,
           ⟨(some 26), .bin .add (.t 25) (.k (.d (.lit (.int .i64 1)))), none⟩,
           ⟨(some 1), .mv (.t 26), none⟩] [0, 1]) (
         .seq (
          .ops [
            ⟨(some 27), .mv (.t 0), none⟩,
            ⟨(some 28), .mv (.t 1), none⟩,
            ⟨(some 29), .call 46 [.t 27, .t 28, .k (.d (.lit (.string ⟨#[47, 47]⟩)))], none⟩] [0, 1, 29]) (
          .cond (.t 29) (
           .block 2 (
            .loop (
             .seq (
              .seq (
               .ops [
                 ⟨(some 30), .mv (.t 1), none⟩,
                 ⟨(some 31), .mv (.t 0), none⟩,
                 ⟨(some 32), .len true (.t 31), none⟩,
                 ⟨(some 33), .bin .lss (.t 30) (.t 32), none⟩,
                 ⟨(some 34), .mv (.t 33), none⟩,
                 ⟨(some 35), .mv (.t 0), (some (34, true))⟩,
                 ⟨(some 36), .mv (.t 1), (some (34, true))⟩,
                 ⟨(some 37), .ix (.t 35) (.t 36), (some (34, true))⟩,
                 ⟨(some 38), .bin .neq (.t 37) (.k (.d (.lit (.int .u8 10)))), (some (34, true))⟩,
                 ⟨(some 39), .pick (.t 34) (.t 38) (.k (.d (.lit (.bool false)))), none⟩] [0, 1, 39]) (
               .cond (.t 39) (
                .skip) (
                .exit 2))) (
              .block 3 (
               .ops [
                 ⟨(some 40), .mv (.t 1), none⟩,
                 ⟨(some 41), .bin .add (.t 40) (.k (.d (.lit (.int .i64 1)))), none⟩,
                 ⟨(some 1), .mv (.t 41), none⟩] [0, 1]))))) (
           .seq (
            .ops [
              ⟨(some 42), .mv (.t 1), none⟩,
              ⟨(some 4), .mv (.t 42), none⟩] [4]) (
            .ret)))))))))) (
   .seq (
    .ops [
      ⟨(some 43), .mv (.t 1), none⟩,
      ⟨(some 4), .mv (.t 43), none⟩] [4]) (
    .ret)))
def rs23 : List RV := [.t 4 false]
theorem k23 : okFn G.tab Tryd.f23 2 c23 rs23 = true := by kernel_rfl

/-- testbench/testbenchref07.read -/
def c24 : Cd :=
 .seq (
  .ops [
    ⟨(some 4), .new 30 [.d (.lit (.int .i64 0)), .d (.lit (.int .i64 0)), .d (.lit (.string ⟨#[]⟩)), .d (.lit (.int .i64 0))], none⟩,
    ⟨(some 5), .mv (.k (.d (.lit (.int .i64 0)))), none⟩] [0, 1, 4]) (
  .seq (
   .seq (
    .ops [
      ⟨(some 11), .mv (.t 0), none⟩,
      ⟨(some 12), .mv (.t 1), none⟩,
      ⟨(some 13), .ix (.t 11) (.t 12), none⟩,
      ⟨(some 14), .call 27 [.t 13], none⟩] [0, 1, 4, 14]) (
    .cond (.t 14) (
     .seq (
      .ops [
        ⟨(some 15), .mv (.t 0), none⟩,
        ⟨(some 16), .mv (.t 1), none⟩,
        ⟨(some 17), .mv (.t 0), none⟩,
        ⟨(some 18), .mv (.t 1), none⟩,
        ⟨(some 19), .call 47 [.t 17, .t 18], none⟩,
        ⟨(some 20), .sub true 0 (.t 15) (some (.t 16)) (some (.t 19)), none⟩,
        ⟨(some 6), .mv (.t 20), none⟩] [4, 6]) (
      .seq (
       .seq (
        .ops [
          ⟨(some 21), .mv (.t 6), none⟩,
          ⟨(some 22), .len true (.t 21), none⟩,
          ⟨(some 23), .bin .gtr (.t 22) (.k (.d (.lit (.int .i64 16)))), none⟩] [4, 6, 23]) (
        .cond (.t 23) (
         .seq (
          .ops [
            ⟨(some 24), .bld [.d (.lit (.int .i64 0)), .d (.lit (.int .i64 0)), .d (.lit (.string ⟨#[]⟩)), .d (.lit (.int .i64 0))] [], none⟩,
            ⟨none, .sto 4 (.t 4) (.t 24), none⟩,
            ⟨(some 5), .mv (.k (.d (.lit (.int .i64 2)))), none⟩] [4, 5]) (
          .ret)) (
         .skip))) (
       .seq (
        .seq (
         .ops [
           ⟨(some 25), .mv (.t 6), none⟩,
           ⟨(some 26), .call 16 [.t 25], none⟩] [4, 6, 26]) (
         .cond (.t 26) (
          .seq (
           .ops [
             ⟨(some 27), .mv (.t 6), none⟩,
             ⟨(some 28), .bld [.d (.lit (.int .i64 0)), .d (.lit (.int .i64 0)), .d (.lit (.string ⟨#[]⟩)), .d (.lit (.int .i64 0))] [(0, 1, .k (.d (.lit (.int .i64 2)))), (2, 1, .t 27)], none⟩,
             ⟨none, .sto 4 (.t 4) (.t 28), none⟩,
             ⟨(some 5), .mv (.k (.d (.lit (.int .i64 0)))), none⟩] [4, 5]) (
           .ret)) (
          .skip))) (
        .seq (
         .ops [
           ⟨(some 29), .mv (.t 6), none⟩,
           ⟨(some 30), .bld [.d (.lit (.int .i64 0)), .d (.lit (.int .i64 0)), .d (.lit (.string ⟨#[]⟩)), .d (.lit (.int .i64 0))] [(0, 1, .k (.d (.lit (.int .i64 1)))), (2, 1, .t 29)], none⟩,
           ⟨none, .sto 4 (.t 4) (.t 30), none⟩,
           ⟨(some 5), .mv (.k (.d (.lit (.int .i64 0)))), none⟩] [4, 5]) (
         .ret))))) (
     .skip))) (
   .seq (
    .seq (
     .ops [
       ⟨(some 31), .mv (.t 0), none⟩,
       ⟨(some 32), .mv (.t 1), none⟩,
       ⟨(some 33), .ix (.t 31) (.t 32), none⟩,
       ⟨(some 34), .call 48 [.t 33], none⟩] [0, 1, 4, 34]) (
     .cond (.t 34) (
      .seq (
       .ops [
         ⟨(some 35), .mv (.t 0), none⟩,
         ⟨(some 36), .mv (.t 1), none⟩,
         ⟨(some 37), .mv (.t 0), none⟩,
         ⟨(some 38), .mv (.t 1), none⟩,
         ⟨(some 39), .call 47 [.t 37, .t 38], none⟩,
         ⟨(some 40), .sub true 0 (.t 35) (some (.t 36)) (some (.t 39)), none⟩,
         ⟨(some 7), .mv (.t 40), none⟩] [4, 7]) (
       .seq (
        .ops [
          ⟨(some 42), .mv (.t 7), none⟩,
          ⟨(some 43), .call 49 [.t 42], none⟩,
          ⟨(some 41), .mv (.t 43), none⟩,
          ⟨(some 44), .ext (.t 41) 0, none⟩,
          ⟨(some 45), .ext (.t 41) 1, none⟩,
          ⟨(some 8), .mv (.t 44), none⟩,
          ⟨(some 9), .mv (.t 45), none⟩] [4, 7, 8, 9]) (
        .seq (
         .seq (
          .ops [
            ⟨(some 46), .mv (.t 9), none⟩,
            ⟨(some 47), .bin .eql (.t 46) (.k (.d (.lit (.int .i64 5)))), none⟩] [4, 7, 8, 9, 47]) (
          .cond (.t 47) (
           .seq (
            .ops [
              ⟨(some 48), .bld [.d (.lit (.int .i64 0)), .d (.lit (.int .i64 0)), .d (.lit (.string ⟨#[]⟩)), .d (.lit (.int .i64 0))] [], none⟩,
              ⟨(some 49), .mv (.t 9), none⟩,
              ⟨none, .sto 4 (.t 4) (.t 48), none⟩,
              ⟨(some 5), .mv (.t 49), none⟩] [4, 5]) (
            .ret)) (
           .skip))) (
         .seq (
          .seq (
           .ops [
             ⟨(some 50), .mv (.t 9), none⟩,
             ⟨(some 51), .bin .neq (.t 50) (.k (.d (.lit (.int .i64 0)))), none⟩,
             ⟨(some 52), .mv (.t 51), none⟩,
             ⟨(some 53), .mv (.t 8), (some (52, false))⟩,
             ⟨(some 54), .bin .gtr (.t 53) (.k (.d (.lit (.int .i64 2147483647)))), (some (52, false))⟩,
             ⟨(some 55), .pick (.t 52) (.k (.d (.lit (.bool true)))) (.t 54), none⟩] [4, 7, 8, 55]) (
           .cond (.t 55) (
            .seq (
             .ops [
               ⟨(some 56), .bld [.d (.lit (.int .i64 0)), .d (.lit (.int .i64 0)), .d (.lit (.string ⟨#[]⟩)), .d (.lit (.int .i64 0))] [], none⟩,
               ⟨none, .sto 4 (.t 4) (.t 56), none⟩,
               ⟨(some 5), .mv (.k (.d (.lit (.int .i64 3)))), none⟩] [4, 5]) (
             .ret)) (
            .skip))) (
          .seq (
           .ops [
             ⟨(some 57), .mv (.t 8), none⟩,
             ⟨(some 58), .mv (.t 7), none⟩,
             ⟨(some 59), .bld [.d (.lit (.int .i64 0)), .d (.lit (.int .i64 0)), .d (.lit (.string ⟨#[]⟩)), .d (.lit (.int .i64 0))] [(0, 1, .k (.d (.lit (.int .i64 3)))), (1, 1, .t 57), (2, 1, .t 58)], none⟩,
             ⟨none, .sto 4 (.t 4) (.t 59), none⟩,
             ⟨(some 5), .mv (.k (.d (.lit (.int .i64 0)))), none⟩] [4, 5]) (
           .ret)))))) (
      .skip))) (
    .seq (
     .ops [
       ⟨(some 60), .mv (.t 0), none⟩,
       ⟨(some 61), .mv (.t 1), none⟩,
       ⟨(some 62), .call 50 [.t 60, .t 61], none⟩,
       ⟨(some 10), .mv (.t 62), none⟩] [4, 10]) (
     .seq (
      .seq (
       .ops [
         ⟨(some 63), .mv (.t 10), none⟩,
         ⟨(some 64), .bin .eql (.t 63) (.k (.d (.lit (.string ⟨#[]⟩)))), none⟩] [4, 10, 64]) (
       .cond (.t 64) (
        .seq (
         .ops [
           ⟨(some 65), .bld [.d (.lit (.int .i64 0)), .d (.lit (.int .i64 0)), .d (.lit (.string ⟨#[]⟩)), .d (.lit (.int .i64 0))] [], none⟩,
           ⟨none, .sto 4 (.t 4) (.t 65), none⟩,
           ⟨(some 5), .mv (.k (.d (.lit (.int .i64 5)))), none⟩] [4, 5]) (
         .ret)) (
        .skip))) (
      .seq (
       .ops [
         ⟨(some 66), .mv (.t 10), none⟩,
         ⟨(some 67), .bld [.d (.lit (.int .i64 0)), .d (.lit (.int .i64 0)), .d (.lit (.string ⟨#[]⟩)), .d (.lit (.int .i64 0))] [(0, 1, .k (.d (.lit (.int .i64 4)))), (2, 1, .t 66)], none⟩,
         ⟨none, .sto 4 (.t 4) (.t 67), none⟩,
         ⟨(some 5), .mv (.k (.d (.lit (.int .i64 0)))), none⟩] [4, 5]) (
       .ret))))))
def rs24 : List RV := [.c 4 4 true, .t 5 false]
theorem k24 : okFn G.tab Tryd.f24 2 c24 rs24 = true := by kernel_rfl

/-- testbench/testbenchref07.line -/
def c25 : Cd :=
 .seq (
  .ops [
    ⟨(some 4), .mv (.k (.d (.lit (.int .i64 0)))), none⟩] [0, 1]) (
  .seq (
   .ops [
     ⟨(some 5), .mv (.k (.d (.lit (.int .i64 1)))), none⟩] [0, 1, 5]) (
   .seq (
    .seq (
     .ops [
       ⟨(some 6), .mv (.k (.d (.lit (.int .i64 0)))), none⟩] [0, 1, 5, 6]) (
     .block 0 (
      .loop (
       .seq (
        .seq (
         .ops [
           ⟨(some 7), .mv (.t 6), none⟩,
           ⟨(some 8), .mv (.t 1), none⟩,
           ⟨(some 9), .bin .lss (.t 7) (.t 8), none⟩] [0, 1, 5, 6, 9]) (
         .cond (.t 9) (
          .skip) (
          .exit 0))) (
        .seq (
         .block 1 (
          .seq (
           .ops [
             ⟨(some 12), .mv (.t 0), none⟩,
             ⟨(some 13), .mv (.t 6), none⟩,
             ⟨(some 14), .ix (.t 12) (.t 13), none⟩,
             ⟨(some 15), .bin .eql (.t 14) (.k (.d (.lit (.int .u8 10)))), none⟩] [0, 1, 5, 6, 15]) (
           .cond (.t 15) (
            .ops [
              ⟨(some 16), .mv (.t 5), none⟩,
              ⟨(some 17), .bin .add (.t 16) (.k (.d (.lit (.int .i64 1)))), none⟩,
              ⟨(some 5), .mv (.t 17), none⟩] [0, 1, 5, 6]) (
            .skip)))) (
         .ops [
           ⟨(some 10), .mv (.t 6), none⟩,
           ⟨(some 11), .bin .add (.t 10) (.k (.d (.lit (.int .i64 1)))), none⟩,
           ⟨(some 6), .mv (.t 11), none⟩] [0, 1, 5, 6])))))) (
    .seq (
     .ops [
       ⟨(some 18), .mv (.t 5), none⟩,
       ⟨(some 4), .mv (.t 18), none⟩] [4]) (
     .ret))))
def rs25 : List RV := [.t 4 false]
theorem k25 : okFn G.tab Tryd.f25 2 c25 rs25 = true := by kernel_rfl

/-- testbench/testbenchref07.small -/
def c27 : Cd :=
 .seq (
  .ops [
    ⟨(some 2), .mv (.k (.d (.lit (.bool false)))), none⟩] [0]) (
  .seq (
   .ops [
     ⟨(some 3), .mv (.t 0), none⟩,
     ⟨(some 4), .bin .geq (.t 3) (.k (.d (.lit (.int .u8 97)))), none⟩,
     ⟨(some 5), .mv (.t 4), none⟩,
     ⟨(some 6), .mv (.t 0), (some (5, true))⟩,
     ⟨(some 7), .bin .leq (.t 6) (.k (.d (.lit (.int .u8 122)))), (some (5, true))⟩,
     ⟨(some 8), .pick (.t 5) (.t 7) (.k (.d (.lit (.bool false)))), none⟩,
     ⟨(some 2), .mv (.t 8), none⟩] [2]) (
   .ret))
def rs27 : List RV := [.t 2 false]
theorem k27 : okFn G.tab Tryd.f27 1 c27 rs27 = true := by kernel_rfl

/-- testbench/testbenchref07.inner -/
def c28 : Cd :=
 .seq (
  .ops [
    ⟨(some 2), .mv (.k (.d (.lit (.bool false)))), none⟩] [0]) (
  .seq (
   .ops [
     ⟨(some 3), .mv (.t 0), none⟩,
     ⟨(some 4), .call 27 [.t 3], none⟩,
     ⟨(some 5), .mv (.t 4), none⟩,
     ⟨(some 6), .mv (.t 0), (some (5, false))⟩,
     ⟨(some 7), .call 48 [.t 6], (some (5, false))⟩,
     ⟨(some 8), .pick (.t 5) (.k (.d (.lit (.bool true)))) (.t 7), none⟩,
     ⟨(some 9), .mv (.t 8), none⟩,
     ⟨(some 10), .mv (.t 0), (some (9, false))⟩,
     ⟨(some 11), .bin .geq (.t 10) (.k (.d (.lit (.int .u8 65)))), (some (9, false))⟩,
     ⟨(some 12), .mv (.t 11), (some (9, false))⟩,
     ⟨(some 13), .mv (.t 0), (some (12, true))⟩,
     ⟨(some 14), .bin .leq (.t 13) (.k (.d (.lit (.int .u8 90)))), (some (12, true))⟩,
     ⟨(some 15), .pick (.t 12) (.t 14) (.k (.d (.lit (.bool false)))), (some (9, false))⟩,
     ⟨(some 16), .pick (.t 9) (.k (.d (.lit (.bool true)))) (.t 15), none⟩,
     ⟨(some 17), .mv (.t 16), none⟩,
     ⟨(some 18), .mv (.t 0), (some (17, false))⟩,
     ⟨(some 19), .bin .eql (.t 18) (.k (.d (.lit (.int .u8 95)))), (some (17, false))⟩,
     ⟨(some 20), .pick (.t 17) (.k (.d (.lit (.bool true)))) (.t 19), none⟩,
     ⟨(some 2), .mv (.t 20), none⟩] [2]) (
   .ret))
def rs28 : List RV := [.t 2 false]
theorem k28 : okFn G.tab Tryd.f28 1 c28 rs28 = true := by kernel_rfl

/-- testbench/testbenchref07.digit -/
def c48 : Cd :=
 .seq (
  .ops [
    ⟨(some 2), .mv (.k (.d (.lit (.bool false)))), none⟩] [0]) (
  .seq (
   .ops [
     ⟨(some 3), .mv (.t 0), none⟩,
     ⟨(some 4), .bin .geq (.t 3) (.k (.d (.lit (.int .u8 48)))), none⟩,
     ⟨(some 5), .mv (.t 4), none⟩,
     ⟨(some 6), .mv (.t 0), (some (5, true))⟩,
     ⟨(some 7), .bin .leq (.t 6) (.k (.d (.lit (.int .u8 57)))), (some (5, true))⟩,
     ⟨(some 8), .pick (.t 5) (.t 7) (.k (.d (.lit (.bool false)))), none⟩,
     ⟨(some 2), .mv (.t 8), none⟩] [2]) (
   .ret))
def rs48 : List RV := [.t 2 false]
theorem k48 : okFn G.tab Tryd.f48 1 c48 rs48 = true := by kernel_rfl

/-- testbench/testbenchref07.has -/
def c30 : Cd :=
 .seq (
  .ops [
    ⟨(some 4), .mv (.k (.d (.lit (.bool false)))), none⟩] [0, 1]) (
  .seq (
   .seq (
    .ops [
      ⟨(some 5), .mv (.k (.d (.lit (.int .i64 0)))), none⟩] [0, 1, 5]) (
    .block 0 (
     .loop (
      .seq (
       .seq (
        .ops [
          ⟨(some 6), .mv (.t 5), none⟩,
          ⟨(some 7), .mv (.t 0), none⟩,
          ⟨(some 8), .len false (.t 7), none⟩,
          ⟨(some 9), .bin .lss (.t 6) (.t 8), none⟩] [0, 1, 5, 9]) (
        .cond (.t 9) (
         .skip) (
         .exit 0))) (
       .seq (
        .block 1 (
         .seq (
          .ops [
            ⟨(some 12), .mv (.t 0), none⟩,
            ⟨(some 13), .mv (.t 5), none⟩,
            ⟨(some 14), .ia 1 (.t 12) (.t 13), none⟩,
            ⟨(some 15), .load 1 false (.t 14), none⟩,
            ⟨(some 16), .mv (.t 1), none⟩,
            ⟨(some 17), .bin .eql (.t 15) (.t 16), none⟩] [0, 1, 5, 17]) (
          .cond (.t 17) (
           .seq (
            .ops [
              ⟨(some 4), .mv (.k (.d (.lit (.bool true)))), none⟩] [4]) (
            .ret)) (
           .skip)))) (
        .ops [
          ⟨(some 10), .mv (.t 5), none⟩,
          ⟨(some 11), .bin .add (.t 10) (.k (.d (.lit (.int .i64 1)))), none⟩,
          ⟨(some 5), .mv (.t 11), none⟩] [0, 1, 5])))))) (
   .seq (
    .ops [
      ⟨(some 4), .mv (.k (.d (.lit (.bool false)))), none⟩] [4]) (
    .ret)))
def rs30 : List RV := [.t 4 false]
theorem k30 : okFn G.tab Tryd.f30 2 c30 rs30 = true := by kernel_rfl

/-- testbench/testbenchref07.keywords -/
def c31 : Cd :=
 .seq (
  .ops [
    ⟨(some 0), .mv (.k (.nil)), none⟩] []) (
  .seq (
   .ops [
     ⟨(some 1), .mks 9 1 [.k (.d (.lit (.string ⟨#[99, 108, 97, 115, 115]⟩))), .k (.d (.lit (.string ⟨#[101, 120, 116, 101, 110, 100, 115]⟩))), .k (.d (.lit (.string ⟨#[114, 97, 110, 100]⟩))), .k (.d (.lit (.string ⟨#[114, 97, 110, 100, 99]⟩))), .k (.d (.lit (.string ⟨#[115, 116, 97, 116, 101]⟩))), .k (.d (.lit (.string ⟨#[99, 111, 110, 115, 116, 114, 97, 105, 110, 116]⟩))), .k (.d (.lit (.string ⟨#[115, 111, 102, 116]⟩))), .k (.d (.lit (.string ⟨#[100, 105, 115, 116]⟩))), .k (.d (.lit (.string ⟨#[105, 102]⟩))), .k (.d (.lit (.string ⟨#[101, 108, 115, 101]⟩))), .k (.d (.lit (.string ⟨#[101, 97, 99, 104]⟩))), .k (.d (.lit (.string ⟨#[105, 110]⟩))), .k (.d (.lit (.string ⟨#[115, 111, 108, 118, 101]⟩))), .k (.d (.lit (.string ⟨#[98, 101, 102, 111, 114, 101]⟩))), .k (.d (.lit (.string ⟨#[105, 110, 115, 105, 100, 101]⟩))), .k (.d (.lit (.string ⟨#[112, 114, 111, 112, 101, 114, 116, 121]⟩))), .k (.d (.lit (.string ⟨#[115, 101, 113]⟩))), .k (.d (.lit (.string ⟨#[97, 110, 100]⟩))), .k (.d (.lit (.string ⟨#[111, 114]⟩))), .k (.d (.lit (.string ⟨#[110, 111, 116]⟩))), .k (.d (.lit (.string ⟨#[115, 101, 116]⟩))), .k (.d (.lit (.string ⟨#[104, 111, 108, 100]⟩))), .k (.d (.lit (.string ⟨#[112, 108, 97, 105, 110]⟩))), .k (.d (.lit (.string ⟨#[114, 101, 112, 101, 97, 116]⟩)))], none⟩,
     ⟨(some 0), .mv (.t 1), none⟩] [0]) (
   .ret))
def rs31 : List RV := [.t 0 false]
theorem k31 : okFn G.tab Tryd.f31 0 c31 rs31 = true := by kernel_rfl

/-- testbench/testbenchref07.marks -/
def c32 : Cd :=
 .seq (
  .ops [
    ⟨(some 0), .mv (.k (.nil)), none⟩] []) (
  .seq (
   .ops [
     ⟨(some 1), .mks 9 1 [.k (.d (.lit (.string ⟨#[40]⟩))), .k (.d (.lit (.string ⟨#[41]⟩))), .k (.d (.lit (.string ⟨#[123]⟩))), .k (.d (.lit (.string ⟨#[125]⟩))), .k (.d (.lit (.string ⟨#[91]⟩))), .k (.d (.lit (.string ⟨#[93]⟩))), .k (.d (.lit (.string ⟨#[44]⟩))), .k (.d (.lit (.string ⟨#[59]⟩))), .k (.d (.lit (.string ⟨#[58]⟩))), .k (.d (.lit (.string ⟨#[46, 46]⟩))), .k (.d (.lit (.string ⟨#[63]⟩))), .k (.d (.lit (.string ⟨#[61]⟩))), .k (.d (.lit (.string ⟨#[61, 61]⟩))), .k (.d (.lit (.string ⟨#[33, 61]⟩))), .k (.d (.lit (.string ⟨#[60]⟩))), .k (.d (.lit (.string ⟨#[60, 61]⟩))), .k (.d (.lit (.string ⟨#[62]⟩))), .k (.d (.lit (.string ⟨#[62, 61]⟩))), .k (.d (.lit (.string ⟨#[60, 60]⟩))), .k (.d (.lit (.string ⟨#[62, 62]⟩))), .k (.d (.lit (.string ⟨#[43]⟩))), .k (.d (.lit (.string ⟨#[45]⟩))), .k (.d (.lit (.string ⟨#[42]⟩))), .k (.d (.lit (.string ⟨#[38]⟩))), .k (.d (.lit (.string ⟨#[124]⟩))), .k (.d (.lit (.string ⟨#[94]⟩))), .k (.d (.lit (.string ⟨#[126]⟩))), .k (.d (.lit (.string ⟨#[33]⟩))), .k (.d (.lit (.string ⟨#[38, 38]⟩))), .k (.d (.lit (.string ⟨#[124, 124]⟩))), .k (.d (.lit (.string ⟨#[45, 62]⟩))), .k (.d (.lit (.string ⟨#[61, 62]⟩))), .k (.d (.lit (.string ⟨#[58, 61]⟩))), .k (.d (.lit (.string ⟨#[58, 47]⟩))), .k (.d (.lit (.string ⟨#[35, 35]⟩))), .k (.d (.lit (.string ⟨#[64]⟩)))], none⟩,
     ⟨(some 0), .mv (.t 1), none⟩] [0]) (
   .ret))
def rs32 : List RV := [.t 0 false]
theorem k32 : okFn G.tab Tryd.f32 0 c32 rs32 = true := by kernel_rfl

/-- testbench/testbenchref07.valid -/
def c35 : Cd :=
 .seq (
  .ops [
    ⟨(some 1), .box 30 (.t 0), none⟩,
    ⟨(some 2), .mv (.k (.d (.lit (.bool false)))), none⟩] [1]) (
  .seq (
   .seq (
    .ops [
      ⟨(some 3), .fa 0 (.t 1), none⟩,
      ⟨(some 4), .load 1 false (.t 3), none⟩] [1, 4]) (
    .block 0 (
     .seq (
      .ops [
        ⟨(some 6), .bin .eql (.t 4) (.k (.d (.lit (.int .i64 1)))), none⟩,
        ⟨(some 5), .mv (.t 6), none⟩] [1, 4, 5]) (
      .cond (.t 5) (
       .seq (
        .ops [
          ⟨(some 7), .fa 1 (.t 1), none⟩,
          ⟨(some 8), .load 1 false (.t 7), none⟩,
          ⟨(some 9), .bin .eql (.t 8) (.k (.d (.lit (.int .i64 0)))), none⟩,
          ⟨(some 10), .mv (.t 9), none⟩,
          ⟨(some 11), .fa 2 (.t 1), (some (10, true))⟩,
          ⟨(some 12), .load 1 false (.t 11), (some (10, true))⟩,
          ⟨(some 13), .call 14 [.t 12], (some (10, true))⟩,
          ⟨(some 14), .pick (.t 10) (.t 13) (.k (.d (.lit (.bool false)))), none⟩,
          ⟨(some 2), .mv (.t 14), none⟩] [2]) (
        .ret)) (
       .seq (
        .ops [
          ⟨(some 16), .bin .eql (.t 4) (.k (.d (.lit (.int .i64 2)))), none⟩,
          ⟨(some 15), .mv (.t 16), none⟩] [1, 4, 15]) (
        .cond (.t 15) (
         .seq (
          .ops [
            ⟨(some 17), .fa 1 (.t 1), none⟩,
            ⟨(some 18), .load 1 false (.t 17), none⟩,
            ⟨(some 19), .bin .eql (.t 18) (.k (.d (.lit (.int .i64 0)))), none⟩,
            ⟨(some 20), .mv (.t 19), none⟩,
            ⟨(some 21), .fa 2 (.t 1), (some (20, true))⟩,
            ⟨(some 22), .load 1 false (.t 21), (some (20, true))⟩,
            ⟨(some 23), .call 16 [.t 22], (some (20, true))⟩,
            ⟨(some 24), .pick (.t 20) (.t 23) (.k (.d (.lit (.bool false)))), none⟩,
            ⟨(some 2), .mv (.t 24), none⟩] [2]) (
          .ret)) (
         .seq (
          .ops [
            ⟨(some 26), .bin .eql (.t 4) (.k (.d (.lit (.int .i64 3)))), none⟩,
            ⟨(some 25), .mv (.t 26), none⟩] [1, 4, 25]) (
          .cond (.t 25) (
           .seq (
            .draw [
              ⟨(some 27), .fa 1 (.t 1), none⟩,
              ⟨(some 28), .load 1 false (.t 27), none⟩,
              ⟨(some 29), .bin .geq (.t 28) (.k (.d (.lit (.int .i64 0)))), none⟩,
              ⟨(some 30), .mv (.t 29), none⟩,
              ⟨(some 31), .fa 1 (.t 1), (some (30, true))⟩,
              ⟨(some 32), .load 1 false (.t 31), (some (30, true))⟩,
              ⟨(some 33), .bin .leq (.t 32) (.k (.d (.lit (.int .i64 2147483647)))), (some (30, true))⟩,
              ⟨(some 34), .pick (.t 30) (.t 33) (.k (.d (.lit (.bool false)))), none⟩,
              ⟨(some 35), .mv (.t 34), none⟩,
              ⟨(some 36), .fa 2 (.t 1), (some (35, true))⟩,
              ⟨(some 37), .load 1 false (.t 36), (some (35, true))⟩,
              ⟨(some 38), .fa 1 (.t 1), (some (35, true))⟩,
              ⟨(some 39), .load 1 false (.t 38), (some (35, true))⟩,
              ⟨(some 40), .call 57 [.t 39], (some (35, true))⟩,
              ⟨(some 41), .bin .eql (.t 37) (.t 40), (some (35, true))⟩,
              ⟨(some 42), .pick (.t 35) (.t 41) (.k (.d (.lit (.bool false)))), none⟩,
              ⟨(some 2), .mv (.t 42), none⟩] [2]) (
            .ret)) (
           .seq (
            .ops [
              ⟨(some 44), .bin .eql (.t 4) (.k (.d (.lit (.int .i64 4)))), none⟩,
              ⟨(some 43), .mv (.t 44), none⟩] [1, 43]) (
            .cond (.t 43) (
             .seq (
              .ops [
                ⟨(some 45), .fa 1 (.t 1), none⟩,
                ⟨(some 46), .load 1 false (.t 45), none⟩,
                ⟨(some 47), .bin .eql (.t 46) (.k (.d (.lit (.int .i64 0)))), none⟩,
                ⟨(some 48), .mv (.t 47), none⟩,
                ⟨(some 49), .fa 2 (.t 1), (some (48, true))⟩,
                ⟨(some 50), .load 1 false (.t 49), (some (48, true))⟩,
                ⟨(some 51), .call 18 [.t 50], (some (48, true))⟩,
                ⟨(some 52), .pick (.t 48) (.t 51) (.k (.d (.lit (.bool false)))), none⟩,
                ⟨(some 2), .mv (.t 52), none⟩] [2]) (
              .ret)) (
             .skip))))))))))) (
   .seq (
    .ops [
      ⟨(some 2), .mv (.k (.d (.lit (.bool false)))), none⟩] [2]) (
    .ret)))
def rs35 : List RV := [.t 2 false]
theorem k35 : okFn G.tab Tryd.f35 1 c35 rs35 = true := by kernel_rfl

/-- testbench/testbenchref07.starts -/
def c46 : Cd :=
 .seq (
  .ops [
    ⟨(some 6), .mv (.k (.d (.lit (.bool false)))), none⟩] [0, 1, 2]) (
  .seq (
   .ops [
     ⟨(some 7), .mv (.t 0), none⟩,
     ⟨(some 8), .len true (.t 7), none⟩,
     ⟨(some 9), .mv (.t 1), none⟩,
     ⟨(some 10), .bin .sub (.t 8) (.t 9), none⟩,
     ⟨(some 11), .mv (.t 2), none⟩,
     ⟨(some 12), .len true (.t 11), none⟩,
     ⟨(some 13), .bin .geq (.t 10) (.t 12), none⟩,
     ⟨(some 14), .mv (.t 13), none⟩,
     ⟨(some 15), .mv (.t 0), (some (14, true))⟩,
     ⟨(some 16), .mv (.t 1), (some (14, true))⟩,
     ⟨(some 17), .mv (.t 1), (some (14, true))⟩,
     ⟨(some 18), .mv (.t 2), (some (14, true))⟩,
     ⟨(some 19), .len true (.t 18), (some (14, true))⟩,
     ⟨(some 20), .bin .add (.t 17) (.t 19), (some (14, true))⟩,
     ⟨(some 21), .sub true 0 (.t 15) (some (.t 16)) (some (.t 20)), (some (14, true))⟩,
     ⟨(some 22), .mv (.t 2), (some (14, true))⟩,
     ⟨(some 23), .bin .eql (.t 21) (.t 22), (some (14, true))⟩,
     ⟨(some 24), .pick (.t 14) (.t 23) (.k (.d (.lit (.bool false)))), none⟩,
     ⟨(some 6), .mv (.t 24), none⟩] [6]) (
   .ret))
def rs46 : List RV := [.t 6 false]
theorem k46 : okFn G.tab Tryd.f46 3 c46 rs46 = true := by kernel_rfl

/-- testbench/testbenchref07.behind -/
def c47 : Cd :=
 .seq (
  .ops [
    ⟨(some 4), .mv (.k (.d (.lit (.int .i64 0)))), none⟩] [0, 1]) (
  .seq (
   .block 0 (
    .loop (
     .seq (
      .seq (
       .ops [
         ⟨(some 5), .mv (.t 1), none⟩,
         ⟨(some 6), .mv (.t 0), none⟩,
         ⟨(some 7), .len true (.t 6), none⟩,
         ⟨(some 8), .bin .lss (.t 5) (.t 7), none⟩,
         ⟨(some 9), .mv (.t 8), none⟩,
         ⟨(some 10), .mv (.t 0), (some (9, true))⟩,
         ⟨(some 11), .mv (.t 1), (some (9, true))⟩,
         ⟨(some 12), .ix (.t 10) (.t 11), (some (9, true))⟩,
         ⟨(some 13), .call 28 [.t 12], (some (9, true))⟩,
         ⟨(some 14), .pick (.t 9) (.t 13) (.k (.d (.lit (.bool false)))), none⟩] [0, 1, 14]) (
       .cond (.t 14) (
        .skip) (
        .exit 0))) (
      .block 1 (
       .ops [
         ⟨(some 15), .mv (.t 1), none⟩,
         ⟨(some 16), .bin .add (.t 15) (.k (.d (.lit (.int .i64 1)))), none⟩,
         ⟨(some 1), .mv (.t 16), none⟩] [0, 1]))))) (
   .seq (
    .ops [
      ⟨(some 17), .mv (.t 1), none⟩,
      ⟨(some 4), .mv (.t 17), none⟩] [4]) (
    .ret)))
def rs47 : List RV := [.t 4 false]
theorem k47 : okFn G.tab Tryd.f47 2 c47 rs47 = true := by kernel_rfl

/-- testbench/testbenchref07.longest -/
def c50 : Cd :=
 .seq (
  .ops [
    ⟨(some 4), .mv (.k (.d (.lit (.string ⟨#[]⟩)))), none⟩] [0, 1]) (
  .seq (
   .ops [
     ⟨(some 8), .call 32 [], none⟩,
     ⟨(some 5), .mv (.t 8), none⟩] [0, 1, 5]) (
   .seq (
    .ops [
      ⟨(some 6), .mv (.k (.d (.lit (.string ⟨#[]⟩)))), none⟩] [0, 1, 5, 6]) (
    .seq (
     .seq (
      .ops [
        ⟨(some 7), .mv (.k (.d (.lit (.int .i64 0)))), none⟩] [0, 1, 5, 6, 7]) (
      .block 0 (
       .loop (
        .seq (
         .seq (
          .ops [
            ⟨(some 9), .mv (.t 7), none⟩,
            ⟨(some 10), .mv (.t 5), none⟩,
            ⟨(some 11), .len false (.t 10), none⟩,
            ⟨(some 12), .bin .lss (.t 9) (.t 11), none⟩] [0, 1, 5, 6, 7, 12]) (
          .cond (.t 12) (
           .skip) (
           .exit 0))) (
         .seq (
          .block 1 (
           .seq (
            .ops [
              ⟨(some 15), .mv (.t 0), none⟩,
              ⟨(some 16), .mv (.t 1), none⟩,
              ⟨(some 17), .mv (.t 5), none⟩,
              ⟨(some 18), .mv (.t 7), none⟩,
              ⟨(some 19), .ia 1 (.t 17) (.t 18), none⟩,
              ⟨(some 20), .load 1 false (.t 19), none⟩,
              ⟨(some 21), .call 46 [.t 15, .t 16, .t 20], none⟩,
              ⟨(some 22), .mv (.t 21), none⟩,
              ⟨(some 23), .mv (.t 5), (some (22, true))⟩,
              ⟨(some 24), .mv (.t 7), (some (22, true))⟩,
              ⟨(some 25), .ia 1 (.t 23) (.t 24), (some (22, true))⟩,
              ⟨(some 26), .load 1 false (.t 25), (some (22, true))⟩,
              ⟨(some 27), .len true (.t 26), (some (22, true))⟩,
              ⟨(some 28), .mv (.t 6), (some (22, true))⟩,
              ⟨(some 29), .len true (.t 28), (some (22, true))⟩,
              ⟨(some 30), .bin .gtr (.t 27) (.t 29), (some (22, true))⟩,
              ⟨(some 31), .pick (.t 22) (.t 30) (.k (.d (.lit (.bool false)))), none⟩] [0, 1, 5, 6, 7, 31]) (
            .cond (.t 31) (
             .ops [
               ⟨(some 32), .mv (.t 5), none⟩,
               ⟨(some 33), .mv (.t 7), none⟩,
               ⟨(some 34), .ia 1 (.t 32) (.t 33), none⟩,
               ⟨(some 35), .load 1 false (.t 34), none⟩,
               ⟨(some 6), .mv (.t 35), none⟩] [0, 1, 5, 6, 7]) (
             .skip)))) (
          .ops [
            ⟨(some 13), .mv (.t 7), none⟩,
            ⟨(some 14), .bin .add (.t 13) (.k (.d (.lit (.int .i64 1)))), none⟩,
            ⟨(some 7), .mv (.t 14), none⟩] [0, 1, 5, 6, 7])))))) (
     .seq (
      .ops [
        ⟨(some 36), .mv (.t 6), none⟩,
        ⟨(some 4), .mv (.t 36), none⟩] [4]) (
      .ret)))))
def rs50 : List RV := [.t 4 false]
theorem k50 : okFn G.tab Tryd.f50 2 c50 rs50 = true := by kernel_rfl

/-- testbench/testbenchref01.Parse -/
def c49 : Cd :=
 .seq (
  .ops [
    ⟨(some 2), .mv (.k (.d (.lit (.int .i64 0)))), none⟩,
    ⟨(some 3), .mv (.k (.d (.lit (.int .i64 0)))), none⟩] [0]) (
  .seq (
   .ops [
     ⟨(some 12), .mv (.t 0), none⟩,
     ⟨(some 4), .mv (.t 12), none⟩] [0, 4]) (
   .seq (
    .ops [
      ⟨(some 13), .mv (.t 0), none⟩,
      ⟨(some 14), .len true (.t 13), none⟩,
      ⟨(some 15), .bin .gtr (.t 14) (.k (.d (.lit (.int .i64 0)))), none⟩,
      ⟨(some 16), .mv (.t 15), none⟩,
      ⟨(some 17), .mv (.t 0), (some (16, true))⟩,
      ⟨(some 18), .ix (.t 17) (.k (.d (.lit (.int .i64 0)))), (some (16, true))⟩,
      ⟨(some 19), .bin .eql (.t 18) (.k (.d (.lit (.int .u8 45)))), (some (16, true))⟩,
      ⟨(some 20), .pick (.t 16) (.t 19) (.k (.d (.lit (.bool false)))), none⟩,
      ⟨(some 5), .mv (.t 20), none⟩] [0, 4, 5]) (
    .seq (
     .seq (
      .ops [
        ⟨(some 21), .mv (.t 5), none⟩] [0, 4, 5, 21]) (
      .cond (.t 21) (
       .ops [
         ⟨(some 22), .mv (.t 0), none⟩,
         ⟨(some 23), .sub true 0 (.t 22) (some (.k (.d (.lit (.int .i64 1))))) none, none⟩,
         ⟨(some 4), .mv (.t 23), none⟩] [0, 4, 5]) (
       .skip))) (
     .seq (
      .seq (
       .ops [
         ⟨(some 24), .mv (.t 4), none⟩,
         ⟨(some 25), .call 62 [.t 24], none⟩,
         ⟨(some 26), .un .not (.t 25), none⟩,
         ⟨(some 27), .mv (.t 26), none⟩,
         ⟨(some 28), .mv (.t 4), (some (27, false))⟩,
         ⟨(some 29), .ix (.t 28) (.k (.d (.lit (.int .i64 0)))), (some (27, false))⟩,
         ⟨(some 30), .bin .eql (.t 29) (.k (.d (.lit (.int .u8 48)))), (some (27, false))⟩,
         ⟨(some 31), .mv (.t 30), (some (27, false))⟩,
         ⟨(some 32), .mv (.t 0), (some (31, true))⟩,
         ⟨(some 33), .bin .neq (.t 32) (.k (.d (.lit (.string ⟨#[48]⟩)))), (some (31, true))⟩,
         ⟨(some 34), .pick (.t 31) (.t 33) (.k (.d (.lit (.bool false)))), (some (27, false))⟩,
         ⟨(some 35), .pick (.t 27) (.k (.d (.lit (.bool true)))) (.t 34), none⟩] [4, 5, 35]) (
       .cond (.t 35) (
        .seq (
         .ops [
           ⟨(some 2), .mv (.k (.d (.lit (.int .i64 0)))), none⟩,
           ⟨(some 3), .mv (.k (.d (.lit (.int .i64 5)))), none⟩] [2, 3]) (
         .ret)) (
        .skip))) (
      .seq (
       .ops [
         ⟨(some 6), .mv (.k (.d (.lit (.int .i64 0)))), none⟩] [4, 5, 6]) (
       .seq (
        .seq (
         .ops [
           ⟨(some 7), .mv (.k (.d (.lit (.int .i64 0)))), none⟩] [4, 5, 6, 7]) (
         .block 0 (
          .loop (
           .seq (
            .seq (
             .ops [
               ⟨(some 36), .mv (.t 7), none⟩,
               ⟨(some 37), .mv (.t 4), none⟩,
               ⟨(some 38), .len true (.t 37), none⟩,
               ⟨(some 39), .bin .lss (.t 36) (.t 38), none⟩] [4, 5, 6, 7, 39]) (
             .cond (.t 39) (
              .skip) (
              .exit 0))) (
            .seq (
             .block 1 (
              .seq (
               .ops [
                 ⟨(some 43), .mv (.t 6), none⟩,
                 ⟨(some 44), .call 63 [.t 43, .k (.d (.lit (.int .i64 10)))], none⟩,
                 ⟨(some 42), .mv (.t 44), none⟩,
                 ⟨(some 45), .ext (.t 42) 0, none⟩,
                 ⟨(some 46), .ext (.t 42) 1, none⟩,
                 ⟨(some 8), .mv (.t 45), none⟩,
                 ⟨(some 9), .mv (.t 46), none⟩] [4, 5, 7, 8, 9]) (
               .seq (
                .ops [
                  ⟨(some 48), .mv (.t 8), none⟩,
                  ⟨(some 49), .mv (.t 4), none⟩,
                  ⟨(some 50), .mv (.t 7), none⟩,
                  ⟨(some 51), .ix (.t 49) (.t 50), none⟩,
                  ⟨(some 52), .bin .sub (.t 51) (.k (.d (.lit (.int .u8 48)))), none⟩,
                  ⟨(some 53), .conv .i64 (.t 52), none⟩,
                  ⟨(some 54), .call 64 [.t 48, .t 53], none⟩,
                  ⟨(some 47), .mv (.t 54), none⟩,
                  ⟨(some 55), .ext (.t 47) 0, none⟩,
                  ⟨(some 56), .ext (.t 47) 1, none⟩,
                  ⟨(some 10), .mv (.t 55), none⟩,
                  ⟨(some 11), .mv (.t 56), none⟩] [4, 5, 7, 9, 10, 11]) (
                .seq (
                 .seq (
                  .ops [
                    ⟨(some 57), .mv (.t 9), none⟩,
                    ⟨(some 58), .bin .neq (.t 57) (.k (.d (.lit (.int .i64 0)))), none⟩,
                    ⟨(some 59), .mv (.t 58), none⟩,
                    ⟨(some 60), .mv (.t 11), (some (59, false))⟩,
                    ⟨(some 61), .bin .neq (.t 60) (.k (.d (.lit (.int .i64 0)))), (some (59, false))⟩,
                    ⟨(some 62), .pick (.t 59) (.k (.d (.lit (.bool true)))) (.t 61), none⟩] [4, 5, 7, 10, 62]) (
                  .cond (.t 62) (
                   .seq (
                    .ops [
                      ⟨(some 2), .mv (.k (.d (.lit (.int .i64 0)))), none⟩,
                      ⟨(some 3), .mv (.k (.d (.lit (.int .i64 3)))), none⟩] [2, 3]) (
                    .ret)) (
                   .skip))) (
                 .ops [
                   ⟨(some 63), .mv (.t 10), none⟩,
                   ⟨(some 6), .mv (.t 63), none⟩] [4, 5, 6, 7]))))) (
             .ops [
               ⟨(some 40), .mv (.t 7), none⟩,
               ⟨(some 41), .bin .add (.t 40) (.k (.d (.lit (.int .i64 1)))), none⟩,
               ⟨(some 7), .mv (.t 41), none⟩] [4, 5, 6, 7])))))) (
        .seq (
         .seq (
          .ops [
            ⟨(some 64), .mv (.t 5), none⟩] [6, 64]) (
          .cond (.t 64) (
           .seq (
            .ops [
              ⟨(some 65), .mv (.t 6), none⟩,
              ⟨(some 2), .mv (.t 65), none⟩,
              ⟨(some 3), .mv (.k (.d (.lit (.int .i64 0)))), none⟩] [2, 3]) (
            .ret)) (
           .skip))) (
         .seq (
          .ops [
            ⟨(some 66), .mv (.t 6), none⟩,
            ⟨(some 67), .call 64 [.k (.d (.lit (.int .i64 0))), .t 66], none⟩,
            ⟨(some 68), .ext (.t 67) 0, none⟩,
            ⟨(some 69), .ext (.t 67) 1, none⟩,
            ⟨(some 2), .mv (.t 68), none⟩,
            ⟨(some 3), .mv (.t 69), none⟩] [2, 3]) (
          .ret)))))))))
def rs49 : List RV := [.t 2 false, .t 3 false]
theorem k49 : okFn G.tab Tryd.f49 1 c49 rs49 = true := by kernel_rfl

/-- testbench/testbenchref01.digits -/
def c62 : Cd :=
 .seq (
  .ops [
    ⟨(some 2), .mv (.k (.d (.lit (.bool false)))), none⟩] [0]) (
  .seq (
   .seq (
    .ops [
      ⟨(some 3), .mv (.k (.d (.lit (.int .i64 0)))), none⟩] [0, 3]) (
    .block 0 (
     .loop (
      .seq (
       .seq (
        .ops [
          ⟨(some 4), .mv (.t 3), none⟩,
          ⟨(some 5), .mv (.t 0), none⟩,
          ⟨(some 6), .len true (.t 5), none⟩,
          ⟨(some 7), .bin .lss (.t 4) (.t 6), none⟩] [0, 3, 7]) (
        .cond (.t 7) (
         .skip) (
         .exit 0))) (
       .seq (
        .block 1 (
         .seq (
          .ops [
            ⟨(some 10), .mv (.t 0), none⟩,
            ⟨(some 11), .mv (.t 3), none⟩,
            ⟨(some 12), .ix (.t 10) (.t 11), none⟩,
            ⟨(some 13), .bin .lss (.t 12) (.k (.d (.lit (.int .u8 48)))), none⟩,
            ⟨(some 14), .mv (.t 13), none⟩,
            ⟨(some 15), .mv (.t 0), (some (14, false))⟩,
            ⟨(some 16), .mv (.t 3), (some (14, false))⟩,
            ⟨(some 17), .ix (.t 15) (.t 16), (some (14, false))⟩,
            ⟨(some 18), .bin .gtr (.t 17) (.k (.d (.lit (.int .u8 57)))), (some (14, false))⟩,
            ⟨(some 19), .pick (.t 14) (.k (.d (.lit (.bool true)))) (.t 18), none⟩] [0, 3, 19]) (
          .cond (.t 19) (
           .seq (
            .ops [
              ⟨(some 2), .mv (.k (.d (.lit (.bool false)))), none⟩] [2]) (
            .ret)) (
           .skip)))) (
        .ops [
          ⟨(some 8), .mv (.t 3), none⟩,
          ⟨(some 9), .bin .add (.t 8) (.k (.d (.lit (.int .i64 1)))), none⟩,
          ⟨(some 3), .mv (.t 9), none⟩] [0, 3])))))) (
   .seq (
    .ops [
      ⟨(some 20), .mv (.t 0), none⟩,
      ⟨(some 21), .len true (.t 20), none⟩,
      ⟨(some 22), .bin .gtr (.t 21) (.k (.d (.lit (.int .i64 0)))), none⟩,
      ⟨(some 2), .mv (.t 22), none⟩] [2]) (
    .ret)))
def rs62 : List RV := [.t 2 false]
theorem k62 : okFn G.tab Tryd.f62 1 c62 rs62 = true := by kernel_rfl

/-- testbench/testbenchref01.Mul -/
def c63 : Cd :=
 .seq (
  .ops [
    ⟨(some 4), .mv (.k (.d (.lit (.int .i64 0)))), none⟩,
    ⟨(some 5), .mv (.k (.d (.lit (.int .i64 0)))), none⟩] [0, 1]) (
  .seq (
   .seq (
    .ops [
      ⟨(some 7), .mv (.t 0), none⟩,
      ⟨(some 8), .bin .eql (.t 7) (.k (.d (.lit (.int .i64 0)))), none⟩,
      ⟨(some 9), .mv (.t 8), none⟩,
      ⟨(some 10), .mv (.t 1), (some (9, false))⟩,
      ⟨(some 11), .bin .eql (.t 10) (.k (.d (.lit (.int .i64 0)))), (some (9, false))⟩,
      ⟨(some 12), .pick (.t 9) (.k (.d (.lit (.bool true)))) (.t 11), none⟩] [0, 1, 12]) (
    .cond (.t 12) (
     .seq (
      .ops [
        ⟨(some 4), .mv (.k (.d (.lit (.int .i64 0)))), none⟩,
        ⟨(some 5), .mv (.k (.d (.lit (.int .i64 0)))), none⟩] [4, 5]) (
      .ret)) (
     .skip))) (
   .seq (
    .ops [
      ⟨(some 13), .mv (.t 0), none⟩,
      ⟨(some 14), .mv (.t 1), none⟩,
      ⟨(some 15), .bin .mul (.t 13) (.t 14), none⟩,
      ⟨(some 6), .mv (.t 15), none⟩] [0, 1, 6]) (
    .seq (
     .seq (
      .ops [
        ⟨(some 16), .mv (.t 0), none⟩,
        ⟨(some 17), .bin .eql (.t 16) (.k (.d (.lit (.int .i64 (-1))))), none⟩,
        ⟨(some 18), .mv (.t 17), none⟩,
        ⟨(some 19), .mv (.t 1), (some (18, true))⟩,
        ⟨(some 20), .bin .eql (.t 19) (.k (.d (.lit (.int .i64 (-9223372036854775808))))), (some (18, true))⟩,
        ⟨(some 21), .pick (.t 18) (.t 20) (.k (.d (.lit (.bool false)))), none⟩,
        ⟨(some 22), .mv (.t 21), none⟩,
        ⟨(some 23), .mv (.t 1), (some (22, false))⟩,
        ⟨(some 24), .bin .eql (.t 23) (.k (.d (.lit (.int .i64 (-1))))), (some (22, false))⟩,
        ⟨(some 25), .mv (.t 24), (some (22, false))⟩,
        ⟨(some 26), .mv (.t 0), (some (25, true))⟩,
        ⟨(some 27), .bin .eql (.t 26) (.k (.d (.lit (.int .i64 (-9223372036854775808))))), (some (25, true))⟩,
        ⟨(some 28), .pick (.t 25) (.t 27) (.k (.d (.lit (.bool false)))), (some (22, false))⟩,
        ⟨(some 29), .pick (.t 22) (.k (.d (.lit (.bool true)))) (.t 28), none⟩,
        ⟨(some 30), .mv (.t 29), none⟩,
        ⟨(some 31), .mv (.t 6), (some (30, false))⟩,
        ⟨(some 32), .mv (.t 1), (some (30, false))⟩,
        ⟨(some 33), .bin .quo (.t 31) (.t 32), (some (30, false))⟩,
        ⟨(some 34), .mv (.t 0), (some (30, false))⟩,
        ⟨(some 35), .bin .neq (.t 33) (.t 34), (some (30, false))⟩,
        ⟨(some 36), .pick (.t 30) (.k (.d (.lit (.bool true)))) (.t 35), none⟩] [6, 36]) (
      .cond (.t 36) (
       .seq (
        .ops [
          ⟨(some 4), .mv (.k (.d (.lit (.int .i64 0)))), none⟩,
          ⟨(some 5), .mv (.k (.d (.lit (.int .i64 3)))), none⟩] [4, 5]) (
        .ret)) (
       .skip))) (
     .seq (
      .ops [
        ⟨(some 37), .mv (.t 6), none⟩,
        ⟨(some 4), .mv (.t 37), none⟩,
        ⟨(some 5), .mv (.k (.d (.lit (.int .i64 0)))), none⟩] [4, 5]) (
      .ret)))))
def rs63 : List RV := [.t 4 false, .t 5 false]
theorem k63 : okFn G.tab Tryd.f63 2 c63 rs63 = true := by kernel_rfl

/-- testbench/testbenchref01.Sub -/
def c64 : Cd :=
 .seq (
  .ops [
    ⟨(some 4), .mv (.k (.d (.lit (.int .i64 0)))), none⟩,
    ⟨(some 5), .mv (.k (.d (.lit (.int .i64 0)))), none⟩] [0, 1]) (
  .seq (
   .seq (
    .ops [
      ⟨(some 6), .mv (.t 1), none⟩,
      ⟨(some 7), .bin .eql (.t 6) (.k (.d (.lit (.int .i64 (-9223372036854775808))))), none⟩] [0, 1, 7]) (
    .cond (.t 7) (
     .seq (
      .seq (
       .ops [
         ⟨(some 8), .mv (.t 0), none⟩,
         ⟨(some 9), .bin .geq (.t 8) (.k (.d (.lit (.int .i64 0)))), none⟩] [0, 1, 9]) (
       .cond (.t 9) (
        .seq (
         .ops [
           ⟨(some 4), .mv (.k (.d (.lit (.int .i64 0)))), none⟩,
           ⟨(some 5), .mv (.k (.d (.lit (.int .i64 3)))), none⟩] [4, 5]) (
         .ret)) (
        .skip))) (
      .seq (
       .ops [
         ⟨(some 10), .mv (.t 0), none⟩,
         ⟨(some 11), .mv (.t 1), none⟩,
         ⟨(some 12), .bin .sub (.t 10) (.t 11), none⟩,
         ⟨(some 4), .mv (.t 12), none⟩,
         ⟨(some 5), .mv (.k (.d (.lit (.int .i64 0)))), none⟩] [4, 5]) (
       .ret))) (
     .skip))) (
   .seq (
    .ops [
      ⟨(some 13), .mv (.t 0), none⟩,
      ⟨(some 14), .mv (.t 1), none⟩,
      ⟨(some 15), .un .neg (.t 14), none⟩,
      ⟨(some 16), .call 78 [.t 13, .t 15], none⟩,
      ⟨(some 17), .ext (.t 16) 0, none⟩,
      ⟨(some 18), .ext (.t 16) 1, none⟩,
      ⟨(some 4), .mv (.t 17), none⟩,
      ⟨(some 5), .mv (.t 18), none⟩] [4, 5]) (
    .ret)))
def rs64 : List RV := [.t 4 false, .t 5 false]
theorem k64 : okFn G.tab Tryd.f64 2 c64 rs64 = true := by kernel_rfl

/-- testbench/testbenchref01.Add -/
def c78 : Cd :=
 .seq (
  .ops [
    ⟨(some 4), .mv (.k (.d (.lit (.int .i64 0)))), none⟩,
    ⟨(some 5), .mv (.k (.d (.lit (.int .i64 0)))), none⟩] [0, 1]) (
  .seq (
   .ops [
     ⟨(some 7), .mv (.t 0), none⟩,
     ⟨(some 8), .mv (.t 1), none⟩,
     ⟨(some 9), .bin .add (.t 7) (.t 8), none⟩,
     ⟨(some 6), .mv (.t 9), none⟩] [0, 1, 6]) (
   .seq (
    .seq (
     .ops [
       ⟨(some 10), .mv (.t 0), none⟩,
       ⟨(some 11), .bin .gtr (.t 10) (.k (.d (.lit (.int .i64 0)))), none⟩,
       ⟨(some 12), .mv (.t 11), none⟩,
       ⟨(some 13), .mv (.t 1), (some (12, true))⟩,
       ⟨(some 14), .bin .gtr (.t 13) (.k (.d (.lit (.int .i64 0)))), (some (12, true))⟩,
       ⟨(some 15), .pick (.t 12) (.t 14) (.k (.d (.lit (.bool false)))), none⟩,
       ⟨(some 16), .mv (.t 15), none⟩,
       ⟨(some 17), .mv (.t 6), (some (16, true))⟩,
       ⟨(some 18), .bin .lss (.t 17) (.k (.d (.lit (.int .i64 0)))), (some (16, true))⟩,
       ⟨(some 19), .pick (.t 16) (.t 18) (.k (.d (.lit (.bool false)))), none⟩,
       ⟨(some 20), .mv (.t 19), none⟩,
       ⟨(some 21), .mv (.t 0), (some (20, false))⟩,
       ⟨(some 22), .bin .lss (.t 21) (.k (.d (.lit (.int .i64 0)))), (some (20, false))⟩,
       ⟨(some 23), .mv (.t 22), (some (20, false))⟩,
       ⟨(some 24), .mv (.t 1), (some (23, true))⟩,
       ⟨(some 25), .bin .lss (.t 24) (.k (.d (.lit (.int .i64 0)))), (some (23, true))⟩,
       ⟨(some 26), .pick (.t 23) (.t 25) (.k (.d (.lit (.bool false)))), (some (20, false))⟩,
       ⟨(some 27), .mv (.t 26), (some (20, false))⟩,
       ⟨(some 28), .mv (.t 6), (some (27, true))⟩,
       ⟨(some 29), .bin .geq (.t 28) (.k (.d (.lit (.int .i64 0)))), (some (27, true))⟩,
       ⟨(some 30), .pick (.t 27) (.t 29) (.k (.d (.lit (.bool false)))), (some (20, false))⟩,
       ⟨(some 31), .pick (.t 20) (.k (.d (.lit (.bool true)))) (.t 30), none⟩] [6, 31]) (
     .cond (.t 31) (
      .seq (
       .ops [
         ⟨(some 4), .mv (.k (.d (.lit (.int .i64 0)))), none⟩,
         ⟨(some 5), .mv (.k (.d (.lit (.int .i64 3)))), none⟩] [4, 5]) (
       .ret)) (
      .skip))) (
    .seq (
     .ops [
       ⟨(some 32), .mv (.t 6), none⟩,
       ⟨(some 4), .mv (.t 32), none⟩,
       ⟨(some 5), .mv (.k (.d (.lit (.int .i64 0)))), none⟩] [4, 5]) (
     .ret))))
def rs78 : List RV := [.t 4 false, .t 5 false]
theorem k78 : okFn G.tab Tryd.f78 2 c78 rs78 = true := by kernel_rfl

/-- testbench/testbenchref01.below -/
def c68 : Cd :=
 .seq (
  .ops [
    ⟨(some 2), .mv (.k (.d (.lit (.int .i64 0)))), none⟩] [0]) (
  .seq (
   .seq (
    .ops [
      ⟨(some 3), .mv (.t 0), none⟩,
      ⟨(some 4), .bin .gtr (.t 3) (.k (.d (.lit (.int .i64 0)))), none⟩] [0, 4]) (
    .cond (.t 4) (
     .seq (
      .ops [
        ⟨(some 5), .mv (.t 0), none⟩,
        ⟨(some 6), .un .neg (.t 5), none⟩,
        ⟨(some 2), .mv (.t 6), none⟩] [2]) (
      .ret)) (
     .skip))) (
   .seq (
    .ops [
      ⟨(some 7), .mv (.t 0), none⟩,
      ⟨(some 2), .mv (.t 7), none⟩] [2]) (
    .ret)))
def rs68 : List RV := [.t 2 false]
theorem k68 : okFn G.tab Tryd.f68 1 c68 rs68 = true := by kernel_rfl

/-- testbench/testbenchref01.Format -/
def c57 : Cd :=
 .seq (
  .ops [
    ⟨(some 2), .mv (.k (.d (.lit (.string ⟨#[]⟩)))), none⟩] [0]) (
  .seq (
   .ops [
     ⟨(some 3), .mv (.k (.d (.lit (.string ⟨#[]⟩)))), none⟩] [0, 3]) (
   .seq (
    .ops [
      ⟨(some 5), .mv (.t 0), none⟩,
      ⟨(some 6), .call 68 [.t 5], none⟩,
      ⟨(some 4), .mv (.t 6), none⟩] [0, 3, 4]) (
    .seq (
     .block 0 (
      .loop (
       .block 1 (
        .seq (
         .ops [
           ⟨(some 7), .mv (.t 4), none⟩,
           ⟨(some 8), .bin .rem (.t 7) (.k (.d (.lit (.int .i64 10)))), none⟩,
           ⟨(some 9), .bin .sub (.k (.d (.lit (.int .i64 48)))) (.t 8), none⟩,
           ⟨(some 10), .conv .u8 (.t 9), none⟩,
           ⟨(some 11), .mks 5 1 [.t 10], none⟩,
           ⟨(some 12), .cbs (.t 11), none⟩,
           ⟨(some 13), .mv (.t 3), none⟩,
           ⟨(some 14), .bin .add (.t 12) (.t 13), none⟩,
           ⟨(some 3), .mv (.t 14), none⟩] [0, 3, 4]) (
         .seq (
          .ops [
            ⟨(some 15), .mv (.t 4), none⟩,
            ⟨(some 16), .bin .quo (.t 15) (.k (.d (.lit (.int .i64 10)))), none⟩,
            ⟨(some 4), .mv (.t 16), none⟩] [0, 3, 4]) (
          .seq (
           .ops [
             ⟨(some 17), .mv (.t 4), none⟩,
             ⟨(some 18), .bin .eql (.t 17) (.k (.d (.lit (.int .i64 0)))), none⟩] [0, 3, 4, 18]) (
           .cond (.t 18) (
            .exit 0) (
            .skip)))))))) (
     .seq (
      .seq (
       .ops [
         ⟨(some 19), .mv (.t 0), none⟩,
         ⟨(some 20), .bin .lss (.t 19) (.k (.d (.lit (.int .i64 0)))), none⟩] [3, 20]) (
       .cond (.t 20) (
        .seq (
         .ops [
           ⟨(some 21), .mv (.t 3), none⟩,
           ⟨(some 22), .bin .add (.k (.d (.lit (.string ⟨#[45]⟩)))) (.t 21), none⟩,
           ⟨(some 2), .mv (.t 22), none⟩] [2]) (
         .ret)) (
        .skip))) (
      .seq (
       .ops [
         ⟨(some 23), .mv (.t 3), none⟩,
         ⟨(some 2), .mv (.t 23), none⟩] [2]) (
       .ret))))))
def rs57 : List RV := [.t 2 false]
theorem k57 : okFn G.tab Tryd.f57 1 c57 rs57 = true := by kernel_rfl

/-- testbench/lexer.IsName -/
def c13 : Cd :=
 .seq (
  .ops [
    ⟨(some 2), .mv (.k (.d (.lit (.bool false)))), none⟩] [0]) (
  .seq (
   .ops [
     ⟨(some 3), .mv (.t 0), none⟩,
     ⟨(some 4), .call 26 [.t 3], none⟩,
     ⟨(some 5), .mv (.t 4), none⟩,
     ⟨(some 6), .mv (.t 0), (some (5, true))⟩,
     ⟨(some 7), .len true (.t 6), (some (5, true))⟩,
     ⟨(some 8), .bin .leq (.t 7) (.k (.d (.lit (.int .i64 16)))), (some (5, true))⟩,
     ⟨(some 9), .pick (.t 5) (.t 8) (.k (.d (.lit (.bool false)))), none⟩,
     ⟨(some 10), .mv (.t 9), none⟩,
     ⟨(some 11), .mv (.t 0), (some (10, true))⟩,
     ⟨(some 12), .call 15 [.t 11], (some (10, true))⟩,
     ⟨(some 13), .un .not (.t 12), (some (10, true))⟩,
     ⟨(some 14), .pick (.t 10) (.t 13) (.k (.d (.lit (.bool false)))), none⟩,
     ⟨(some 2), .mv (.t 14), none⟩] [2]) (
   .ret))
def rs13 : List RV := [.t 2 false]
theorem k13 : okFn G.tab Tryd.f13 1 c13 rs13 = true := by kernel_rfl

/-- testbench/lexer.Tokens -/
def c10 : Cd :=
 .seq (
  .ops [
    ⟨(some 2), .mv (.k (.nil)), none⟩,
    ⟨(some 3), .mv (.k (.d (.lit (.int .i64 0)))), none⟩,
    ⟨(some 4), .mv (.k (.d (.lit (.int .i64 0)))), none⟩] [0]) (
  .seq (
   .seq (
    .ops [
      ⟨(some 10), .mv (.t 0), none⟩,
      ⟨(some 11), .len true (.t 10), none⟩,
      ⟨(some 12), .bin .gtr (.t 11) (.k (.d (.lit (.int .i64 16384)))), none⟩] [0, 12]) (
    .cond (.t 12) (
     .seq (
      .ops [
        ⟨(some 2), .mv (.k (.nil)), none⟩,
        ⟨(some 3), .mv (.k (.d (.lit (.int .i64 0)))), none⟩,
        ⟨(some 4), .mv (.k (.d (.lit (.int .i64 2)))), none⟩] [2, 3, 4]) (
      .ret)) (
     .skip))) (
   .seq (
    .ops [
      ⟨(some 13), .mv (.t 0), none⟩,
      ⟨(some 14), .bld [.d (.lit (.string ⟨#[]⟩)), .d (.lit (.int .i64 0))] [(0, 1, .t 13), (1, 1, .k (.d (.lit (.int .i64 1))))], none⟩,
      ⟨(some 15), .box 40 (.t 14), none⟩,
      ⟨(some 5), .mv (.t 15), none⟩] [5]) (
    .seq (
     .ops [
       ⟨(some 6), .nilo 30 4, none⟩] [5, 6]) (
     .seq (
      .seq (
       .ops [
         ⟨(some 16), .mv (.t 5), none⟩,
         ⟨(some 17), .call 21 [.t 16], none⟩] [5, 6]) (
       .block 0 (
        .loop (
         .seq (
          .seq (
           .ops [
             ⟨(some 18), .mv (.t 5), none⟩,
             ⟨(some 19), .nilck (.t 18), none⟩,
             ⟨(some 20), .fa 0 (.t 19), none⟩,
             ⟨(some 21), .load 1 false (.t 20), none⟩,
             ⟨(some 22), .bin .neq (.t 21) (.k (.d (.lit (.string ⟨#[]⟩)))), none⟩] [5, 6, 22]) (
           .cond (.t 22) (
            .skip) (
            .exit 0))) (
          .seq (
           .block 1 (
            .seq (
             .ops [
               ⟨(some 25), .mv (.t 5), none⟩,
               ⟨(some 26), .nilck (.t 25), none⟩,
               ⟨(some 27), .fa 1 (.t 26), none⟩,
               ⟨(some 28), .load 1 false (.t 27), none⟩,
               ⟨(some 7), .mv (.t 28), none⟩] [5, 6, 7]) (
             .seq (
              .ops [
                ⟨(some 30), .mv (.t 5), none⟩,
                ⟨(some 31), .call 22 [.t 30], none⟩,
                ⟨(some 29), .mv (.t 31), none⟩,
                ⟨(some 32), .ext (.t 29) 0, none⟩,
                ⟨(some 33), .ext (.t 29) 1, none⟩,
                ⟨(some 8), .new 30 [.d (.lit (.int .i64 0)), .d (.lit (.int .i64 0)), .d (.lit (.string ⟨#[]⟩)), .d (.lit (.int .i64 0))], none⟩,
                ⟨none, .sto 4 (.t 8) (.t 32), none⟩,
                ⟨(some 9), .mv (.t 33), none⟩] [5, 6, 7, 8, 9]) (
              .seq (
               .seq (
                .ops [
                  ⟨(some 34), .mv (.t 9), none⟩,
                  ⟨(some 35), .bin .neq (.t 34) (.k (.d (.lit (.int .i64 0)))), none⟩] [5, 6, 7, 8, 9, 35]) (
                .cond (.t 35) (
                 .seq (
                  .ops [
                    ⟨(some 36), .mv (.t 7), none⟩,
                    ⟨(some 37), .mv (.t 9), none⟩,
                    ⟨(some 2), .mv (.k (.nil)), none⟩,
                    ⟨(some 3), .mv (.t 36), none⟩,
                    ⟨(some 4), .mv (.t 37), none⟩] [2, 3, 4]) (
                  .ret)) (
                 .skip))) (
               .ops [
                 ⟨(some 38), .mvo 6, none⟩,
                 ⟨(some 39), .load 4 true (.t 8), none⟩,
                 ⟨(some 40), .mks 30 4 [.t 39], none⟩,
                 ⟨(some 41), .app 30 4 40 38 (.t 40), none⟩,
                 ⟨(some 6), .mvo 41, none⟩] [5, 6]))))) (
           .ops [
             ⟨(some 23), .mv (.t 5), none⟩,
             ⟨(some 24), .call 21 [.t 23], none⟩] [5, 6])))))) (
      .seq (
       .ops [
         ⟨(some 42), .mv (.t 6), none⟩,
         ⟨(some 2), .mv (.t 42), none⟩,
         ⟨(some 3), .mv (.k (.d (.lit (.int .i64 0)))), none⟩,
         ⟨(some 4), .mv (.k (.d (.lit (.int .i64 0)))), none⟩] [2, 3, 4]) (
       .ret))))))
def rs10 : List RV := [.t 2 false, .t 3 false, .t 4 false]
theorem k10 : okFn G.tab Tryd.f10 1 c10 rs10 = true := by kernel_rfl

/-- testbench/lexer.Join -/
def c19 : Cd :=
 .seq (
  .ops [
    ⟨(some 2), .mv (.k (.d (.lit (.string ⟨#[]⟩)))), none⟩,
    ⟨(some 3), .mv (.k (.d (.lit (.int .i64 0)))), none⟩] [0]) (
  .seq (
   .ops [
     ⟨(some 7), .mv (.t 0), none⟩,
     ⟨(some 8), .len false (.t 7), none⟩,
     ⟨(some 9), .mkc 9 1 16 (.t 8), none⟩,
     ⟨(some 4), .mvo 9, none⟩] [0, 4]) (
   .seq (
    .seq (
     .ops [
       ⟨(some 10), .mv (.t 0), none⟩,
       ⟨(some 11), .len false (.t 10), none⟩,
       ⟨(some 12), .mv (.k (.d (.lit (.int .i64 0)))), none⟩] [4, 10, 11, 12]) (
     .block 0 (
      .loop (
       .seq (
        .ops [
          ⟨(some 13), .bin .lss (.t 12) (.t 11), none⟩] [4, 10, 11, 12, 13]) (
        .seq (
         .cond (.t 13) (
          .skip) (
          .exit 0)) (
         .seq (
          .block 1 (
           .seq (
            .ops [
              ⟨(some 14), .ia 4 (.t 10) (.t 12), none⟩,
              ⟨(some 15), .load 4 true (.t 14), none⟩,
              ⟨(some 6), .new 30 [.d (.lit (.int .i64 0)), .d (.lit (.int .i64 0)), .d (.lit (.string ⟨#[]⟩)), .d (.lit (.int .i64 0))], none⟩,
              ⟨none, .sto 4 (.t 6) (.t 15), none⟩] [4, 6, 10, 11, 12]) (
            .seq (
             .seq (
              .ops [
                ⟨(some 16), .load 4 true (.t 6), none⟩,
                ⟨(some 17), .call 33 [.t 16], none⟩,
                ⟨(some 18), .un .not (.t 17), none⟩] [4, 6, 10, 11, 12, 18]) (
              .cond (.t 18) (
               .seq (
                .ops [
                  ⟨(some 2), .mv (.k (.d (.lit (.string ⟨#[]⟩)))), none⟩,
                  ⟨(some 3), .mv (.k (.d (.lit (.int .i64 1)))), none⟩] [2, 3]) (
                .ret)) (
               .skip))) (
             .ops [
               ⟨(some 19), .mvo 4, none⟩,
               ⟨(some 20), .fa 2 (.t 6), none⟩,
               ⟨(some 21), .load 1 false (.t 20), none⟩,
               ⟨(some 22), .mks 9 1 [.t 21], none⟩,
               ⟨(some 23), .app 9 1 16 19 (.t 22), none⟩,
               ⟨(some 4), .mvo 23, none⟩] [4, 10, 11, 12])))) (
          .ops [
            ⟨(some 24), .bin .add (.t 12) (.k (.d (.lit (.int .i64 1)))), none⟩,
            ⟨(some 12), .mv (.t 24), none⟩] [4, 10, 11, 12]))))))) (
    .seq (
     .ops [
       ⟨(some 25), .mv (.t 4), none⟩,
       ⟨(some 26), .call 34 [.t 25, .k (.d (.lit (.string ⟨#[32]⟩)))], none⟩,
       ⟨(some 2), .mv (.t 26), none⟩,
       ⟨(some 3), .mv (.k (.d (.lit (.int .i64 0)))), none⟩] [2, 3]) (
     .ret))))
def rs19 : List RV := [.t 2 false, .t 3 false]
theorem k19 : okFn G.tab Tryd.f19 1 c19 rs19 = true := by kernel_rfl

/-- testbench/lexer.valid -/
def c33 : Cd :=
 .seq (
  .ops [
    ⟨(some 1), .box 30 (.t 0), none⟩,
    ⟨(some 2), .mv (.k (.d (.lit (.bool false)))), none⟩] [1]) (
  .seq (
   .seq (
    .ops [
      ⟨(some 3), .fa 0 (.t 1), none⟩,
      ⟨(some 4), .load 1 false (.t 3), none⟩] [1, 4]) (
    .block 0 (
     .seq (
      .ops [
        ⟨(some 6), .bin .eql (.t 4) (.k (.d (.lit (.int .i64 3)))), none⟩,
        ⟨(some 5), .mv (.t 6), none⟩] [1, 4, 5]) (
      .cond (.t 5) (
       .seq (
        .draw [
          ⟨(some 7), .fa 1 (.t 1), none⟩,
          ⟨(some 8), .load 1 false (.t 7), none⟩,
          ⟨(some 9), .bin .geq (.t 8) (.k (.d (.lit (.int .i64 0)))), none⟩,
          ⟨(some 10), .mv (.t 9), none⟩,
          ⟨(some 11), .fa 1 (.t 1), (some (10, true))⟩,
          ⟨(some 12), .load 1 false (.t 11), (some (10, true))⟩,
          ⟨(some 13), .bin .leq (.t 12) (.k (.d (.lit (.int .i64 2147483647)))), (some (10, true))⟩,
          ⟨(some 14), .pick (.t 10) (.t 13) (.k (.d (.lit (.bool false)))), none⟩,
          ⟨(some 15), .mv (.t 14), none⟩,
          ⟨(some 16), .fa 2 (.t 1), (some (15, true))⟩,
          ⟨(some 17), .load 1 false (.t 16), (some (15, true))⟩,
          ⟨(some 18), .fa 1 (.t 1), (some (15, true))⟩,
          ⟨(some 19), .load 1 false (.t 18), (some (15, true))⟩,
          ⟨(some 20), .call 53 [.t 19], (some (15, true))⟩,
          ⟨(some 21), .bin .eql (.t 17) (.t 20), (some (15, true))⟩,
          ⟨(some 22), .pick (.t 15) (.t 21) (.k (.d (.lit (.bool false)))), none⟩,
          ⟨(some 2), .mv (.t 22), none⟩] [2]) (
        .ret)) (
       .seq (
        .ops [
          ⟨(some 24), .bin .eql (.t 4) (.k (.d (.lit (.int .i64 1)))), none⟩,
          ⟨(some 23), .mv (.t 24), none⟩] [1, 4, 23]) (
        .cond (.t 23) (
         .seq (
          .ops [
            ⟨(some 25), .fa 1 (.t 1), none⟩,
            ⟨(some 26), .load 1 false (.t 25), none⟩,
            ⟨(some 27), .bin .eql (.t 26) (.k (.d (.lit (.int .i64 0)))), none⟩,
            ⟨(some 28), .mv (.t 27), none⟩,
            ⟨(some 29), .fa 2 (.t 1), (some (28, true))⟩,
            ⟨(some 30), .load 1 false (.t 29), (some (28, true))⟩,
            ⟨(some 31), .call 13 [.t 30], (some (28, true))⟩,
            ⟨(some 32), .pick (.t 28) (.t 31) (.k (.d (.lit (.bool false)))), none⟩,
            ⟨(some 2), .mv (.t 32), none⟩] [2]) (
          .ret)) (
         .seq (
          .ops [
            ⟨(some 34), .bin .eql (.t 4) (.k (.d (.lit (.int .i64 2)))), none⟩,
            ⟨(some 33), .mv (.t 34), none⟩] [1, 4, 33]) (
          .cond (.t 33) (
           .seq (
            .ops [
              ⟨(some 35), .fa 1 (.t 1), none⟩,
              ⟨(some 36), .load 1 false (.t 35), none⟩,
              ⟨(some 37), .bin .eql (.t 36) (.k (.d (.lit (.int .i64 0)))), none⟩,
              ⟨(some 38), .mv (.t 37), none⟩,
              ⟨(some 39), .fa 2 (.t 1), (some (38, true))⟩,
              ⟨(some 40), .load 1 false (.t 39), (some (38, true))⟩,
              ⟨(some 41), .call 15 [.t 40], (some (38, true))⟩,
              ⟨(some 42), .pick (.t 38) (.t 41) (.k (.d (.lit (.bool false)))), none⟩,
              ⟨(some 2), .mv (.t 42), none⟩] [2]) (
            .ret)) (
           .seq (
            .ops [
              ⟨(some 44), .bin .eql (.t 4) (.k (.d (.lit (.int .i64 4)))), none⟩,
              ⟨(some 43), .mv (.t 44), none⟩] [1, 43]) (
            .cond (.t 43) (
             .seq (
              .ops [
                ⟨(some 45), .fa 1 (.t 1), none⟩,
                ⟨(some 46), .load 1 false (.t 45), none⟩,
                ⟨(some 47), .bin .eql (.t 46) (.k (.d (.lit (.int .i64 0)))), none⟩,
                ⟨(some 48), .mv (.t 47), none⟩,
                ⟨(some 49), .fa 2 (.t 1), (some (48, true))⟩,
                ⟨(some 50), .load 1 false (.t 49), (some (48, true))⟩,
                ⟨(some 51), .call 17 [.t 50], (some (48, true))⟩,
                ⟨(some 52), .pick (.t 48) (.t 51) (.k (.d (.lit (.bool false)))), none⟩,
                ⟨(some 2), .mv (.t 52), none⟩] [2]) (
              .ret)) (
             .skip))))))))))) (
   .seq (
    .ops [
      ⟨(some 2), .mv (.k (.d (.lit (.bool false)))), none⟩] [2]) (
    .ret)))
def rs33 : List RV := [.t 2 false]
theorem k33 : okFn G.tab Tryd.f33 1 c33 rs33 = true := by kernel_rfl

/-- (*testbench/lexer.reader).skip -/
def c21 : Cd :=
 .block 0 (
  .loop (
   .block 1 (
    .block 2 (
     .seq (
      .ops [
        ⟨(some 3), .mv (.t 0), none⟩,
        ⟨(some 4), .nilck (.t 3), none⟩,
        ⟨(some 5), .fa 0 (.t 4), none⟩,
        ⟨(some 6), .load 1 false (.t 5), none⟩,
        ⟨(some 7), .call 36 [.t 6, .k (.d (.lit (.string ⟨#[47, 47]⟩)))], none⟩,
        ⟨(some 2), .mv (.t 7), none⟩] [0, 2]) (
      .cond (.t 2) (
       .ops [
         ⟨(some 8), .mv (.t 0), none⟩,
         ⟨(some 9), .mv (.t 0), none⟩,
         ⟨(some 10), .nilck (.t 9), none⟩,
         ⟨(some 11), .fa 0 (.t 10), none⟩,
         ⟨(some 12), .load 1 false (.t 11), none⟩,
         ⟨(some 13), .call 38 [.t 12, .k (.fn 39 [])], none⟩,
         ⟨(some 14), .call 37 [.t 8, .t 13], none⟩] [0]) (
       .seq (
        .ops [
          ⟨(some 16), .mv (.t 0), none⟩,
          ⟨(some 17), .nilck (.t 16), none⟩,
          ⟨(some 18), .fa 0 (.t 17), none⟩,
          ⟨(some 19), .load 1 false (.t 18), none⟩,
          ⟨(some 20), .bin .neq (.t 19) (.k (.d (.lit (.string ⟨#[]⟩)))), none⟩,
          ⟨(some 21), .mv (.t 20), none⟩,
          ⟨(some 22), .mv (.t 0), (some (21, true))⟩,
          ⟨(some 23), .nilck (.t 22), (some (21, true))⟩,
          ⟨(some 24), .fa 0 (.t 23), (some (21, true))⟩,
          ⟨(some 25), .load 1 false (.t 24), (some (21, true))⟩,
          ⟨(some 26), .ix (.t 25) (.k (.d (.lit (.int .i64 0)))), (some (21, true))⟩,
          ⟨(some 27), .conv .i32 (.t 26), (some (21, true))⟩,
          ⟨(some 28), .call 40 [.k (.d (.lit (.string ⟨#[32, 9, 10]⟩))), .t 27], (some (21, true))⟩,
          ⟨(some 29), .pick (.t 21) (.t 28) (.k (.d (.lit (.bool false)))), none⟩,
          ⟨(some 15), .mv (.t 29), none⟩] [0, 15]) (
        .cond (.t 15) (
         .ops [
           ⟨(some 30), .mv (.t 0), none⟩,
           ⟨(some 31), .call 37 [.t 30, .k (.d (.lit (.int .i64 1)))], none⟩] [0]) (
         .ret))))))))
def rs21 : List RV := []
theorem k21 : okFn G.tab Tryd.f21 1 c21 rs21 = true := by kernel_rfl

/-- (*testbench/lexer.reader).token -/
def c22 : Cd :=
 .seq (
  .ops [
    ⟨(some 2), .new 30 [.d (.lit (.int .i64 0)), .d (.lit (.int .i64 0)), .d (.lit (.string ⟨#[]⟩)), .d (.lit (.int .i64 0))], none⟩,
    ⟨(some 3), .mv (.k (.d (.lit (.int .i64 0)))), none⟩] [0, 2]) (
  .seq (
   .seq (
    .ops [
      ⟨(some 5), .mv (.t 0), none⟩,
      ⟨(some 6), .nilck (.t 5), none⟩,
      ⟨(some 7), .fa 0 (.t 6), none⟩,
      ⟨(some 8), .load 1 false (.t 7), none⟩,
      ⟨(some 9), .ix (.t 8) (.k (.d (.lit (.int .i64 0)))), none⟩,
      ⟨(some 10), .conv .i32 (.t 9), none⟩,
      ⟨(some 4), .mv (.t 10), none⟩] [0, 2, 4]) (
    .block 0 (
     .seq (
      .ops [
        ⟨(some 12), .mv (.t 4), none⟩,
        ⟨(some 13), .call 41 [.t 12], none⟩,
        ⟨(some 11), .mv (.t 13), none⟩] [0, 2, 4, 11]) (
      .cond (.t 11) (
       .seq (
        .ops [
          ⟨(some 14), .mv (.t 0), none⟩,
          ⟨(some 15), .call 42 [.t 14], none⟩,
          ⟨(some 16), .ext (.t 15) 0, none⟩,
          ⟨(some 17), .ext (.t 15) 1, none⟩,
          ⟨none, .sto 4 (.t 2) (.t 16), none⟩,
          ⟨(some 3), .mv (.t 17), none⟩] [2, 3]) (
        .ret)) (
       .seq (
        .ops [
          ⟨(some 19), .mv (.t 4), none⟩,
          ⟨(some 20), .call 43 [.t 19], none⟩,
          ⟨(some 18), .mv (.t 20), none⟩] [0, 2, 18]) (
        .cond (.t 18) (
         .seq (
          .ops [
            ⟨(some 21), .mv (.t 0), none⟩,
            ⟨(some 22), .call 44 [.t 21], none⟩,
            ⟨(some 23), .ext (.t 22) 0, none⟩,
            ⟨(some 24), .ext (.t 22) 1, none⟩,
            ⟨none, .sto 4 (.t 2) (.t 23), none⟩,
            ⟨(some 3), .mv (.t 24), none⟩] [2, 3]) (
          .ret)) (
         .skip))))))) (
   .seq (
    .ops [
      ⟨(some 25), .mv (.t 0), none⟩,
      ⟨(some 26), .call 45 [.t 25], none⟩,
      ⟨(some 27), .ext (.t 26) 0, none⟩,
      ⟨(some 28), .ext (.t 26) 1, none⟩,
      ⟨none, .sto 4 (.t 2) (.t 27), none⟩,
      ⟨(some 3), .mv (.t 28), none⟩] [2, 3]) (
    .ret)))
def rs22 : List RV := [.c 2 4 true, .t 3 false]
theorem k22 : okFn G.tab Tryd.f22 1 c22 rs22 = true := by kernel_rfl

/-- (*testbench/lexer.reader).take -/
def c37 : Cd :=
 .seq (
  .ops [
    ⟨(some 4), .mv (.k (.d (.lit (.string ⟨#[]⟩)))), none⟩] [0, 1]) (
  .seq (
   .ops [
     ⟨(some 6), .mv (.t 0), none⟩,
     ⟨(some 7), .nilck (.t 6), none⟩,
     ⟨(some 8), .fa 0 (.t 7), none⟩,
     ⟨(some 9), .load 1 false (.t 8), none⟩,
     ⟨(some 10), .mv (.t 1), none⟩,
     ⟨(some 11), .sub true 0 (.t 9) none (some (.t 10)), none⟩,
     ⟨(some 5), .mv (.t 11), none⟩] [0, 1, 5]) (
   .seq (
    .ops [
      ⟨(some 12), .mv (.t 0), none⟩,
      ⟨(some 13), .mv (.t 0), none⟩,
      ⟨(some 14), .nilck (.t 13), none⟩,
      ⟨(some 15), .fa 0 (.t 14), none⟩,
      ⟨(some 16), .load 1 false (.t 15), none⟩,
      ⟨(some 17), .mv (.t 1), none⟩,
      ⟨(some 18), .sub true 0 (.t 16) (some (.t 17)) none, none⟩,
      ⟨(some 19), .nilck (.t 12), none⟩,
      ⟨(some 20), .fa 0 (.t 19), none⟩,
      ⟨none, .sto 1 (.t 20) (.t 18), none⟩] [0, 5]) (
    .seq (
     .draws [
       ⟨(some 21), .mv (.t 0), none⟩,
       ⟨(some 22), .nilck (.t 21), none⟩,
       ⟨(some 23), .fa 1 (.t 22), none⟩,
       ⟨(some 24), .load 1 false (.t 23), none⟩,
       ⟨(some 25), .mv (.t 5), none⟩,
       ⟨(some 26), .call 59 [.t 25, .k (.d (.lit (.string ⟨#[10]⟩)))], none⟩,
       ⟨(some 27), .bin .add (.t 24) (.t 26), none⟩,
       ⟨(some 28), .nilck (.t 21), none⟩,
       ⟨(some 29), .fa 1 (.t 28), none⟩,
       ⟨none, .sto 1 (.t 29) (.t 27), none⟩] [5]) (
     .seq (
      .ops [
        ⟨(some 30), .mv (.t 5), none⟩,
        ⟨(some 4), .mv (.t 30), none⟩] [4]) (
      .ret)))))
def rs37 : List RV := [.t 4 false]
theorem k37 : okFn G.tab Tryd.f37 2 c37 rs37 = true := by kernel_rfl

/-- (*testbench/lexer.reader).name -/
def c42 : Cd :=
 .seq (
  .ops [
    ⟨(some 2), .new 30 [.d (.lit (.int .i64 0)), .d (.lit (.int .i64 0)), .d (.lit (.string ⟨#[]⟩)), .d (.lit (.int .i64 0))], none⟩,
    ⟨(some 3), .mv (.k (.d (.lit (.int .i64 0)))), none⟩] [0, 2]) (
  .seq (
   .ops [
     ⟨(some 5), .mv (.t 0), none⟩,
     ⟨(some 6), .nilck (.t 5), none⟩,
     ⟨(some 7), .fa 1 (.t 6), none⟩,
     ⟨(some 8), .load 1 false (.t 7), none⟩,
     ⟨(some 9), .bld [.d (.lit (.int .i64 0)), .d (.lit (.int .i64 0)), .d (.lit (.string ⟨#[]⟩)), .d (.lit (.int .i64 0))] [(0, 1, .k (.d (.lit (.int .i64 1)))), (3, 1, .t 8)], none⟩,
     ⟨(some 4), .new 30 [.d (.lit (.int .i64 0)), .d (.lit (.int .i64 0)), .d (.lit (.string ⟨#[]⟩)), .d (.lit (.int .i64 0))], none⟩,
     ⟨none, .sto 4 (.t 4) (.t 9), none⟩] [0, 2, 4]) (
   .seq (
    .ops [
      ⟨(some 10), .mv (.t 0), none⟩,
      ⟨(some 11), .mv (.t 0), none⟩,
      ⟨(some 12), .nilck (.t 11), none⟩,
      ⟨(some 13), .fa 0 (.t 12), none⟩,
      ⟨(some 14), .load 1 false (.t 13), none⟩,
      ⟨(some 15), .call 38 [.t 14, .k (.fn 51 [])], none⟩,
      ⟨(some 16), .call 37 [.t 10, .t 15], none⟩,
      ⟨(some 17), .fa 2 (.t 4), none⟩,
      ⟨none, .sto 1 (.t 17) (.t 16), none⟩] [2, 4]) (
    .seq (
     .block 0 (
      .seq (
       .ops [
         ⟨(some 19), .fa 2 (.t 4), none⟩,
         ⟨(some 20), .load 1 false (.t 19), none⟩,
         ⟨(some 21), .len true (.t 20), none⟩,
         ⟨(some 22), .bin .gtr (.t 21) (.k (.d (.lit (.int .i64 16)))), none⟩,
         ⟨(some 18), .mv (.t 22), none⟩] [2, 4, 18]) (
       .cond (.t 18) (
        .seq (
         .ops [
           ⟨(some 23), .bld [.d (.lit (.int .i64 0)), .d (.lit (.int .i64 0)), .d (.lit (.string ⟨#[]⟩)), .d (.lit (.int .i64 0))] [], none⟩,
           ⟨none, .sto 4 (.t 2) (.t 23), none⟩,
           ⟨(some 3), .mv (.k (.d (.lit (.int .i64 2)))), none⟩] [2, 3]) (
         .ret)) (
        .seq (
         .ops [
           ⟨(some 25), .fa 2 (.t 4), none⟩,
           ⟨(some 26), .load 1 false (.t 25), none⟩,
           ⟨(some 27), .call 15 [.t 26], none⟩,
           ⟨(some 24), .mv (.t 27), none⟩] [2, 4, 24]) (
         .cond (.t 24) (
          .ops [
            ⟨(some 28), .fa 0 (.t 4), none⟩,
            ⟨none, .sto 1 (.t 28) (.k (.d (.lit (.int .i64 2)))), none⟩] [2, 4]) (
          .skip)))))) (
     .seq (
      .ops [
        ⟨(some 29), .load 4 true (.t 4), none⟩,
        ⟨none, .sto 4 (.t 2) (.t 29), none⟩,
        ⟨(some 3), .mv (.k (.d (.lit (.int .i64 0)))), none⟩] [2, 3]) (
      .ret)))))
def rs42 : List RV := [.c 2 4 true, .t 3 false]
theorem k42 : okFn G.tab Tryd.f42 1 c42 rs42 = true := by kernel_rfl

/-- (*testbench/lexer.reader).number -/
def c44 : Cd :=
 .seq (
  .ops [
    ⟨(some 2), .new 30 [.d (.lit (.int .i64 0)), .d (.lit (.int .i64 0)), .d (.lit (.string ⟨#[]⟩)), .d (.lit (.int .i64 0))], none⟩,
    ⟨(some 3), .mv (.k (.d (.lit (.int .i64 0)))), none⟩] [0, 2]) (
  .seq (
   .ops [
     ⟨(some 7), .mv (.t 0), none⟩,
     ⟨(some 8), .nilck (.t 7), none⟩,
     ⟨(some 9), .fa 1 (.t 8), none⟩,
     ⟨(some 10), .load 1 false (.t 9), none⟩,
     ⟨(some 11), .bld [.d (.lit (.int .i64 0)), .d (.lit (.int .i64 0)), .d (.lit (.string ⟨#[]⟩)), .d (.lit (.int .i64 0))] [(0, 1, .k (.d (.lit (.int .i64 3)))), (3, 1, .t 10)], none⟩,
     ⟨(some 4), .new 30 [.d (.lit (.int .i64 0)), .d (.lit (.int .i64 0)), .d (.lit (.string ⟨#[]⟩)), .d (.lit (.int .i64 0))], none⟩,
     ⟨none, .sto 4 (.t 4) (.t 11), none⟩] [0, 2, 4]) (
   .seq (
    .ops [
      ⟨(some 12), .mv (.t 0), none⟩,
      ⟨(some 13), .mv (.t 0), none⟩,
      ⟨(some 14), .nilck (.t 13), none⟩,
      ⟨(some 15), .fa 0 (.t 14), none⟩,
      ⟨(some 16), .load 1 false (.t 15), none⟩,
      ⟨(some 17), .call 38 [.t 16, .k (.fn 43 [])], none⟩,
      ⟨(some 18), .call 37 [.t 12, .t 17], none⟩,
      ⟨(some 19), .fa 2 (.t 4), none⟩,
      ⟨none, .sto 1 (.t 19) (.t 18), none⟩] [0, 2, 4]) (
    .seq (
     .seq (
      .ops [
        ⟨(some 20), .fa 2 (.t 4), none⟩,
        ⟨(some 21), .load 1 false (.t 20), none⟩,
        ⟨(some 22), .len true (.t 21), none⟩,
        ⟨(some 23), .bin .gtr (.t 22) (.k (.d (.lit (.int .i64 1)))), none⟩,
        ⟨(some 24), .mv (.t 23), none⟩,
        ⟨(some 25), .fa 2 (.t 4), (some (24, true))⟩,
        ⟨(some 26), .load 1 false (.t 25), (some (24, true))⟩,
        ⟨(some 27), .ix (.t 26) (.k (.d (.lit (.int .i64 0)))), (some (24, true))⟩,
        ⟨(some 28), .bin .eql (.t 27) (.k (.d (.lit (.int .u8 48)))), (some (24, true))⟩,
        ⟨(some 29), .pick (.t 24) (.t 28) (.k (.d (.lit (.bool false)))), none⟩,
        ⟨(some 30), .mv (.t 29), none⟩,
        ⟨(some 31), .mv (.t 0), (some (30, false))⟩,
        ⟨(some 32), .nilck (.t 31), (some (30, false))⟩,
        ⟨(some 33), .fa 0 (.t 32), (some (30, false))⟩,
        ⟨(some 34), .load 1 false (.t 33), (some (30, false))⟩,
        ⟨(some 35), .call 38 [.t 34, .k (.fn 51 [])], (some (30, false))⟩,
        ⟨(some 36), .bin .gtr (.t 35) (.k (.d (.lit (.int .i64 0)))), (some (30, false))⟩,
        ⟨(some 37), .pick (.t 30) (.k (.d (.lit (.bool true)))) (.t 36), none⟩] [2, 4, 37]) (
      .cond (.t 37) (
       .seq (
        .ops [
          ⟨(some 38), .bld [.d (.lit (.int .i64 0)), .d (.lit (.int .i64 0)), .d (.lit (.string ⟨#[]⟩)), .d (.lit (.int .i64 0))] [], none⟩,
          ⟨none, .sto 4 (.t 2) (.t 38), none⟩,
          ⟨(some 3), .mv (.k (.d (.lit (.int .i64 5)))), none⟩] [2, 3]) (
        .ret)) (
       .skip))) (
     .seq (
      .ops [
        ⟨(some 40), .fa 2 (.t 4), none⟩,
        ⟨(some 41), .load 1 false (.t 40), none⟩,
        ⟨(some 42), .call 61 [.t 41, .k (.d (.lit (.int .i64 10))), .k (.d (.lit (.int .i64 64)))], none⟩,
        ⟨(some 39), .mv (.t 42), none⟩,
        ⟨(some 43), .ext (.t 39) 0, none⟩,
        ⟨(some 44), .ext (.t 39) 1, none⟩,
        ⟨(some 5), .mv (.t 43), none⟩,
        ⟨(some 6), .mv (.t 44), none⟩] [2, 4, 5, 6]) (
      .seq (
       .seq (
        .ops [
          ⟨(some 45), .mv (.t 6), none⟩,
          ⟨(some 46), .nif true (.t 45), none⟩,
          ⟨(some 47), .mv (.t 46), none⟩,
          ⟨(some 48), .mv (.t 5), (some (47, false))⟩,
          ⟨(some 49), .bin .gtr (.t 48) (.k (.d (.lit (.int .i64 2147483647)))), (some (47, false))⟩,
          ⟨(some 50), .pick (.t 47) (.k (.d (.lit (.bool true)))) (.t 49), none⟩] [2, 4, 5, 50]) (
        .cond (.t 50) (
         .seq (
          .ops [
            ⟨(some 51), .bld [.d (.lit (.int .i64 0)), .d (.lit (.int .i64 0)), .d (.lit (.string ⟨#[]⟩)), .d (.lit (.int .i64 0))] [], none⟩,
            ⟨none, .sto 4 (.t 2) (.t 51), none⟩,
            ⟨(some 3), .mv (.k (.d (.lit (.int .i64 3)))), none⟩] [2, 3]) (
          .ret)) (
         .skip))) (
       .seq (
        .ops [
          ⟨(some 52), .mv (.t 5), none⟩,
          ⟨(some 53), .fa 1 (.t 4), none⟩,
          ⟨none, .sto 1 (.t 53) (.t 52), none⟩] [2, 4]) (
        .seq (
         .ops [
           ⟨(some 54), .load 4 true (.t 4), none⟩,
           ⟨none, .sto 4 (.t 2) (.t 54), none⟩,
           ⟨(some 3), .mv (.k (.d (.lit (.int .i64 0)))), none⟩] [2, 3]) (
         .ret))))))))
def rs44 : List RV := [.c 2 4 true, .t 3 false]
theorem k44 : okFn G.tab Tryd.f44 1 c44 rs44 = true := by kernel_rfl

/-- (*testbench/lexer.reader).mark -/
def c45 : Cd :=
 .seq (
  .ops [
    ⟨(some 2), .new 30 [.d (.lit (.int .i64 0)), .d (.lit (.int .i64 0)), .d (.lit (.string ⟨#[]⟩)), .d (.lit (.int .i64 0))], none⟩,
    ⟨(some 3), .mv (.k (.d (.lit (.int .i64 0)))), none⟩] [0, 2]) (
  .seq (
   .ops [
     ⟨(some 4), .mv (.k (.d (.lit (.int .i64 0)))), none⟩] [0, 2, 4]) (
   .seq (
    .seq (
     .ops [
       ⟨(some 8), .load 1 false (.g 1), none⟩,
       ⟨(some 9), .len false (.t 8), none⟩,
       ⟨(some 10), .mv (.k (.d (.lit (.int .i64 0)))), none⟩] [0, 2, 4, 8, 9, 10]) (
     .block 0 (
      .loop (
       .seq (
        .ops [
          ⟨(some 11), .bin .lss (.t 10) (.t 9), none⟩] [0, 2, 4, 8, 9, 10, 11]) (
        .seq (
         .cond (.t 11) (
          .skip) (
          .exit 0)) (
         .seq (
          .block 1 (
           .seq (
            .ops [
              ⟨(some 12), .ia 1 (.t 8) (.t 10), none⟩,
              ⟨(some 13), .load 1 false (.t 12), none⟩,
              ⟨(some 6), .mv (.t 13), none⟩] [0, 2, 4, 6, 8, 9, 10]) (
            .seq (
             .ops [
               ⟨(some 14), .mv (.t 6), none⟩,
               ⟨(some 15), .len true (.t 14), none⟩,
               ⟨(some 16), .mv (.t 4), none⟩,
               ⟨(some 17), .bin .gtr (.t 15) (.t 16), none⟩,
               ⟨(some 18), .mv (.t 17), none⟩,
               ⟨(some 19), .mv (.t 0), (some (18, true))⟩,
               ⟨(some 20), .nilck (.t 19), (some (18, true))⟩,
               ⟨(some 21), .fa 0 (.t 20), (some (18, true))⟩,
               ⟨(some 22), .load 1 false (.t 21), (some (18, true))⟩,
               ⟨(some 23), .mv (.t 6), (some (18, true))⟩,
               ⟨(some 24), .call 36 [.t 22, .t 23], (some (18, true))⟩,
               ⟨(some 25), .pick (.t 18) (.t 24) (.k (.d (.lit (.bool false)))), none⟩] [0, 2, 4, 6, 8, 9, 10, 25]) (
             .cond (.t 25) (
              .ops [
                ⟨(some 26), .mv (.t 6), none⟩,
                ⟨(some 27), .len true (.t 26), none⟩,
                ⟨(some 4), .mv (.t 27), none⟩] [0, 2, 4, 8, 9, 10]) (
              .skip))))) (
          .ops [
            ⟨(some 28), .bin .add (.t 10) (.k (.d (.lit (.int .i64 1)))), none⟩,
            ⟨(some 10), .mv (.t 28), none⟩] [0, 2, 4, 8, 9, 10]))))))) (
    .seq (
     .seq (
      .ops [
        ⟨(some 29), .mv (.t 4), none⟩,
        ⟨(some 30), .bin .eql (.t 29) (.k (.d (.lit (.int .i64 0)))), none⟩] [0, 2, 4, 30]) (
      .cond (.t 30) (
       .seq (
        .ops [
          ⟨(some 31), .bld [.d (.lit (.int .i64 0)), .d (.lit (.int .i64 0)), .d (.lit (.string ⟨#[]⟩)), .d (.lit (.int .i64 0))] [], none⟩,
          ⟨none, .sto 4 (.t 2) (.t 31), none⟩,
          ⟨(some 3), .mv (.k (.d (.lit (.int .i64 5)))), none⟩] [2, 3]) (
        .ret)) (
       .skip))) (
     .seq (
      .ops [
        ⟨(some 32), .mv (.t 0), none⟩,
        ⟨(some 33), .nilck (.t 32), none⟩,
        ⟨(some 34), .fa 1 (.t 33), none⟩,
        ⟨(some 35), .load 1 false (.t 34), none⟩,
        ⟨(some 36), .bld [.d (.lit (.int .i64 0)), .d (.lit (.int .i64 0)), .d (.lit (.string ⟨#[]⟩)), .d (.lit (.int .i64 0))] [(0, 1, .k (.d (.lit (.int .i64 4)))), (3, 1, .t 35)], none⟩,
        ⟨(some 7), .new 30 [.d (.lit (.int .i64 0)), .d (.lit (.int .i64 0)), .d (.lit (.string ⟨#[]⟩)), .d (.lit (.int .i64 0))], none⟩,
        ⟨none, .sto 4 (.t 7) (.t 36), none⟩] [0, 2, 4, 7]) (
      .seq (
       .ops [
         ⟨(some 37), .mv (.t 0), none⟩,
         ⟨(some 38), .mv (.t 4), none⟩,
         ⟨(some 39), .call 37 [.t 37, .t 38], none⟩,
         ⟨(some 40), .fa 2 (.t 7), none⟩,
         ⟨none, .sto 1 (.t 40) (.t 39), none⟩] [2, 7]) (
       .seq (
        .ops [
          ⟨(some 41), .load 4 true (.t 7), none⟩,
          ⟨none, .sto 4 (.t 2) (.t 41), none⟩,
          ⟨(some 3), .mv (.k (.d (.lit (.int .i64 0)))), none⟩] [2, 3]) (
        .ret)))))))
def rs45 : List RV := [.c 2 4 true, .t 3 false]
theorem k45 : okFn G.tab Tryd.f45 1 c45 rs45 = true := by kernel_rfl

/-- (*testbench/lexer.reader).skip$1 -/
def c39 : Cd :=
 .seq (
  .ops [
    ⟨(some 2), .mv (.k (.d (.lit (.bool false)))), none⟩] [0]) (
  .seq (
   .ops [
     ⟨(some 3), .mv (.t 0), none⟩,
     ⟨(some 4), .bin .neq (.t 3) (.k (.d (.lit (.int .i32 10)))), none⟩,
     ⟨(some 2), .mv (.t 4), none⟩] [2]) (
   .ret))
def rs39 : List RV := [.t 2 false]
theorem k39 : okFn G.tab Tryd.f39 1 c39 rs39 = true := by kernel_rfl

/-- testbench/lexer.lower -/
def c41 : Cd :=
 .seq (
  .ops [
    ⟨(some 2), .mv (.k (.d (.lit (.bool false)))), none⟩] [0]) (
  .seq (
   .ops [
     ⟨(some 3), .mv (.t 0), none⟩,
     ⟨(some 4), .bin .geq (.t 3) (.k (.d (.lit (.int .i32 97)))), none⟩,
     ⟨(some 5), .mv (.t 4), none⟩,
     ⟨(some 6), .mv (.t 0), (some (5, true))⟩,
     ⟨(some 7), .bin .leq (.t 6) (.k (.d (.lit (.int .i32 122)))), (some (5, true))⟩,
     ⟨(some 8), .pick (.t 5) (.t 7) (.k (.d (.lit (.bool false)))), none⟩,
     ⟨(some 2), .mv (.t 8), none⟩] [2]) (
   .ret))
def rs41 : List RV := [.t 2 false]
theorem k41 : okFn G.tab Tryd.f41 1 c41 rs41 = true := by kernel_rfl

/-- testbench/lexer.digit -/
def c43 : Cd :=
 .seq (
  .ops [
    ⟨(some 2), .mv (.k (.d (.lit (.bool false)))), none⟩] [0]) (
  .seq (
   .ops [
     ⟨(some 3), .mv (.t 0), none⟩,
     ⟨(some 4), .bin .geq (.t 3) (.k (.d (.lit (.int .i32 48)))), none⟩,
     ⟨(some 5), .mv (.t 4), none⟩,
     ⟨(some 6), .mv (.t 0), (some (5, true))⟩,
     ⟨(some 7), .bin .leq (.t 6) (.k (.d (.lit (.int .i32 57)))), (some (5, true))⟩,
     ⟨(some 8), .pick (.t 5) (.t 7) (.k (.d (.lit (.bool false)))), none⟩,
     ⟨(some 2), .mv (.t 8), none⟩] [2]) (
   .ret))
def rs43 : List RV := [.t 2 false]
theorem k43 : okFn G.tab Tryd.f43 1 c43 rs43 = true := by kernel_rfl

/-- testbench/lexer.follows -/
def c51 : Cd :=
 .seq (
  .ops [
    ⟨(some 2), .mv (.k (.d (.lit (.bool false)))), none⟩] [0]) (
  .seq (
   .ops [
     ⟨(some 3), .mv (.t 0), none⟩,
     ⟨(some 4), .call 41 [.t 3], none⟩,
     ⟨(some 5), .mv (.t 4), none⟩,
     ⟨(some 6), .mv (.t 0), (some (5, false))⟩,
     ⟨(some 7), .call 43 [.t 6], (some (5, false))⟩,
     ⟨(some 8), .pick (.t 5) (.k (.d (.lit (.bool true)))) (.t 7), none⟩,
     ⟨(some 9), .mv (.t 8), none⟩,
     ⟨(some 10), .mv (.t 0), (some (9, false))⟩,
     ⟨(some 11), .bin .geq (.t 10) (.k (.d (.lit (.int .i32 65)))), (some (9, false))⟩,
     ⟨(some 12), .mv (.t 11), (some (9, false))⟩,
     ⟨(some 13), .mv (.t 0), (some (12, true))⟩,
     ⟨(some 14), .bin .leq (.t 13) (.k (.d (.lit (.int .i32 90)))), (some (12, true))⟩,
     ⟨(some 15), .pick (.t 12) (.t 14) (.k (.d (.lit (.bool false)))), (some (9, false))⟩,
     ⟨(some 16), .pick (.t 9) (.k (.d (.lit (.bool true)))) (.t 15), none⟩,
     ⟨(some 17), .mv (.t 16), none⟩,
     ⟨(some 18), .mv (.t 0), (some (17, false))⟩,
     ⟨(some 19), .bin .eql (.t 18) (.k (.d (.lit (.int .i32 95)))), (some (17, false))⟩,
     ⟨(some 20), .pick (.t 17) (.k (.d (.lit (.bool true)))) (.t 19), none⟩,
     ⟨(some 2), .mv (.t 20), none⟩] [2]) (
   .ret))
def rs51 : List RV := [.t 2 false]
theorem k51 : okFn G.tab Tryd.f51 1 c51 rs51 = true := by kernel_rfl

/-- testbench/lexer.IsMark -/
def c17 : Cd :=
 .seq (
  .ops [
    ⟨(some 2), .mv (.k (.d (.lit (.bool false)))), none⟩] [0]) (
  .seq (
   .ops [
     ⟨(some 3), .load 1 false (.g 1), none⟩,
     ⟨(some 4), .mv (.t 0), none⟩,
     ⟨(some 5), .call 29 [.t 3, .t 4], none⟩,
     ⟨(some 2), .mv (.t 5), none⟩] [2]) (
   .ret))
def rs17 : List RV := [.t 2 false]
theorem k17 : okFn G.tab Tryd.f17 1 c17 rs17 = true := by kernel_rfl

/-- testbench/lexer.IsKeyword -/
def c15 : Cd :=
 .seq (
  .ops [
    ⟨(some 2), .mv (.k (.d (.lit (.bool false)))), none⟩] [0]) (
  .seq (
   .ops [
     ⟨(some 3), .load 1 false (.g 0), none⟩,
     ⟨(some 4), .mv (.t 0), none⟩,
     ⟨(some 5), .call 29 [.t 3, .t 4], none⟩,
     ⟨(some 2), .mv (.t 5), none⟩] [2]) (
   .ret))
def rs15 : List RV := [.t 2 false]
theorem k15 : okFn G.tab Tryd.f15 1 c15 rs15 = true := by kernel_rfl

/-- strings.HasPrefix -/
def c36 : Cd :=
 .seq (
  .ops [
    ⟨(some 4), .mv (.k (.d (.lit (.bool false)))), none⟩] [0, 1]) (
  .seq (
   .ops [
     ⟨(some 5), .mv (.t 0), none⟩,
     ⟨(some 6), .mv (.t 1), none⟩,
     ⟨(some 7), .call 58 [.t 5, .t 6], none⟩,
     ⟨(some 4), .mv (.t 7), none⟩] [4]) (
   .ret))
def rs36 : List RV := [.t 4 false]
theorem k36 : okFn G.tab Tryd.f36 2 c36 rs36 = true := by kernel_rfl

/-- internal/stringslite.HasPrefix -/
def c58 : Cd :=
 .seq (
  .ops [
    ⟨(some 4), .mv (.k (.d (.lit (.bool false)))), none⟩] [0, 1]) (
  .seq (
   .ops [
     ⟨(some 5), .mv (.t 0), none⟩,
     ⟨(some 6), .len true (.t 5), none⟩,
     ⟨(some 7), .mv (.t 1), none⟩,
     ⟨(some 8), .len true (.t 7), none⟩,
     ⟨(some 9), .bin .geq (.t 6) (.t 8), none⟩,
     ⟨(some 10), .mv (.t 9), none⟩,
     ⟨(some 11), .mv (.t 0), (some (10, true))⟩,
     ⟨(some 12), .mv (.t 1), (some (10, true))⟩,
     ⟨(some 13), .len true (.t 12), (some (10, true))⟩,
     ⟨(some 14), .sub true 0 (.t 11) none (some (.t 13)), (some (10, true))⟩,
     ⟨(some 15), .mv (.t 1), (some (10, true))⟩,
     ⟨(some 16), .bin .eql (.t 14) (.t 15), (some (10, true))⟩,
     ⟨(some 17), .pick (.t 10) (.t 16) (.k (.d (.lit (.bool false)))), none⟩,
     ⟨(some 4), .mv (.t 17), none⟩] [4]) (
   .ret))
def rs58 : List RV := [.t 4 false]
theorem k58 : okFn G.tab Tryd.f58 2 c58 rs58 = true := by kernel_rfl

/-- slices.Contains[[]string,string] -/
def c29 : Cd :=
 .seq (
  .ops [
    ⟨(some 4), .mv (.k (.d (.lit (.bool false)))), none⟩] [0, 1]) (
  .seq (
   .ops [
     ⟨(some 5), .mv (.t 0), none⟩,
     ⟨(some 6), .mv (.t 1), none⟩,
     ⟨(some 7), .call 52 [.t 5, .t 6], none⟩,
     ⟨(some 8), .bin .geq (.t 7) (.k (.d (.lit (.int .i64 0)))), none⟩,
     ⟨(some 4), .mv (.t 8), none⟩] [4]) (
   .ret))
def rs29 : List RV := [.t 4 false]
theorem k29 : okFn G.tab Tryd.f29 2 c29 rs29 = true := by kernel_rfl

/-- slices.Index[[]string,string] -/
def c52 : Cd :=
 .seq (
  .ops [
    ⟨(some 4), .mv (.k (.d (.lit (.int .i64 0)))), none⟩] [0, 1]) (
  .seq (
   .seq (
    .ops [
      ⟨(some 6), .mv (.t 0), none⟩,
      ⟨(some 7), .len false (.t 6), none⟩,
      ⟨(some 8), .mv (.k (.d (.lit (.int .i64 0)))), none⟩] [0, 1, 7, 8]) (
    .block 0 (
     .loop (
      .seq (
       .ops [
         ⟨(some 9), .bin .lss (.t 8) (.t 7), none⟩] [0, 1, 7, 8, 9]) (
       .seq (
        .cond (.t 9) (
         .skip) (
         .exit 0)) (
        .seq (
         .block 1 (
          .seq (
           .ops [
             ⟨(some 10), .mv (.t 8), none⟩,
             ⟨(some 5), .mv (.t 10), none⟩] [0, 1, 5, 7, 8]) (
           .seq (
            .ops [
              ⟨(some 11), .mv (.t 1), none⟩,
              ⟨(some 12), .mv (.t 0), none⟩,
              ⟨(some 13), .mv (.t 5), none⟩,
              ⟨(some 14), .ia 1 (.t 12) (.t 13), none⟩,
              ⟨(some 15), .load 1 false (.t 14), none⟩,
              ⟨(some 16), .bin .eql (.t 11) (.t 15), none⟩] [0, 1, 5, 7, 8, 16]) (
            .cond (.t 16) (
             .seq (
              .ops [
                ⟨(some 17), .mv (.t 5), none⟩,
                ⟨(some 4), .mv (.t 17), none⟩] [4]) (
              .ret)) (
             .skip))))) (
         .ops [
           ⟨(some 18), .bin .add (.t 8) (.k (.d (.lit (.int .i64 1)))), none⟩,
           ⟨(some 8), .mv (.t 18), none⟩] [0, 1, 7, 8]))))))) (
   .seq (
    .ops [
      ⟨(some 4), .mv (.k (.d (.lit (.int .i64 (-1))))), none⟩] [4]) (
    .ret)))
def rs52 : List RV := [.t 4 false]
theorem k52 : okFn G.tab Tryd.f52 2 c52 rs52 = true := by kernel_rfl

end Go.Proofs.YtdglhbelfjcffaaDoor
