/-
  Code of functions in the plain world.
-/
import Derived.Test.YthoebpnbhgmoiaaDoorProg
import Derived.Test.YthoebpnbhgmoiaaDoorA20
import Derived.KernelRfl
import Derived.Test.YthoebpnbhgmoiaaDoorK3
namespace Go.Proofs.YthoebpnbhgmoiaaDoor
open Go.RowKit
set_option maxRecDepth 100000
set_option linter.unusedVariables false
set_option linter.unusedSimpArgs false
def c10b : Cd :=
 .seq (
  .ops [
    ⟨(some 4), .mv (.k (.d (.lit (.bool false)))), none⟩] [0, 1]) (
  .seq (
   .seq (
    .ops [
      ⟨(some 8), .mv (.t 0), none⟩,
      ⟨(some 9), .len false (.t 8), none⟩,
      ⟨(some 10), .mv (.t 1), none⟩,
      ⟨(some 11), .len false (.t 10), none⟩,
      ⟨(some 12), .bin .neq (.t 9) (.t 11), none⟩] [0, 1, 12]) (
    .cond (.t 12) (
     .seq (
      .ops [
        ⟨(some 4), .mv (.k (.d (.lit (.bool false)))), none⟩] [4]) (
      .ret)) (
     .skip))) (
   .seq (
    .seq (
     .ops [
       ⟨(some 5), .mv (.k (.d (.lit (.int .i64 0)))), none⟩] [0, 1, 5]) (
     .block 0 (
      .loop (
       .seq (
        .seq (
         .ops [
           ⟨(some 13), .mv (.t 5), none⟩,
           ⟨(some 14), .mv (.t 0), none⟩,
           ⟨(some 15), .len false (.t 14), none⟩,
           ⟨(some 16), .bin .lss (.t 13) (.t 15), none⟩] [0, 1, 5, 16]) (
         .cond (.t 16) (
          .skip) (
          .exit 0))) (
        .seq (
         .block 1 (
          .seq (
           .raw [
             ⟨(some 19), .mv (.t 0), none⟩,
             ⟨(some 20), .mv (.t 5), none⟩,
             ⟨(some 21), .ia 12 (.t 19) (.t 20), none⟩,
             ⟨(some 22), .load 12 true (.t 21), none⟩,
             ⟨(some 23), .mv (.t 1), none⟩,
             ⟨(some 24), .mv (.t 5), none⟩,
             ⟨(some 25), .ia 12 (.t 23) (.t 24), none⟩,
             ⟨(some 26), .load 12 true (.t 25), none⟩,
             ⟨(some 6), .new 47 [.d (.lit (.int .i64 0)), .d (.lit (.int .i64 0)), .d (.lit (.int .i64 0)), .d (.lit (.string ⟨#[]⟩)), .nil, .d (.lit (.string ⟨#[]⟩)), .d (.lit (.string ⟨#[]⟩)), .nil, .nil, .nil, .nil, .nil], none⟩,
             ⟨(some 7), .new 47 [.d (.lit (.int .i64 0)), .d (.lit (.int .i64 0)), .d (.lit (.int .i64 0)), .d (.lit (.string ⟨#[]⟩)), .nil, .d (.lit (.string ⟨#[]⟩)), .d (.lit (.string ⟨#[]⟩)), .nil, .nil, .nil, .nil, .nil], none⟩,
             ⟨none, .sto 12 (.t 6) (.t 22), none⟩,
             ⟨none, .sto 12 (.t 7) (.t 26), none⟩] [[], [], [0, 1], [2], [], [], [4, 5], [6], [], [], [8, 3, 0, 1, 2, 3, 8, 9], [9, 7, 10, 0, 1, 2, 3, 4, 5, 6, 7, 8, 9, 10]] [0, 1, 5, 6, 7]) (
           .seq (
            .seq (
             .ops [
               ⟨(some 27), .fa 0 (.t 6), none⟩,
               ⟨(some 28), .load 1 false (.t 27), none⟩,
               ⟨(some 29), .fa 0 (.t 7), none⟩,
               ⟨(some 30), .load 1 false (.t 29), none⟩,
               ⟨(some 31), .bin .neq (.t 28) (.t 30), none⟩,
               ⟨(some 32), .mv (.t 31), none⟩,
               ⟨(some 33), .fa 5 (.t 6), (some (32, false))⟩,
               ⟨(some 34), .load 1 false (.t 33), (some (32, false))⟩,
               ⟨(some 35), .fa 5 (.t 7), (some (32, false))⟩,
               ⟨(some 36), .load 1 false (.t 35), (some (32, false))⟩,
               ⟨(some 37), .bin .neq (.t 34) (.t 36), (some (32, false))⟩,
               ⟨(some 38), .pick (.t 32) (.k (.d (.lit (.bool true)))) (.t 37), none⟩,
               ⟨(some 39), .mv (.t 38), none⟩,
               ⟨(some 40), .fa 6 (.t 6), (some (39, false))⟩,
               ⟨(some 41), .load 1 false (.t 40), (some (39, false))⟩,
               ⟨(some 42), .fa 6 (.t 7), (some (39, false))⟩,
               ⟨(some 43), .load 1 false (.t 42), (some (39, false))⟩,
               ⟨(some 44), .bin .neq (.t 41) (.t 43), (some (39, false))⟩,
               ⟨(some 45), .pick (.t 39) (.k (.d (.lit (.bool true)))) (.t 44), none⟩,
               ⟨(some 46), .mv (.t 45), none⟩,
               ⟨(some 47), .fa 1 (.t 6), (some (46, false))⟩,
               ⟨(some 48), .load 4 true (.t 47), (some (46, false))⟩,
               ⟨(some 49), .fa 1 (.t 7), (some (46, false))⟩,
               ⟨(some 50), .load 4 true (.t 49), (some (46, false))⟩,
               ⟨(some 51), .call 22 [.t 48, .t 50], (some (46, false))⟩,
               ⟨(some 52), .un .not (.t 51), (some (46, false))⟩,
               ⟨(some 53), .pick (.t 46) (.k (.d (.lit (.bool true)))) (.t 52), none⟩,
               ⟨(some 54), .mv (.t 53), none⟩,
               ⟨(some 55), .fa 7 (.t 6), (some (54, false))⟩,
               ⟨(some 56), .load 1 false (.t 55), (some (54, false))⟩,
               ⟨(some 57), .fa 7 (.t 7), (some (54, false))⟩,
               ⟨(some 58), .load 1 false (.t 57), (some (54, false))⟩,
               ⟨(some 59), .call 23 [.t 56, .t 58], (some (54, false))⟩,
               ⟨(some 60), .un .not (.t 59), (some (54, false))⟩,
               ⟨(some 61), .pick (.t 54) (.k (.d (.lit (.bool true)))) (.t 60), none⟩,
               ⟨(some 62), .mv (.t 61), none⟩,
               ⟨(some 63), .fa 10 (.t 6), (some (62, false))⟩,
               ⟨(some 64), .load 1 false (.t 63), (some (62, false))⟩,
               ⟨(some 65), .fa 10 (.t 7), (some (62, false))⟩,
               ⟨(some 66), .load 1 false (.t 65), (some (62, false))⟩,
               ⟨(some 67), .call 24 [.t 64, .t 66], (some (62, false))⟩,
               ⟨(some 68), .un .not (.t 67), (some (62, false))⟩,
               ⟨(some 69), .pick (.t 62) (.k (.d (.lit (.bool true)))) (.t 68), none⟩,
               ⟨(some 70), .mv (.t 69), none⟩,
               ⟨(some 71), .fa 11 (.t 6), (some (70, false))⟩,
               ⟨(some 72), .load 1 false (.t 71), (some (70, false))⟩,
               ⟨(some 73), .fa 11 (.t 7), (some (70, false))⟩,
               ⟨(some 74), .load 1 false (.t 73), (some (70, false))⟩,
               ⟨(some 75), .call 24 [.t 72, .t 74], (some (70, false))⟩,
               ⟨(some 76), .un .not (.t 75), (some (70, false))⟩,
               ⟨(some 77), .pick (.t 70) (.k (.d (.lit (.bool true)))) (.t 76), none⟩] [0, 1, 5, 6, 7, 77]) (
             .cond (.t 77) (
              .seq (
               .ops [
                 ⟨(some 4), .mv (.k (.d (.lit (.bool false)))), none⟩] [4]) (
               .ret)) (
              .skip))) (
            .seq (
             .ops [
               ⟨(some 78), .fa 8 (.t 6), none⟩,
               ⟨(some 79), .load 1 false (.t 78), none⟩,
               ⟨(some 80), .fa 8 (.t 7), none⟩,
               ⟨(some 81), .load 1 false (.t 80), none⟩,
               ⟨(some 82), .call 10 [.t 79, .t 81], none⟩,
               ⟨(some 83), .un .not (.t 82), none⟩,
               ⟨(some 84), .mv (.t 83), none⟩,
               ⟨(some 85), .fa 9 (.t 6), (some (84, false))⟩,
               ⟨(some 86), .load 1 false (.t 85), (some (84, false))⟩,
               ⟨(some 87), .fa 9 (.t 7), (some (84, false))⟩,
               ⟨(some 88), .load 1 false (.t 87), (some (84, false))⟩,
               ⟨(some 89), .call 10 [.t 86, .t 88], (some (84, false))⟩,
               ⟨(some 90), .un .not (.t 89), (some (84, false))⟩,
               ⟨(some 91), .pick (.t 84) (.k (.d (.lit (.bool true)))) (.t 90), none⟩] [0, 1, 5, 91]) (
             .cond (.t 91) (
              .seq (
               .ops [
                 ⟨(some 4), .mv (.k (.d (.lit (.bool false)))), none⟩] [4]) (
               .ret)) (
              .skip)))))) (
         .ops [
           ⟨(some 17), .mv (.t 5), none⟩,
           ⟨(some 18), .bin .add (.t 17) (.k (.d (.lit (.int .i64 1)))), none⟩,
           ⟨(some 5), .mv (.t 18), none⟩] [0, 1, 5])))))) (
    .seq (
     .ops [
       ⟨(some 4), .mv (.k (.d (.lit (.bool true)))), none⟩] [4]) (
     .ret))))
def rs10b : List RV := [.t 4 false]
theorem k10b : okFn G.tab Tryd.f10 2 c10b rs10b = true := by kernel_rfl
end Go.Proofs.YthoebpnbhgmoiaaDoor
