import Derived.Test.YtcbahpllcfbkmaaGreatDoorProg
import Derived.Test.YtcbahpllcfbkmaaGreatDoorA20
import Derived.KernelRfl
import Derived.Test.YtcbahpllcfbkmaaGreatDoorK3
namespace Go.Proofs.YtcbahpllcfbkmaaGreatDoor
open Go.RowKit
set_option maxRecDepth 100000
set_option linter.unusedVariables false
set_option linter.unusedSimpArgs false
def c10:Cd:=
 .seq (
  .ops [
   ⟨(some 2),.mv (.k (.d (.lit (.string ⟨#[]⟩)))),none⟩] [0]) (
  .seq (
   .ops [
    ⟨(some 3),.nilo 9 1,none⟩] [0,3]) (
   .seq (
    .seq (
     .ops [
      ⟨(some 6),.mv (.t 0),none⟩,
      ⟨(some 7),.len false (.t 6),none⟩,
      ⟨(some 8),.mv (.k (.d (.lit (.int .i64 0)))),none⟩] [3,6,7,8]) (
     .block 0 (
      .loop (
       .seq (
        .ops [
         ⟨(some 9),.bin .lss (.t 8) (.t 7),none⟩] [3,6,7,8,9]) (
        .seq (
         .cond (.t 9) (
          .skip) (
          .exit 0)) (
         .seq (
          .block 1 (
           .seq (
            .ops [
             ⟨(some 10),.ia 4 (.t 6) (.t 8),none⟩,
             ⟨(some 11),.load 4 true (.t 10),none⟩,
             ⟨(some 5),.new 45 [.d (.lit (.int .i64 0)),.d (.lit (.int .i64 0)),.d (.lit (.int .i64 0)),.d (.lit (.bool false))],none⟩,
             ⟨none,.sto 4 (.t 5) (.t 11),none⟩] [3,5,6,7,8]) (
            .ops [
             ⟨(some 12),.mvo 3,none⟩,
             ⟨(some 13),.load 4 true (.t 5),none⟩,
             ⟨(some 14),.call 23 [.t 13],none⟩,
             ⟨(some 15),.mks 9 1 [.t 14],none⟩,
             ⟨(some 16),.app 9 1 16 12 (.t 15),none⟩,
             ⟨(some 3),.mvo 16,none⟩] [3,6,7,8]))) (
          .ops [
           ⟨(some 17),.bin .add (.t 8) (.k (.d (.lit (.int .i64 1)))),none⟩,
           ⟨(some 8),.mv (.t 17),none⟩] [3,6,7,8]))))))) (
    .seq (
     .ops [
      ⟨(some 18),.mv (.t 3),none⟩,
      ⟨(some 19),.call 24 [.t 18,.k (.d (.lit (.string ⟨#[44,32]⟩)))],none⟩,
      ⟨(some 2),.mv (.t 19),none⟩] [2]) (
     .ret))))
def rs10:List RV:=[.t 2 false]
theorem k10:okFn G.tab Tryz.f10 1 c10 rs10=true:=by kernel_rfl
def c23:Cd:=
 .seq (
  .ops [
   ⟨(some 1),.box 45 (.t 0),none⟩,
   ⟨(some 2),.mv (.k (.d (.lit (.string ⟨#[]⟩)))),none⟩] [1]) (
  .seq (
   .ops [
    ⟨(some 4),.fa 0 (.t 1),none⟩,
    ⟨(some 5),.load 1 false (.t 4),none⟩,
    ⟨(some 6),.call 42 [.t 5],none⟩,
    ⟨(some 3),.mv (.t 6),none⟩] [1,3]) (
   .seq (
    .seq (
     .ops [
      ⟨(some 7),.fa 1 (.t 1),none⟩,
      ⟨(some 8),.load 1 false (.t 7),none⟩,
      ⟨(some 9),.fa 0 (.t 1),none⟩,
      ⟨(some 10),.load 1 false (.t 9),none⟩,
      ⟨(some 11),.bin .neq (.t 8) (.t 10),none⟩] [1,3,11]) (
     .cond (.t 11) (
      .ops [
       ⟨(some 12),.mv (.t 3),none⟩,
       ⟨(some 13),.fa 1 (.t 1),none⟩,
       ⟨(some 14),.load 1 false (.t 13),none⟩,
       ⟨(some 15),.call 42 [.t 14],none⟩,
       ⟨(some 16),.bin .add (.k (.d (.lit (.string ⟨#[32,46,46,32]⟩)))) (.t 15),none⟩,
       ⟨(some 17),.bin .add (.t 12) (.t 16),none⟩,
       ⟨(some 3),.mv (.t 17),none⟩] [1,3]) (
      .skip))) (
    .seq (
     .seq (
      .ops [
       ⟨(some 18),.fa 3 (.t 1),none⟩,
       ⟨(some 19),.load 1 false (.t 18),none⟩] [1,3,19]) (
      .cond (.t 19) (
       .seq (
        .ops [
         ⟨(some 20),.mv (.t 3),none⟩,
         ⟨(some 21),.bin .add (.t 20) (.k (.d (.lit (.string ⟨#[32,58,61,32]⟩)))),none⟩,
         ⟨(some 22),.fa 2 (.t 1),none⟩,
         ⟨(some 23),.load 1 false (.t 22),none⟩,
         ⟨(some 24),.call 42 [.t 23],none⟩,
         ⟨(some 25),.bin .add (.t 21) (.t 24),none⟩,
         ⟨(some 2),.mv (.t 25),none⟩] [2]) (
        .ret)) (
       .skip))) (
     .seq (
      .ops [
       ⟨(some 26),.mv (.t 3),none⟩,
       ⟨(some 27),.bin .add (.t 26) (.k (.d (.lit (.string ⟨#[32,58,47,32]⟩)))),none⟩,
       ⟨(some 28),.fa 2 (.t 1),none⟩,
       ⟨(some 29),.load 1 false (.t 28),none⟩,
       ⟨(some 30),.call 42 [.t 29],none⟩,
       ⟨(some 31),.bin .add (.t 27) (.t 30),none⟩,
       ⟨(some 2),.mv (.t 31),none⟩] [2]) (
      .ret)))))
def rs23:List RV:=[.t 2 false]
theorem k23:okFn G.tab Tryz.f23 1 c23 rs23=true:=by kernel_rfl
def c122:Cd:=
 .seq (
  .ops [
   ⟨(some 2),.mv (.k (.d (.lit (.string ⟨#[]⟩)))),none⟩] [0]) (
  .seq (
   .seq (
    .ops [
     ⟨(some 7),.mv (.t 0),none⟩,
     ⟨(some 8),.call 144 [.t 7,.k (.d (.lit (.string ⟨#[91]⟩)))],none⟩,
     ⟨(some 6),.mv (.t 8),none⟩,
     ⟨(some 9),.ext (.t 6) 0,none⟩,
     ⟨(some 10),.ext (.t 6) 1,none⟩,
     ⟨(some 11),.ext (.t 6) 2,none⟩,
     ⟨(some 3),.mv (.t 9),none⟩,
     ⟨(some 4),.mv (.t 10),none⟩,
     ⟨(some 5),.mv (.t 11),none⟩] [0,3,4,5]) (
    .seq (
     .ops [
      ⟨(some 12),.mv (.t 5),none⟩] [0,3,4,12]) (
     .cond (.t 12) (
      .seq (
       .ops [
        ⟨(some 13),.mv (.t 3),none⟩,
        ⟨(some 14),.bin .add (.t 13) (.k (.d (.lit (.string ⟨#[91]⟩)))),none⟩,
        ⟨(some 15),.mv (.t 4),none⟩,
        ⟨(some 16),.call 145 [.t 15,.k (.d (.lit (.string ⟨#[93]⟩)))],none⟩,
        ⟨(some 17),.bin .add (.t 14) (.t 16),none⟩,
        ⟨(some 18),.bin .add (.t 17) (.k (.d (.lit (.string ⟨#[93]⟩)))),none⟩,
        ⟨(some 2),.mv (.t 18),none⟩] [2]) (
       .ret)) (
      .skip)))) (
   .seq (
    .ops [
     ⟨(some 19),.mv (.t 0),none⟩,
     ⟨(some 2),.mv (.t 19),none⟩] [2]) (
    .ret)))
def rs122:List RV:=[.t 2 false]
theorem k122:okFn G.tab Tryz.f122 1 c122 rs122=true:=by kernel_rfl
def c126:Cd:=
 .seq (
  .ops [
   ⟨(some 2),.mv (.k (.d (.lit (.string ⟨#[]⟩)))),none⟩] [0]) (
  .seq (
   .ops [
    ⟨(some 3),.nilo 9 1,none⟩] [0,3]) (
   .seq (
    .seq (
     .ops [
      ⟨(some 6),.mv (.t 0),none⟩,
      ⟨(some 7),.len false (.t 6),none⟩,
      ⟨(some 8),.mv (.k (.d (.lit (.int .i64 0)))),none⟩] [3,6,7,8]) (
     .block 0 (
      .loop (
       .seq (
        .ops [
         ⟨(some 9),.bin .lss (.t 8) (.t 7),none⟩] [3,6,7,8,9]) (
        .seq (
         .cond (.t 9) (
          .skip) (
          .exit 0)) (
         .seq (
          .block 1 (
           .seq (
            .ops [
             ⟨(some 10),.ia 1 (.t 6) (.t 8),none⟩,
             ⟨(some 11),.load 1 false (.t 10),none⟩,
             ⟨(some 5),.mv (.t 11),none⟩] [3,5,6,7,8]) (
            .ops [
             ⟨(some 12),.mvo 3,none⟩,
             ⟨(some 13),.mv (.t 5),none⟩,
             ⟨(some 14),.call 122 [.t 13],none⟩,
             ⟨(some 15),.mks 9 1 [.t 14],none⟩,
             ⟨(some 16),.app 9 1 16 12 (.t 15),none⟩,
             ⟨(some 3),.mvo 16,none⟩] [3,6,7,8]))) (
          .ops [
           ⟨(some 17),.bin .add (.t 8) (.k (.d (.lit (.int .i64 1)))),none⟩,
           ⟨(some 8),.mv (.t 17),none⟩] [3,6,7,8]))))))) (
    .seq (
     .ops [
      ⟨(some 18),.mv (.t 3),none⟩,
      ⟨(some 19),.call 24 [.t 18,.k (.d (.lit (.string ⟨#[44,32]⟩)))],none⟩,
      ⟨(some 2),.mv (.t 19),none⟩] [2]) (
     .ret))))
def rs126:List RV:=[.t 2 false]
theorem k126:okFn G.tab Tryz.f126 1 c126 rs126=true:=by kernel_rfl
def c27:Cd:=
 .seq (
  .ops [
   ⟨(some 1),.box 29 (.t 0),none⟩,
   ⟨(some 2),.mv (.k (.d (.lit (.bool false)))),none⟩] [1]) (
  .seq (
   .seq (
    .ops [
     ⟨(some 5),.fa 3 (.t 1),none⟩,
     ⟨(some 6),.load 1 false (.t 5),none⟩,
     ⟨(some 7),.len false (.t 6),none⟩,
     ⟨(some 8),.mv (.k (.d (.lit (.int .i64 0)))),none⟩] [1,6,7,8]) (
    .block 0 (
     .loop (
      .seq (
       .ops [
        ⟨(some 9),.bin .lss (.t 8) (.t 7),none⟩] [1,6,7,8,9]) (
       .seq (
        .cond (.t 9) (
         .skip) (
         .exit 0)) (
        .seq (
         .block 1 (
          .seq (
           .ops [
            ⟨(some 10),.ia 2 (.t 6) (.t 8),none⟩,
            ⟨(some 11),.load 2 true (.t 10),none⟩,
            ⟨(some 4),.new 57 [.d (.lit (.string ⟨#[]⟩)),.nil],none⟩,
            ⟨none,.sto 2 (.t 4) (.t 11),none⟩] [1,4,6,7,8]) (
           .seq (
            .ops [
             ⟨(some 12),.fa 1 (.t 4),none⟩,
             ⟨(some 13),.load 1 false (.t 12),none⟩,
             ⟨(some 14),.call 38 [.t 13],none⟩,
             ⟨(some 15),.bin .neq (.t 14) (.k (.d (.lit (.int .i64 0)))),none⟩] [1,6,7,8,15]) (
            .cond (.t 15) (
             .seq (
              .ops [
               ⟨(some 2),.mv (.k (.d (.lit (.bool false)))),none⟩] [2]) (
              .ret)) (
             .skip))))) (
         .ops [
          ⟨(some 16),.bin .add (.t 8) (.k (.d (.lit (.int .i64 1)))),none⟩,
          ⟨(some 8),.mv (.t 16),none⟩] [1,6,7,8]))))))) (
   .seq (
    .ops [
     ⟨(some 17),.load 4 true (.t 1),none⟩,
     ⟨(some 18),.call 46 [.t 17],none⟩,
     ⟨(some 19),.bin .eql (.t 18) (.k (.d (.lit (.int .i64 0)))),none⟩,
     ⟨(some 2),.mv (.t 19),none⟩] [2]) (
    .ret)))
def rs27:List RV:=[.t 2 false]
theorem k27:okFn G.tab Tryz.f27 1 c27 rs27=true:=by kernel_rfl
def c13:Cd:=
 .seq (
  .ops [
   ⟨(some 1),.box 29 (.t 0),none⟩,
   ⟨(some 2),.mv (.k (.d (.lit (.string ⟨#[]⟩)))),none⟩] [1]) (
  .seq (
   .seq (
    .ops [
     ⟨(some 5),.load 4 true (.t 1),none⟩,
     ⟨(some 6),.call 27 [.t 5],none⟩,
     ⟨(some 7),.un .not (.t 6),none⟩] [1,7]) (
    .cond (.t 7) (
     .seq (
      .ops [
       ⟨(some 2),.mv (.k (.d (.lit (.string ⟨#[]⟩)))),none⟩] [2]) (
      .ret)) (
     .skip))) (
   .seq (
    .ops [
     ⟨(some 8),.bld [.d (.lit (.pointer none)),.nil,.d (.lit (.int .i64 0))] [],none⟩,
     ⟨(some 9),.boxt 64 (.t 8),none⟩,
     ⟨(some 3),.new 58 [.d (.lit (.pointer none))],none⟩,
     ⟨none,.sto 1 (.t 3) (.t 9),none⟩] [1,3]) (
    .seq (
     .ops [
      ⟨(some 4),.mv (.k (.d (.lit (.string ⟨#[]⟩)))),none⟩] [1,3,4]) (
     .seq (
      .seq (
       .ops [
        ⟨(some 10),.fa 1 (.t 1),none⟩,
        ⟨(some 11),.load 1 false (.t 10),none⟩,
        ⟨(some 12),.bin .neq (.t 11) (.k (.d (.lit (.string ⟨#[]⟩)))),none⟩] [1,3,4,12]) (
       .cond (.t 12) (
        .ops [
         ⟨(some 13),.fa 1 (.t 1),none⟩,
         ⟨(some 14),.load 1 false (.t 13),none⟩,
         ⟨(some 15),.bin .add (.k (.d (.lit (.string ⟨#[32,101,120,116,101,110,100,115,32]⟩)))) (.t 14),none⟩,
         ⟨(some 4),.mv (.t 15),none⟩] [1,3,4]) (
        .skip))) (
      .seq (
       .ops [
        ⟨(some 16),.load 1 false (.t 3),none⟩,
        ⟨(some 17),.fa 0 (.t 1),none⟩,
        ⟨(some 18),.load 1 false (.t 17),none⟩,
        ⟨(some 19),.mv (.t 4),none⟩,
        ⟨(some 20),.mks 9 1 [.k (.d (.lit (.string ⟨#[99,108,97,115,115,32]⟩))),.t 18,.t 19,.k (.d (.lit (.string ⟨#[32,123]⟩)))],none⟩,
        ⟨(some 21),.call 28 [.t 16,.t 20],none⟩] [1,3]) (
       .seq (
        .ops [
         ⟨(some 22),.load 1 false (.t 3),none⟩,
         ⟨(some 23),.mkfn 30 [.t 1,.t 3],none⟩,
         ⟨(some 24),.call 29 [.t 22,.t 23],none⟩] [3]) (
        .seq (
         .ops [
          ⟨(some 25),.load 1 false (.t 3),none⟩,
          ⟨(some 26),.mks 9 1 [.k (.d (.lit (.string ⟨#[125]⟩)))],none⟩,
          ⟨(some 27),.call 28 [.t 25,.t 26],none⟩] [3]) (
         .seq (
          .ops [
           ⟨(some 28),.load 1 false (.t 3),none⟩,
           ⟨(some 29),.nilck (.t 28),none⟩,
           ⟨(some 30),.fa 0 (.t 29),none⟩,
           ⟨(some 31),.call 33 [.t 30],none⟩,
           ⟨(some 2),.mv (.t 31),none⟩] [2]) (
          .ret)))))))))
def rs13:List RV:=[.t 2 false]
theorem k13:okFn G.tab Tryz.f13 1 c13 rs13=true:=by kernel_rfl
def c21:Cd:=
 .seq (
  .ops [
   ⟨(some 2),.mv (.k (.d (.lit (.string ⟨#[]⟩)))),none⟩] [0]) (
  .seq (
   .ops [
    ⟨(some 3),.nilo 9 1,none⟩] [0,3]) (
   .seq (
    .seq (
     .ops [
      ⟨(some 7),.mv (.t 0),none⟩,
      ⟨(some 8),.len false (.t 7),none⟩,
      ⟨(some 9),.mv (.k (.d (.lit (.int .i64 0)))),none⟩] [3,7,8,9]) (
     .block 0 (
      .loop (
       .seq (
        .ops [
         ⟨(some 10),.bin .lss (.t 9) (.t 8),none⟩] [3,7,8,9,10]) (
        .seq (
         .cond (.t 10) (
          .skip) (
          .exit 0)) (
         .seq (
          .block 1 (
           .seq (
            .ops [
             ⟨(some 11),.ia 4 (.t 7) (.t 9),none⟩,
             ⟨(some 12),.load 4 true (.t 11),none⟩,
             ⟨(some 5),.new 29 [.d (.lit (.string ⟨#[]⟩)),.d (.lit (.string ⟨#[]⟩)),.nil,.nil],none⟩,
             ⟨none,.sto 4 (.t 5) (.t 12),none⟩] [3,5,7,8,9]) (
            .seq (
             .ops [
              ⟨(some 13),.load 4 true (.t 5),none⟩,
              ⟨(some 14),.call 13 [.t 13],none⟩,
              ⟨(some 6),.mv (.t 14),none⟩] [3,6,7,8,9]) (
             .seq (
              .seq (
               .ops [
                ⟨(some 15),.mv (.t 6),none⟩,
                ⟨(some 16),.bin .eql (.t 15) (.k (.d (.lit (.string ⟨#[]⟩)))),none⟩] [3,6,7,8,9,16]) (
               .cond (.t 16) (
                .seq (
                 .ops [
                  ⟨(some 2),.mv (.k (.d (.lit (.string ⟨#[]⟩)))),none⟩] [2]) (
                 .ret)) (
                .skip))) (
              .ops [
               ⟨(some 17),.mvo 3,none⟩,
               ⟨(some 18),.mv (.t 6),none⟩,
               ⟨(some 19),.mks 9 1 [.t 18],none⟩,
               ⟨(some 20),.app 9 1 16 17 (.t 19),none⟩,
               ⟨(some 3),.mvo 20,none⟩] [3,7,8,9]))))) (
          .ops [
           ⟨(some 21),.bin .add (.t 9) (.k (.d (.lit (.int .i64 1)))),none⟩,
           ⟨(some 9),.mv (.t 21),none⟩] [3,7,8,9]))))))) (
    .seq (
     .ops [
      ⟨(some 22),.mv (.t 3),none⟩,
      ⟨(some 23),.call 24 [.t 22,.k (.d (.lit (.string ⟨#[10]⟩)))],none⟩,
      ⟨(some 2),.mv (.t 23),none⟩] [2]) (
     .ret))))
def rs21:List RV:=[.t 2 false]
theorem k21:okFn G.tab Tryz.f21 1 c21 rs21=true:=by kernel_rfl
def c30:Cd:=
 .seq (
  .seq (
   .ops [
    ⟨(some 6),.fa 2 (.t 0),none⟩,
    ⟨(some 7),.load 1 false (.t 6),none⟩,
    ⟨(some 8),.len false (.t 7),none⟩,
    ⟨(some 9),.mv (.k (.d (.lit (.int .i64 0)))),none⟩] [0,1,7,8,9]) (
   .block 0 (
    .loop (
     .seq (
      .ops [
       ⟨(some 10),.bin .lss (.t 9) (.t 8),none⟩] [0,1,7,8,9,10]) (
      .seq (
       .cond (.t 10) (
        .skip) (
        .exit 0)) (
       .seq (
        .block 1 (
         .seq (
          .ops [
           ⟨(some 11),.ia 5 (.t 7) (.t 9),none⟩,
           ⟨(some 12),.load 5 true (.t 11),none⟩,
           ⟨(some 3),.new 55 [.d (.lit (.string ⟨#[]⟩)),.d (.lit (.int .i64 0)),.d (.lit (.int .i64 0)),.d (.lit (.int .i64 0)),.d (.lit (.int .i64 0))],none⟩,
           ⟨none,.sto 5 (.t 3) (.t 12),none⟩] [0,1,3,7,8,9]) (
          .ops [
           ⟨(some 13),.load 1 false (.t 1),none⟩,
           ⟨(some 14),.load 5 true (.t 3),none⟩,
           ⟨(some 15),.call 31 [.t 13,.t 14],none⟩] [0,1,7,8,9]))) (
        .ops [
         ⟨(some 16),.bin .add (.t 9) (.k (.d (.lit (.int .i64 1)))),none⟩,
         ⟨(some 9),.mv (.t 16),none⟩] [0,1,7,8,9]))))))) (
  .seq (
   .ops [
    ⟨(some 17),.fa 3 (.t 0),none⟩,
    ⟨(some 18),.load 1 false (.t 17),none⟩,
    ⟨(some 19),.len false (.t 18),none⟩,
    ⟨(some 20),.mv (.k (.d (.lit (.int .i64 0)))),none⟩] [1,18,19,20]) (
   .block 2 (
    .loop (
     .seq (
      .ops [
       ⟨(some 21),.bin .lss (.t 20) (.t 19),none⟩] [1,18,19,20,21]) (
      .seq (
       .cond (.t 21) (
        .skip) (
        .exit 2)) (
       .seq (
        .block 3 (
         .seq (
          .ops [
           ⟨(some 22),.ia 2 (.t 18) (.t 20),none⟩,
           ⟨(some 23),.load 2 true (.t 22),none⟩,
           ⟨(some 5),.new 57 [.d (.lit (.string ⟨#[]⟩)),.nil],none⟩,
           ⟨none,.sto 2 (.t 5) (.t 23),none⟩] [1,5,18,19,20]) (
          .ops [
           ⟨(some 24),.load 1 false (.t 1),none⟩,
           ⟨(some 25),.load 2 true (.t 5),none⟩,
           ⟨(some 26),.call 32 [.t 24,.t 25],none⟩] [1,18,19,20]))) (
        .ops [
         ⟨(some 27),.bin .add (.t 20) (.k (.d (.lit (.int .i64 1)))),none⟩,
         ⟨(some 20),.mv (.t 27),none⟩] [1,18,19,20])))))))
def rs30:List RV:=[]
theorem k30:okFn G.tab Tryz.f30 2 c30 rs30=true:=by kernel_rfl
def c28:Cd:=
 .seq (
  .drawg [
   (⟨(some 6),.mv (.t 0),none⟩,.free 0),
   (⟨(some 7),.nilck (.t 6),none⟩,.free 0),
   (⟨(some 8),.fa 0 (.t 7),none⟩,.free 0),
   (⟨(some 9),.mv (.t 0),none⟩,.free 0),
   (⟨(some 10),.nilck (.t 9),none⟩,.free 0),
   (⟨(some 11),.fa 2 (.t 10),none⟩,.free 0),
   (⟨(some 12),.load 1 false (.t 11),none⟩,.calm 0 0),
   (⟨(some 13),.call 47 [.k (.d (.lit (.string ⟨#[32,32,32,32]⟩))),.t 12],none⟩,.calm 0 0),
   (⟨(some 14),.call 44 [.t 8,.t 13],none⟩,.act)] [0,1]) (
  .seq (
   .seq (
    .ops [
     ⟨(some 15),.mv (.t 1),none⟩,
     ⟨(some 16),.len false (.t 15),none⟩,
     ⟨(some 17),.mv (.k (.d (.lit (.int .i64 0)))),none⟩] [0,15,16,17]) (
    .block 0 (
     .loop (
      .seq (
       .ops [
        ⟨(some 18),.bin .lss (.t 17) (.t 16),none⟩] [0,15,16,17,18]) (
       .seq (
        .cond (.t 18) (
         .skip) (
         .exit 0)) (
        .seq (
         .block 1 (
          .seq (
           .ops [
            ⟨(some 19),.ia 1 (.t 15) (.t 17),none⟩,
            ⟨(some 20),.load 1 false (.t 19),none⟩,
            ⟨(some 5),.mv (.t 20),none⟩] [0,5,15,16,17]) (
           .ops [
            ⟨(some 21),.mv (.t 0),none⟩,
            ⟨(some 22),.nilck (.t 21),none⟩,
            ⟨(some 23),.fa 0 (.t 22),none⟩,
            ⟨(some 24),.mv (.t 5),none⟩,
            ⟨(some 25),.call 44 [.t 23,.t 24],none⟩] [0,15,16,17]))) (
         .ops [
          ⟨(some 26),.bin .add (.t 17) (.k (.d (.lit (.int .i64 1)))),none⟩,
          ⟨(some 17),.mv (.t 26),none⟩] [0,15,16,17]))))))) (
   .ops [
    ⟨(some 27),.mv (.t 0),none⟩,
    ⟨(some 28),.nilck (.t 27),none⟩,
    ⟨(some 29),.fa 0 (.t 28),none⟩,
    ⟨(some 30),.call 44 [.t 29,.k (.d (.lit (.string ⟨#[10]⟩)))],none⟩] []))
def rs28:List RV:=[]
theorem k28:okFn G.tab Tryz.f28 2 c28 rs28=true:=by kernel_rfl
def c29:Cd:=
 .seq (
  .ops [
   ⟨(some 4),.mv (.t 0),none⟩,
   ⟨(some 5),.nilck (.t 4),none⟩,
   ⟨(some 6),.fa 2 (.t 5),none⟩,
   ⟨(some 7),.load 1 false (.t 6),none⟩,
   ⟨(some 8),.bin .add (.t 7) (.k (.d (.lit (.int .i64 1)))),none⟩,
   ⟨(some 9),.nilck (.t 4),none⟩,
   ⟨(some 10),.fa 2 (.t 9),none⟩,
   ⟨none,.sto 1 (.t 10) (.t 8),none⟩] [0,1]) (
  .seq (
   .ops [
    ⟨(some 11),.mv (.t 1),none⟩,
    ⟨(some 12),.callv (.t 11) [],none⟩] [0]) (
   .ops [
    ⟨(some 13),.mv (.t 0),none⟩,
    ⟨(some 14),.nilck (.t 13),none⟩,
    ⟨(some 15),.fa 2 (.t 14),none⟩,
    ⟨(some 16),.load 1 false (.t 15),none⟩,
    ⟨(some 17),.bin .sub (.t 16) (.k (.d (.lit (.int .i64 1)))),none⟩,
    ⟨(some 18),.nilck (.t 13),none⟩,
    ⟨(some 19),.fa 2 (.t 18),none⟩,
    ⟨none,.sto 1 (.t 19) (.t 17),none⟩] []))
def rs29:List RV:=[]
theorem k29:okFn G.tab Tryz.f29 2 c29 rs29=true:=by kernel_rfl
def c31:Cd:=
 .seq (
  .ops [
   ⟨(some 3),.box 55 (.t 1),none⟩] [0,3]) (
  .seq (
   .ops [
    ⟨(some 4),.mv (.k (.d (.lit (.string ⟨#[]⟩)))),none⟩,
    ⟨(some 5),.mv (.k (.d (.lit (.string ⟨#[]⟩)))),none⟩] [0,3,4,5]) (
   .seq (
    .seq (
     .ops [
      ⟨(some 6),.fa 2 (.t 3),none⟩,
      ⟨(some 7),.load 1 false (.t 6),none⟩,
      ⟨(some 8),.bin .gtr (.t 7) (.k (.d (.lit (.int .i64 0)))),none⟩] [0,3,4,5,8]) (
     .cond (.t 8) (
      .ops [
       ⟨(some 9),.fa 2 (.t 3),none⟩,
       ⟨(some 10),.load 1 false (.t 9),none⟩,
       ⟨(some 11),.call 42 [.t 10],none⟩,
       ⟨(some 12),.bin .add (.k (.d (.lit (.string ⟨#[91]⟩)))) (.t 11),none⟩,
       ⟨(some 13),.bin .add (.t 12) (.k (.d (.lit (.string ⟨#[93]⟩)))),none⟩,
       ⟨(some 4),.mv (.t 13),none⟩] [0,3,4,5]) (
      .skip))) (
    .seq (
     .seq (
      .ops [
       ⟨(some 14),.fa 3 (.t 3),none⟩,
       ⟨(some 15),.load 1 false (.t 14),none⟩,
       ⟨(some 16),.bin .eql (.t 15) (.k (.d (.lit (.int .i64 0)))),none⟩] [0,3,4,5,16]) (
      .cond (.t 16) (
       .ops [
        ⟨(some 17),.fa 4 (.t 3),none⟩,
        ⟨(some 18),.load 1 false (.t 17),none⟩,
        ⟨(some 19),.call 42 [.t 18],none⟩,
        ⟨(some 20),.bin .add (.k (.d (.lit (.string ⟨#[32,61,32]⟩)))) (.t 19),none⟩,
        ⟨(some 5),.mv (.t 20),none⟩] [0,3,4,5]) (
       .skip))) (
     .drawg [
      (⟨(some 21),.mv (.t 0),none⟩,.free 0),
      (⟨(some 22),.fa 3 (.t 3),none⟩,.free 0),
      (⟨(some 23),.load 1 false (.t 22),none⟩,.calm 0 0),
      (⟨(some 24),.call 48 [.t 23],none⟩,.calm 0 0),
      (⟨(some 25),.fa 0 (.t 3),none⟩,.free 0),
      (⟨(some 26),.load 1 false (.t 25),none⟩,.calm 0 0),
      (⟨(some 27),.mv (.t 4),none⟩,.free 0),
      (⟨(some 28),.fa 1 (.t 3),none⟩,.free 0),
      (⟨(some 29),.load 1 false (.t 28),none⟩,.calm 0 0),
      (⟨(some 30),.call 42 [.t 29],none⟩,.calm 0 0),
      (⟨(some 31),.mv (.t 5),none⟩,.free 0),
      (⟨(some 32),.mks 9 1 [.t 24,.t 26,.t 27,.k (.d (.lit (.string ⟨#[32,58,32]⟩))),.t 30,.t 31,.k (.d (.lit (.string ⟨#[59]⟩)))],none⟩,.free 0),
      (⟨(some 33),.call 28 [.t 21,.t 32],none⟩,.act)] []))))
def rs31:List RV:=[]
theorem k31:okFn G.tab Tryz.f31 2 c31 rs31=true:=by kernel_rfl
def c32:Cd:=
 .seq (
  .ops [
   ⟨(some 2),.box 58 (.t 0),none⟩,
   ⟨(some 3),.box 57 (.t 1),none⟩] [2,3]) (
  .seq (
   .ops [
    ⟨(some 4),.load 1 false (.t 2),none⟩,
    ⟨(some 5),.fa 0 (.t 3),none⟩,
    ⟨(some 6),.load 1 false (.t 5),none⟩,
    ⟨(some 7),.mks 9 1 [.k (.d (.lit (.string ⟨#[99,111,110,115,116,114,97,105,110,116,32]⟩))),.t 6,.k (.d (.lit (.string ⟨#[32,123]⟩)))],none⟩,
    ⟨(some 8),.call 28 [.t 4,.t 7],none⟩] [2,3]) (
   .seq (
    .ops [
     ⟨(some 9),.load 1 false (.t 2),none⟩,
     ⟨(some 10),.mkfn 49 [.t 2,.t 3],none⟩,
     ⟨(some 11),.call 29 [.t 9,.t 10],none⟩] [2]) (
    .ops [
     ⟨(some 12),.load 1 false (.t 2),none⟩,
     ⟨(some 13),.mks 9 1 [.k (.d (.lit (.string ⟨#[125]⟩)))],none⟩,
     ⟨(some 14),.call 28 [.t 12,.t 13],none⟩] [])))
def rs32:List RV:=[]
theorem k32:okFn G.tab Tryz.f32 2 c32 rs32=true:=by kernel_rfl
def c49:Cd:=
 .ops [
  ⟨(some 2),.load 1 false (.t 0),none⟩,
  ⟨(some 3),.fa 1 (.t 1),none⟩,
  ⟨(some 4),.load 1 false (.t 3),none⟩,
  ⟨(some 5),.call 39 [.t 2,.t 4],none⟩] []
def rs49:List RV:=[]
theorem k49:okFn G.tab Tryz.f49 2 c49 rs49=true:=by kernel_rfl
def c39:Cd:=
 .seq (
  .ops [
   ⟨(some 6),.mv (.t 1),none⟩,
   ⟨(some 7),.len false (.t 6),none⟩,
   ⟨(some 8),.mv (.k (.d (.lit (.int .i64 0)))),none⟩] [0,6,7,8]) (
  .block 0 (
   .loop (
    .seq (
     .ops [
      ⟨(some 9),.bin .lss (.t 8) (.t 7),none⟩] [0,6,7,8,9]) (
     .seq (
      .cond (.t 9) (
       .skip) (
       .exit 0)) (
      .seq (
       .block 1 (
        .seq (
         .ops [
          ⟨(some 10),.ia 12 (.t 6) (.t 8),none⟩,
          ⟨(some 11),.load 12 true (.t 10),none⟩,
          ⟨(some 5),.new 53 [.d (.lit (.int .i64 0)),.d (.lit (.int .i64 0)),.d (.lit (.int .i64 0)),.d (.lit (.string ⟨#[]⟩)),.nil,.d (.lit (.string ⟨#[]⟩)),.d (.lit (.string ⟨#[]⟩)),.nil,.nil,.nil,.nil,.nil],none⟩,
          ⟨none,.sto 12 (.t 5) (.t 11),none⟩] [0,5,6,7,8]) (
         .drawg [
          (⟨(some 12),.fa 0 (.t 5),none⟩,.free 0),
          (⟨(some 13),.load 1 false (.t 12),none⟩,.calm 0 0),
          (⟨(some 14),.call 59 [.t 13],none⟩,.calm 0 0),
          (⟨(some 15),.mv (.t 0),none⟩,.free 0),
          (⟨(some 16),.load 12 true (.t 5),none⟩,.calm 0 0),
          (⟨(some 17),.callv (.t 14) [.t 15,.t 16],none⟩,.act)] [0,6,7,8]))) (
       .ops [
        ⟨(some 18),.bin .add (.t 8) (.k (.d (.lit (.int .i64 1)))),none⟩,
        ⟨(some 8),.mv (.t 18),none⟩] [0,6,7,8]))))))
def rs39:List RV:=[]
theorem k39:okFn G.tab Tryz.f39 2 c39 rs39=true:=by kernel_rfl
def c59:Cd:=
 .seq (
  .ops [
   ⟨(some 2),.mv (.k (.d (.lit .nilFunc))),none⟩] [0]) (
  .seq (
   .seq (
    .ops [
     ⟨(some 3),.mv (.t 0),none⟩] [3]) (
    .block 0 (
     .seq (
      .ops [
       ⟨(some 5),.bin .eql (.t 3) (.k (.d (.lit (.int .i64 2)))),none⟩,
       ⟨(some 4),.mv (.t 5),none⟩] [3,4]) (
      .cond (.t 4) (
       .seq (
        .ops [
         ⟨(some 2),.mv (.k (.fn 90 [])),none⟩] [2]) (
        .ret)) (
       .seq (
        .ops [
         ⟨(some 7),.bin .eql (.t 3) (.k (.d (.lit (.int .i64 3)))),none⟩,
         ⟨(some 6),.mv (.t 7),none⟩] [3,6]) (
        .cond (.t 6) (
         .seq (
          .ops [
           ⟨(some 2),.mv (.k (.fn 91 [])),none⟩] [2]) (
          .ret)) (
         .seq (
          .ops [
           ⟨(some 9),.bin .eql (.t 3) (.k (.d (.lit (.int .i64 4)))),none⟩,
           ⟨(some 8),.mv (.t 9),none⟩] [3,8]) (
          .cond (.t 8) (
           .seq (
            .ops [
             ⟨(some 2),.mv (.k (.fn 92 [])),none⟩] [2]) (
            .ret)) (
           .seq (
            .ops [
             ⟨(some 11),.bin .eql (.t 3) (.k (.d (.lit (.int .i64 5)))),none⟩,
             ⟨(some 10),.mv (.t 11),none⟩] [3,10]) (
            .cond (.t 10) (
             .seq (
              .ops [
               ⟨(some 2),.mv (.k (.fn 93 [])),none⟩] [2]) (
              .ret)) (
             .seq (
              .ops [
               ⟨(some 13),.bin .eql (.t 3) (.k (.d (.lit (.int .i64 6)))),none⟩,
               ⟨(some 12),.mv (.t 13),none⟩] [12]) (
              .cond (.t 12) (
               .seq (
                .ops [
                 ⟨(some 2),.mv (.k (.fn 94 [])),none⟩] [2]) (
                .ret)) (
               .skip))))))))))))) (
   .seq (
    .ops [
     ⟨(some 2),.mv (.k (.fn 95 [])),none⟩] [2]) (
    .ret)))
def rs59:List RV:=[.t 2 false]
theorem k59:okFn G.tab Tryz.f59 1 c59 rs59=true:=by kernel_rfl
def c48:Cd:=
 .seq (
  .ops [
   ⟨(some 2),.mv (.k (.d (.lit (.string ⟨#[]⟩)))),none⟩] [0]) (
  .seq (
   .seq (
    .ops [
     ⟨(some 3),.mv (.t 0),none⟩] [3]) (
    .block 0 (
     .seq (
      .ops [
       ⟨(some 5),.bin .eql (.t 3) (.k (.d (.lit (.int .i64 1)))),none⟩,
       ⟨(some 4),.mv (.t 5),none⟩] [3,4]) (
      .cond (.t 4) (
       .seq (
        .ops [
         ⟨(some 2),.mv (.k (.d (.lit (.string ⟨#[114,97,110,100,32]⟩)))),none⟩] [2]) (
        .ret)) (
       .seq (
        .ops [
         ⟨(some 7),.bin .eql (.t 3) (.k (.d (.lit (.int .i64 2)))),none⟩,
         ⟨(some 6),.mv (.t 7),none⟩] [6]) (
        .cond (.t 6) (
         .seq (
          .ops [
           ⟨(some 2),.mv (.k (.d (.lit (.string ⟨#[114,97,110,100,99,32]⟩)))),none⟩] [2]) (
          .ret)) (
         .skip))))))) (
   .seq (
    .ops [
     ⟨(some 2),.mv (.k (.d (.lit (.string ⟨#[115,116,97,116,101,32]⟩)))),none⟩] [2]) (
    .ret)))
def rs48:List RV:=[.t 2 false]
theorem k48:okFn G.tab Tryz.f48 1 c48 rs48=true:=by kernel_rfl
def c90:Cd:=
 .seq (
  .ops [
   ⟨(some 3),.box 53 (.t 1),none⟩] [0,3]) (
  .ops [
   ⟨(some 4),.mv (.t 0),none⟩,
   ⟨(some 5),.fa 1 (.t 3),none⟩,
   ⟨(some 6),.load 4 true (.t 5),none⟩,
   ⟨(some 7),.call 121 [.t 6],none⟩,
   ⟨(some 8),.mks 9 1 [.k (.d (.lit (.string ⟨#[115,111,102,116,32]⟩))),.t 7,.k (.d (.lit (.string ⟨#[59]⟩)))],none⟩,
   ⟨(some 9),.call 28 [.t 4,.t 8],none⟩] [])
def rs90:List RV:=[]
theorem k90:okFn G.tab Tryz.f90 2 c90 rs90=true:=by kernel_rfl
def c91:Cd:=
 .seq (
  .ops [
   ⟨(some 3),.box 53 (.t 1),none⟩] [0,3]) (
  .drawg [
   (⟨(some 4),.mv (.t 0),none⟩,.free 0),
   (⟨(some 5),.fa 5 (.t 3),none⟩,.free 0),
   (⟨(some 6),.load 1 false (.t 5),none⟩,.calm 0 0),
   (⟨(some 7),.call 122 [.t 6],none⟩,.calm 0 0),
   (⟨(some 8),.fa 7 (.t 3),none⟩,.free 0),
   (⟨(some 9),.load 1 false (.t 8),none⟩,.calm 0 0),
   (⟨(some 10),.call 10 [.t 9],none⟩,.calm 0 0),
   (⟨(some 11),.mks 9 1 [.k (.d (.lit (.string ⟨#[100,105,115,116,32]⟩))),.t 7,.k (.d (.lit (.string ⟨#[32,123,32]⟩))),.t 10,.k (.d (.lit (.string ⟨#[32,125,59]⟩)))],none⟩,.free 0),
   (⟨(some 12),.call 28 [.t 4,.t 11],none⟩,.act)] [])
def rs91:List RV:=[]
theorem k91:okFn G.tab Tryz.f91 2 c91 rs91=true:=by kernel_rfl
def c92:Cd:=
 .seq (
  .ops [
   ⟨(some 2),.box 58 (.t 0),none⟩,
   ⟨(some 3),.box 53 (.t 1),none⟩] [2,3]) (
  .seq (
   .drawg [
    (⟨(some 4),.load 1 false (.t 2),none⟩,.calm 0 0),
    (⟨(some 5),.fa 1 (.t 3),none⟩,.free 0),
    (⟨(some 6),.load 4 true (.t 5),none⟩,.calm 0 0),
    (⟨(some 7),.call 121 [.t 6],none⟩,.calm 0 0),
    (⟨(some 8),.mks 9 1 [.k (.d (.lit (.string ⟨#[105,102,32,40]⟩))),.t 7,.k (.d (.lit (.string ⟨#[41,32,123]⟩)))],none⟩,.free 0),
    (⟨(some 9),.call 28 [.t 4,.t 8],none⟩,.act)] [2,3]) (
   .seq (
    .ops [
     ⟨(some 10),.load 1 false (.t 2),none⟩,
     ⟨(some 11),.mkfn 123 [.t 2,.t 3],none⟩,
     ⟨(some 12),.call 29 [.t 10,.t 11],none⟩] [2,3]) (
    .seq (
     .seq (
      .ops [
       ⟨(some 13),.fa 9 (.t 3),none⟩,
       ⟨(some 14),.load 1 false (.t 13),none⟩,
       ⟨(some 15),.len false (.t 14),none⟩,
       ⟨(some 16),.bin .gtr (.t 15) (.k (.d (.lit (.int .i64 0)))),none⟩] [2,3,16]) (
      .cond (.t 16) (
       .seq (
        .ops [
         ⟨(some 17),.load 1 false (.t 2),none⟩,
         ⟨(some 18),.mks 9 1 [.k (.d (.lit (.string ⟨#[125,32,101,108,115,101,32,123]⟩)))],none⟩,
         ⟨(some 19),.call 28 [.t 17,.t 18],none⟩] [2,3]) (
        .ops [
         ⟨(some 20),.load 1 false (.t 2),none⟩,
         ⟨(some 21),.mkfn 124 [.t 2,.t 3],none⟩,
         ⟨(some 22),.call 29 [.t 20,.t 21],none⟩] [2])) (
       .skip))) (
     .ops [
      ⟨(some 23),.load 1 false (.t 2),none⟩,
      ⟨(some 24),.mks 9 1 [.k (.d (.lit (.string ⟨#[125]⟩)))],none⟩,
      ⟨(some 25),.call 28 [.t 23,.t 24],none⟩] []))))
def rs92:List RV:=[]
theorem k92:okFn G.tab Tryz.f92 2 c92 rs92=true:=by kernel_rfl
def c93:Cd:=
 .seq (
  .ops [
   ⟨(some 2),.box 58 (.t 0),none⟩,
   ⟨(some 3),.box 53 (.t 1),none⟩] [2,3]) (
  .seq (
   .ops [
    ⟨(some 4),.load 1 false (.t 2),none⟩,
    ⟨(some 5),.fa 6 (.t 3),none⟩,
    ⟨(some 6),.load 1 false (.t 5),none⟩,
    ⟨(some 7),.fa 5 (.t 3),none⟩,
    ⟨(some 8),.load 1 false (.t 7),none⟩,
    ⟨(some 9),.mks 9 1 [.k (.d (.lit (.string ⟨#[101,97,99,104,32]⟩))),.t 6,.k (.d (.lit (.string ⟨#[32,105,110,32]⟩))),.t 8,.k (.d (.lit (.string ⟨#[32,123]⟩)))],none⟩,
    ⟨(some 10),.call 28 [.t 4,.t 9],none⟩] [2,3]) (
   .seq (
    .ops [
     ⟨(some 11),.load 1 false (.t 2),none⟩,
     ⟨(some 12),.mkfn 125 [.t 2,.t 3],none⟩,
     ⟨(some 13),.call 29 [.t 11,.t 12],none⟩] [2]) (
    .ops [
     ⟨(some 14),.load 1 false (.t 2),none⟩,
     ⟨(some 15),.mks 9 1 [.k (.d (.lit (.string ⟨#[125]⟩)))],none⟩,
     ⟨(some 16),.call 28 [.t 14,.t 15],none⟩] [])))
def rs93:List RV:=[]
theorem k93:okFn G.tab Tryz.f93 2 c93 rs93=true:=by kernel_rfl
def c94:Cd:=
 .seq (
  .ops [
   ⟨(some 3),.box 53 (.t 1),none⟩] [0,3]) (
  .drawg [
   (⟨(some 4),.mv (.t 0),none⟩,.free 0),
   (⟨(some 5),.fa 10 (.t 3),none⟩,.free 0),
   (⟨(some 6),.load 1 false (.t 5),none⟩,.calm 0 0),
   (⟨(some 7),.call 126 [.t 6],none⟩,.calm 0 0),
   (⟨(some 8),.fa 11 (.t 3),none⟩,.free 0),
   (⟨(some 9),.load 1 false (.t 8),none⟩,.calm 0 0),
   (⟨(some 10),.call 126 [.t 9],none⟩,.calm 0 0),
   (⟨(some 11),.mks 9 1 [.k (.d (.lit (.string ⟨#[115,111,108,118,101,32]⟩))),.t 7,.k (.d (.lit (.string ⟨#[32,98,101,102,111,114,101,32]⟩))),.t 10,.k (.d (.lit (.string ⟨#[59]⟩)))],none⟩,.free 0),
   (⟨(some 12),.call 28 [.t 4,.t 11],none⟩,.act)] [])
def rs94:List RV:=[]
theorem k94:okFn G.tab Tryz.f94 2 c94 rs94=true:=by kernel_rfl
def c95:Cd:=
 .seq (
  .ops [
   ⟨(some 3),.box 53 (.t 1),none⟩] [0,3]) (
  .ops [
   ⟨(some 4),.mv (.t 0),none⟩,
   ⟨(some 5),.fa 1 (.t 3),none⟩,
   ⟨(some 6),.load 4 true (.t 5),none⟩,
   ⟨(some 7),.call 121 [.t 6],none⟩,
   ⟨(some 8),.mks 9 1 [.t 7,.k (.d (.lit (.string ⟨#[59]⟩)))],none⟩,
   ⟨(some 9),.call 28 [.t 4,.t 8],none⟩] [])
def rs95:List RV:=[]
theorem k95:okFn G.tab Tryz.f95 2 c95 rs95=true:=by kernel_rfl
def c123:Cd:=
 .ops [
  ⟨(some 2),.load 1 false (.t 0),none⟩,
  ⟨(some 3),.fa 8 (.t 1),none⟩,
  ⟨(some 4),.load 1 false (.t 3),none⟩,
  ⟨(some 5),.call 39 [.t 2,.t 4],none⟩] []
def rs123:List RV:=[]
theorem k123:okFn G.tab Tryz.f123 2 c123 rs123=true:=by kernel_rfl
def c124:Cd:=
 .ops [
  ⟨(some 2),.load 1 false (.t 0),none⟩,
  ⟨(some 3),.fa 9 (.t 1),none⟩,
  ⟨(some 4),.load 1 false (.t 3),none⟩,
  ⟨(some 5),.call 39 [.t 2,.t 4],none⟩] []
def rs124:List RV:=[]
theorem k124:okFn G.tab Tryz.f124 2 c124 rs124=true:=by kernel_rfl
def c125:Cd:=
 .ops [
  ⟨(some 2),.load 1 false (.t 0),none⟩,
  ⟨(some 3),.fa 8 (.t 1),none⟩,
  ⟨(some 4),.load 1 false (.t 3),none⟩,
  ⟨(some 5),.call 39 [.t 2,.t 4],none⟩] []
def rs125:List RV:=[]
theorem k125:okFn G.tab Tryz.f125 2 c125 rs125=true:=by kernel_rfl
def c46:Cd:=
 .seq (
  .ops [
   ⟨(some 1),.box 29 (.t 0),none⟩,
   ⟨(some 2),.mv (.k (.d (.lit (.int .i64 0)))),none⟩] [1]) (
  .seq (
   .block 0 (
    .seq (
     .ops [
      ⟨(some 7),.fa 0 (.t 1),none⟩,
      ⟨(some 8),.load 1 false (.t 7),none⟩,
      ⟨(some 9),.call 65 [.t 8],none⟩,
      ⟨(some 10),.un .not (.t 9),none⟩,
      ⟨(some 11),.mv (.t 10),none⟩,
      ⟨(some 12),.fa 1 (.t 1),(some (11,false))⟩,
      ⟨(some 13),.load 1 false (.t 12),(some (11,false))⟩,
      ⟨(some 14),.bin .neq (.t 13) (.k (.d (.lit (.string ⟨#[]⟩)))),(some (11,false))⟩,
      ⟨(some 15),.mv (.t 14),(some (11,false))⟩,
      ⟨(some 16),.fa 1 (.t 1),(some (15,true))⟩,
      ⟨(some 17),.load 1 false (.t 16),(some (15,true))⟩,
      ⟨(some 18),.call 65 [.t 17],(some (15,true))⟩,
      ⟨(some 19),.un .not (.t 18),(some (15,true))⟩,
      ⟨(some 20),.pick (.t 15) (.t 19) (.k (.d (.lit (.bool false)))),(some (11,false))⟩,
      ⟨(some 21),.pick (.t 11) (.k (.d (.lit (.bool true)))) (.t 20),none⟩,
      ⟨(some 6),.mv (.t 21),none⟩] [1,6]) (
     .cond (.t 6) (
      .seq (
       .ops [
        ⟨(some 2),.mv (.k (.d (.lit (.int .i64 7)))),none⟩] [2]) (
       .ret)) (
      .seq (
       .ops [
        ⟨(some 23),.fa 2 (.t 1),none⟩,
        ⟨(some 24),.load 1 false (.t 23),none⟩,
        ⟨(some 25),.len false (.t 24),none⟩,
        ⟨(some 26),.bin .gtr (.t 25) (.k (.d (.lit (.int .i64 16)))),none⟩,
        ⟨(some 27),.mv (.t 26),none⟩,
        ⟨(some 28),.fa 3 (.t 1),(some (27,false))⟩,
        ⟨(some 29),.load 1 false (.t 28),(some (27,false))⟩,
        ⟨(some 30),.len false (.t 29),(some (27,false))⟩,
        ⟨(some 31),.bin .gtr (.t 30) (.k (.d (.lit (.int .i64 16)))),(some (27,false))⟩,
        ⟨(some 32),.pick (.t 27) (.k (.d (.lit (.bool true)))) (.t 31),none⟩,
        ⟨(some 22),.mv (.t 32),none⟩] [1,22]) (
       .cond (.t 22) (
        .seq (
         .ops [
          ⟨(some 2),.mv (.k (.d (.lit (.int .i64 2)))),none⟩] [2]) (
         .ret)) (
        .skip)))))) (
   .seq (
    .seq (
     .ops [
      ⟨(some 33),.fa 2 (.t 1),none⟩,
      ⟨(some 34),.load 1 false (.t 33),none⟩,
      ⟨(some 35),.len false (.t 34),none⟩,
      ⟨(some 36),.mv (.k (.d (.lit (.int .i64 0)))),none⟩] [1,34,35,36]) (
     .block 1 (
      .loop (
       .seq (
        .ops [
         ⟨(some 37),.bin .lss (.t 36) (.t 35),none⟩] [1,34,35,36,37]) (
        .seq (
         .cond (.t 37) (
          .skip) (
          .exit 1)) (
         .seq (
          .block 2 (
           .seq (
            .ops [
             ⟨(some 38),.ia 5 (.t 34) (.t 36),none⟩,
             ⟨(some 39),.load 5 true (.t 38),none⟩,
             ⟨(some 4),.new 55 [.d (.lit (.string ⟨#[]⟩)),.d (.lit (.int .i64 0)),.d (.lit (.int .i64 0)),.d (.lit (.int .i64 0)),.d (.lit (.int .i64 0))],none⟩,
             ⟨none,.sto 5 (.t 4) (.t 39),none⟩] [1,4,34,35,36]) (
            .seq (
             .ops [
              ⟨(some 40),.load 5 true (.t 4),none⟩,
              ⟨(some 41),.call 66 [.t 40],none⟩,
              ⟨(some 5),.mv (.t 41),none⟩] [1,5,34,35,36]) (
             .seq (
              .ops [
               ⟨(some 42),.mv (.t 5),none⟩,
               ⟨(some 43),.bin .neq (.t 42) (.k (.d (.lit (.int .i64 0)))),none⟩] [1,5,34,35,36,43]) (
              .cond (.t 43) (
               .seq (
                .ops [
                 ⟨(some 44),.mv (.t 5),none⟩,
                 ⟨(some 2),.mv (.t 44),none⟩] [2]) (
                .ret)) (
               .skip)))))) (
          .ops [
           ⟨(some 45),.bin .add (.t 36) (.k (.d (.lit (.int .i64 1)))),none⟩,
           ⟨(some 36),.mv (.t 45),none⟩] [1,34,35,36]))))))) (
    .seq (
     .seq (
      .ops [
       ⟨(some 46),.fa 3 (.t 1),none⟩,
       ⟨(some 47),.load 1 false (.t 46),none⟩,
       ⟨(some 48),.call 67 [.t 47,.k (.fn 68 [])],none⟩] [1,48]) (
      .cond (.t 48) (
       .seq (
        .ops [
         ⟨(some 2),.mv (.k (.d (.lit (.int .i64 7)))),none⟩] [2]) (
        .ret)) (
       .skip))) (
     .seq (
      .seq (
       .ops [
        ⟨(some 49),.fa 2 (.t 1),none⟩,
        ⟨(some 50),.load 1 false (.t 49),none⟩,
        ⟨(some 51),.call 69 [.t 50,.k (.fn 70 [])],none⟩,
        ⟨(some 52),.mv (.t 51),none⟩,
        ⟨(some 53),.fa 3 (.t 1),(some (52,false))⟩,
        ⟨(some 54),.load 1 false (.t 53),(some (52,false))⟩,
        ⟨(some 55),.call 71 [.t 54,.k (.fn 72 [])],(some (52,false))⟩,
        ⟨(some 56),.pick (.t 52) (.k (.d (.lit (.bool true)))) (.t 55),none⟩] [56]) (
       .cond (.t 56) (
        .seq (
         .ops [
          ⟨(some 2),.mv (.k (.d (.lit (.int .i64 8)))),none⟩] [2]) (
         .ret)) (
        .skip))) (
      .seq (
       .ops [
        ⟨(some 2),.mv (.k (.d (.lit (.int .i64 0)))),none⟩] [2]) (
       .ret))))))
def rs46:List RV:=[.t 2 false]
theorem k46:okFn G.tab Tryz.f46 1 c46 rs46=true:=by kernel_rfl
def c68:Cd:=
 .seq (
  .ops [
   ⟨(some 1),.box 57 (.t 0),none⟩,
   ⟨(some 2),.mv (.k (.d (.lit (.bool false)))),none⟩] [1]) (
  .seq (
   .ops [
    ⟨(some 3),.fa 0 (.t 1),none⟩,
    ⟨(some 4),.load 1 false (.t 3),none⟩,
    ⟨(some 5),.call 65 [.t 4],none⟩,
    ⟨(some 6),.un .not (.t 5),none⟩,
    ⟨(some 2),.mv (.t 6),none⟩] [2]) (
   .ret))
def rs68:List RV:=[.t 2 false]
theorem k68:okFn G.tab Tryz.f68 1 c68 rs68=true:=by kernel_rfl
def c66:Cd:=
 .seq (
  .ops [
   ⟨(some 1),.box 55 (.t 0),none⟩,
   ⟨(some 2),.mv (.k (.d (.lit (.int .i64 0)))),none⟩] [1]) (
  .seq (
   .block 0 (
    .seq (
     .ops [
      ⟨(some 5),.fa 0 (.t 1),none⟩,
      ⟨(some 6),.load 1 false (.t 5),none⟩,
      ⟨(some 7),.call 65 [.t 6],none⟩,
      ⟨(some 8),.un .not (.t 7),none⟩,
      ⟨(some 4),.mv (.t 8),none⟩] [1,4]) (
     .cond (.t 4) (
      .seq (
       .ops [
        ⟨(some 2),.mv (.k (.d (.lit (.int .i64 7)))),none⟩] [2]) (
       .ret)) (
      .seq (
       .ops [
        ⟨(some 10),.fa 1 (.t 1),none⟩,
        ⟨(some 11),.load 1 false (.t 10),none⟩,
        ⟨(some 12),.bin .lss (.t 11) (.k (.d (.lit (.int .i64 1)))),none⟩,
        ⟨(some 13),.mv (.t 12),none⟩,
        ⟨(some 14),.fa 1 (.t 1),(some (13,false))⟩,
        ⟨(some 15),.load 1 false (.t 14),(some (13,false))⟩,
        ⟨(some 16),.bin .gtr (.t 15) (.k (.d (.lit (.int .i64 8)))),(some (13,false))⟩,
        ⟨(some 17),.pick (.t 13) (.k (.d (.lit (.bool true)))) (.t 16),none⟩,
        ⟨(some 18),.mv (.t 17),none⟩,
        ⟨(some 19),.fa 2 (.t 1),(some (18,false))⟩,
        ⟨(some 20),.load 1 false (.t 19),(some (18,false))⟩,
        ⟨(some 21),.bin .lss (.t 20) (.k (.d (.lit (.int .i64 0)))),(some (18,false))⟩,
        ⟨(some 22),.pick (.t 18) (.k (.d (.lit (.bool true)))) (.t 21),none⟩,
        ⟨(some 23),.mv (.t 22),none⟩,
        ⟨(some 24),.fa 2 (.t 1),(some (23,false))⟩,
        ⟨(some 25),.load 1 false (.t 24),(some (23,false))⟩,
        ⟨(some 26),.bin .gtr (.t 25) (.k (.d (.lit (.int .i64 8)))),(some (23,false))⟩,
        ⟨(some 27),.pick (.t 23) (.k (.d (.lit (.bool true)))) (.t 26),none⟩,
        ⟨(some 9),.mv (.t 27),none⟩] [1,9]) (
       .cond (.t 9) (
        .seq (
         .ops [
          ⟨(some 2),.mv (.k (.d (.lit (.int .i64 1)))),none⟩] [2]) (
         .ret)) (
        .seq (
         .ops [
          ⟨(some 29),.fa 3 (.t 1),none⟩,
          ⟨(some 30),.load 1 false (.t 29),none⟩,
          ⟨(some 31),.bin .neq (.t 30) (.k (.d (.lit (.int .i64 0)))),none⟩,
          ⟨(some 32),.mv (.t 31),none⟩,
          ⟨(some 33),.fa 3 (.t 1),(some (32,true))⟩,
          ⟨(some 34),.load 1 false (.t 33),(some (32,true))⟩,
          ⟨(some 35),.bin .neq (.t 34) (.k (.d (.lit (.int .i64 1)))),(some (32,true))⟩,
          ⟨(some 36),.pick (.t 32) (.t 35) (.k (.d (.lit (.bool false)))),none⟩,
          ⟨(some 37),.mv (.t 36),none⟩,
          ⟨(some 38),.fa 3 (.t 1),(some (37,true))⟩,
          ⟨(some 39),.load 1 false (.t 38),(some (37,true))⟩,
          ⟨(some 40),.bin .neq (.t 39) (.k (.d (.lit (.int .i64 2)))),(some (37,true))⟩,
          ⟨(some 41),.pick (.t 37) (.t 40) (.k (.d (.lit (.bool false)))),none⟩,
          ⟨(some 28),.mv (.t 41),none⟩] [1,28]) (
         .cond (.t 28) (
          .seq (
           .ops [
            ⟨(some 2),.mv (.k (.d (.lit (.int .i64 1)))),none⟩] [2]) (
           .ret)) (
          .seq (
           .ops [
            ⟨(some 43),.fa 2 (.t 1),none⟩,
            ⟨(some 44),.load 1 false (.t 43),none⟩,
            ⟨(some 45),.bin .neq (.t 44) (.k (.d (.lit (.int .i64 0)))),none⟩,
            ⟨(some 46),.mv (.t 45),none⟩,
            ⟨(some 47),.fa 3 (.t 1),(some (46,true))⟩,
            ⟨(some 48),.load 1 false (.t 47),(some (46,true))⟩,
            ⟨(some 49),.bin .eql (.t 48) (.k (.d (.lit (.int .i64 2)))),(some (46,true))⟩,
            ⟨(some 50),.pick (.t 46) (.t 49) (.k (.d (.lit (.bool false)))),none⟩,
            ⟨(some 42),.mv (.t 50),none⟩] [1,42]) (
           .cond (.t 42) (
            .seq (
             .ops [
              ⟨(some 2),.mv (.k (.d (.lit (.int .i64 1)))),none⟩] [2]) (
             .ret)) (
            .skip)))))))))) (
   .seq (
    .ops [
     ⟨(some 3),.mv (.k (.d (.lit (.int .i64 0)))),none⟩] [1,3]) (
    .seq (
     .seq (
      .ops [
       ⟨(some 51),.fa 3 (.t 1),none⟩,
       ⟨(some 52),.load 1 false (.t 51),none⟩,
       ⟨(some 53),.bin .eql (.t 52) (.k (.d (.lit (.int .i64 0)))),none⟩] [1,3,53]) (
      .cond (.t 53) (
       .ops [
        ⟨(some 54),.fa 1 (.t 1),none⟩,
        ⟨(some 55),.load 1 false (.t 54),none⟩,
        ⟨(some 56),.bin .shl (.k (.d (.lit (.int .i64 1)))) (.t 55),none⟩,
        ⟨(some 57),.bin .sub (.t 56) (.k (.d (.lit (.int .i64 1)))),none⟩,
        ⟨(some 3),.mv (.t 57),none⟩] [1,3]) (
       .skip))) (
     .seq (
      .seq (
       .ops [
        ⟨(some 58),.fa 4 (.t 1),none⟩,
        ⟨(some 59),.load 1 false (.t 58),none⟩,
        ⟨(some 60),.bin .lss (.t 59) (.k (.d (.lit (.int .i64 0)))),none⟩,
        ⟨(some 61),.mv (.t 60),none⟩,
        ⟨(some 62),.fa 4 (.t 1),(some (61,false))⟩,
        ⟨(some 63),.load 1 false (.t 62),(some (61,false))⟩,
        ⟨(some 64),.mv (.t 3),(some (61,false))⟩,
        ⟨(some 65),.bin .gtr (.t 63) (.t 64),(some (61,false))⟩,
        ⟨(some 66),.pick (.t 61) (.k (.d (.lit (.bool true)))) (.t 65),none⟩] [66]) (
       .cond (.t 66) (
        .seq (
         .ops [
          ⟨(some 2),.mv (.k (.d (.lit (.int .i64 1)))),none⟩] [2]) (
         .ret)) (
        .skip))) (
      .seq (
       .ops [
        ⟨(some 2),.mv (.k (.d (.lit (.int .i64 0)))),none⟩] [2]) (
       .ret))))))
def rs66:List RV:=[.t 2 false]
theorem k66:okFn G.tab Tryz.f66 1 c66 rs66=true:=by kernel_rfl
def c69:Cd:=
 .seq (
  .ops [
   ⟨(some 4),.mv (.k (.d (.lit (.bool false)))),none⟩] [0,1]) (
  .seq (
   .seq (
    .ops [
     ⟨(some 7),.mv (.t 0),none⟩,
     ⟨(some 8),.len false (.t 7),none⟩,
     ⟨(some 9),.mv (.k (.d (.lit (.int .i64 0)))),none⟩] [0,1,8,9]) (
    .block 0 (
     .loop (
      .seq (
       .ops [
        ⟨(some 10),.bin .lss (.t 9) (.t 8),none⟩] [0,1,8,9,10]) (
       .seq (
        .cond (.t 10) (
         .skip) (
         .exit 0)) (
        .seq (
         .block 1 (
          .seq (
           .ops [
            ⟨(some 11),.mv (.t 9),none⟩,
            ⟨(some 5),.mv (.t 11),none⟩] [0,1,5,8,9]) (
           .seq (
            .ops [
             ⟨(some 12),.mv (.t 5),none⟩,
             ⟨(some 13),.mv (.k (.d (.lit (.int .i64 0)))),none⟩] [0,1,5,8,9,12,13]) (
            .block 2 (
             .loop (
              .seq (
               .ops [
                ⟨(some 14),.bin .lss (.t 13) (.t 12),none⟩] [0,1,5,8,9,12,13,14]) (
               .seq (
                .cond (.t 14) (
                 .skip) (
                 .exit 2)) (
                .seq (
                 .block 3 (
                  .seq (
                   .ops [
                    ⟨(some 15),.mv (.t 13),none⟩,
                    ⟨(some 6),.mv (.t 15),none⟩] [0,1,5,6,8,9,12,13]) (
                   .seq (
                    .draw [
                     ⟨(some 16),.mv (.t 1),none⟩,
                     ⟨(some 17),.mv (.t 0),none⟩,
                     ⟨(some 18),.mv (.t 5),none⟩,
                     ⟨(some 19),.ia 5 (.t 17) (.t 18),none⟩,
                     ⟨(some 20),.load 5 true (.t 19),none⟩,
                     ⟨(some 21),.callv (.t 16) [.t 20],none⟩,
                     ⟨(some 22),.mv (.t 1),none⟩,
                     ⟨(some 23),.mv (.t 0),none⟩,
                     ⟨(some 24),.mv (.t 6),none⟩,
                     ⟨(some 25),.ia 5 (.t 23) (.t 24),none⟩,
                     ⟨(some 26),.load 5 true (.t 25),none⟩,
                     ⟨(some 27),.callv (.t 22) [.t 26],none⟩,
                     ⟨(some 28),.bin .eql (.t 21) (.t 27),none⟩] [0,1,5,8,9,12,13,28]) (
                    .cond (.t 28) (
                     .seq (
                      .ops [
                       ⟨(some 4),.mv (.k (.d (.lit (.bool true)))),none⟩] [4]) (
                      .ret)) (
                     .skip))))) (
                 .ops [
                  ⟨(some 29),.bin .add (.t 13) (.k (.d (.lit (.int .i64 1)))),none⟩,
                  ⟨(some 13),.mv (.t 29),none⟩] [0,1,5,8,9,12,13]))))))))) (
         .ops [
          ⟨(some 30),.bin .add (.t 9) (.k (.d (.lit (.int .i64 1)))),none⟩,
          ⟨(some 9),.mv (.t 30),none⟩] [0,1,8,9]))))))) (
   .seq (
    .ops [
     ⟨(some 4),.mv (.k (.d (.lit (.bool false)))),none⟩] [4]) (
    .ret)))
def rs69:List RV:=[.t 4 false]
theorem k69:okFn G.tab Tryz.f69 2 c69 rs69=true:=by kernel_rfl
def c71:Cd:=
 .seq (
  .ops [
   ⟨(some 4),.mv (.k (.d (.lit (.bool false)))),none⟩] [0,1]) (
  .seq (
   .seq (
    .ops [
     ⟨(some 7),.mv (.t 0),none⟩,
     ⟨(some 8),.len false (.t 7),none⟩,
     ⟨(some 9),.mv (.k (.d (.lit (.int .i64 0)))),none⟩] [0,1,8,9]) (
    .block 0 (
     .loop (
      .seq (
       .ops [
        ⟨(some 10),.bin .lss (.t 9) (.t 8),none⟩] [0,1,8,9,10]) (
       .seq (
        .cond (.t 10) (
         .skip) (
         .exit 0)) (
        .seq (
         .block 1 (
          .seq (
           .ops [
            ⟨(some 11),.mv (.t 9),none⟩,
            ⟨(some 5),.mv (.t 11),none⟩] [0,1,5,8,9]) (
           .seq (
            .ops [
             ⟨(some 12),.mv (.t 5),none⟩,
             ⟨(some 13),.mv (.k (.d (.lit (.int .i64 0)))),none⟩] [0,1,5,8,9,12,13]) (
            .block 2 (
             .loop (
              .seq (
               .ops [
                ⟨(some 14),.bin .lss (.t 13) (.t 12),none⟩] [0,1,5,8,9,12,13,14]) (
               .seq (
                .cond (.t 14) (
                 .skip) (
                 .exit 2)) (
                .seq (
                 .block 3 (
                  .seq (
                   .ops [
                    ⟨(some 15),.mv (.t 13),none⟩,
                    ⟨(some 6),.mv (.t 15),none⟩] [0,1,5,6,8,9,12,13]) (
                   .seq (
                    .draw [
                     ⟨(some 16),.mv (.t 1),none⟩,
                     ⟨(some 17),.mv (.t 0),none⟩,
                     ⟨(some 18),.mv (.t 5),none⟩,
                     ⟨(some 19),.ia 2 (.t 17) (.t 18),none⟩,
                     ⟨(some 20),.load 2 true (.t 19),none⟩,
                     ⟨(some 21),.callv (.t 16) [.t 20],none⟩,
                     ⟨(some 22),.mv (.t 1),none⟩,
                     ⟨(some 23),.mv (.t 0),none⟩,
                     ⟨(some 24),.mv (.t 6),none⟩,
                     ⟨(some 25),.ia 2 (.t 23) (.t 24),none⟩,
                     ⟨(some 26),.load 2 true (.t 25),none⟩,
                     ⟨(some 27),.callv (.t 22) [.t 26],none⟩,
                     ⟨(some 28),.bin .eql (.t 21) (.t 27),none⟩] [0,1,5,8,9,12,13,28]) (
                    .cond (.t 28) (
                     .seq (
                      .ops [
                       ⟨(some 4),.mv (.k (.d (.lit (.bool true)))),none⟩] [4]) (
                      .ret)) (
                     .skip))))) (
                 .ops [
                  ⟨(some 29),.bin .add (.t 13) (.k (.d (.lit (.int .i64 1)))),none⟩,
                  ⟨(some 13),.mv (.t 29),none⟩] [0,1,5,8,9,12,13]))))))))) (
         .ops [
          ⟨(some 30),.bin .add (.t 9) (.k (.d (.lit (.int .i64 1)))),none⟩,
          ⟨(some 9),.mv (.t 30),none⟩] [0,1,8,9]))))))) (
   .seq (
    .ops [
     ⟨(some 4),.mv (.k (.d (.lit (.bool false)))),none⟩] [4]) (
    .ret)))
def rs71:List RV:=[.t 4 false]
theorem k71:okFn G.tab Tryz.f71 2 c71 rs71=true:=by kernel_rfl
def c70:Cd:=
 .seq (
  .ops [
   ⟨(some 1),.box 55 (.t 0),none⟩,
   ⟨(some 2),.mv (.k (.d (.lit (.string ⟨#[]⟩)))),none⟩] [1]) (
  .seq (
   .ops [
    ⟨(some 3),.fa 0 (.t 1),none⟩,
    ⟨(some 4),.load 1 false (.t 3),none⟩,
    ⟨(some 2),.mv (.t 4),none⟩] [2]) (
   .ret))
def rs70:List RV:=[.t 2 false]
theorem k70:okFn G.tab Tryz.f70 1 c70 rs70=true:=by kernel_rfl
def c72:Cd:=
 .seq (
  .ops [
   ⟨(some 1),.box 57 (.t 0),none⟩,
   ⟨(some 2),.mv (.k (.d (.lit (.string ⟨#[]⟩)))),none⟩] [1]) (
  .seq (
   .ops [
    ⟨(some 3),.fa 0 (.t 1),none⟩,
    ⟨(some 4),.load 1 false (.t 3),none⟩,
    ⟨(some 2),.mv (.t 4),none⟩] [2]) (
   .ret))
def rs72:List RV:=[.t 2 false]
theorem k72:okFn G.tab Tryz.f72 1 c72 rs72=true:=by kernel_rfl
def c67:Cd:=
 .seq (
  .ops [
   ⟨(some 4),.mv (.k (.d (.lit (.bool false)))),none⟩] [0,1]) (
  .seq (
   .ops [
    ⟨(some 5),.mv (.t 0),none⟩,
    ⟨(some 6),.mv (.t 1),none⟩,
    ⟨(some 7),.call 106 [.t 5,.t 6],none⟩,
    ⟨(some 8),.bin .geq (.t 7) (.k (.d (.lit (.int .i64 0)))),none⟩,
    ⟨(some 4),.mv (.t 8),none⟩] [4]) (
   .ret))
def rs67:List RV:=[.t 4 false]
theorem k67:okFn G.tab Tryz.f67 2 c67 rs67=true:=by kernel_rfl
def c106:Cd:=
 .seq (
  .ops [
   ⟨(some 4),.mv (.k (.d (.lit (.int .i64 0)))),none⟩] [0,1]) (
  .seq (
   .seq (
    .ops [
     ⟨(some 6),.mv (.t 0),none⟩,
     ⟨(some 7),.len false (.t 6),none⟩,
     ⟨(some 8),.mv (.k (.d (.lit (.int .i64 0)))),none⟩] [0,1,7,8]) (
    .block 0 (
     .loop (
      .seq (
       .ops [
        ⟨(some 9),.bin .lss (.t 8) (.t 7),none⟩] [0,1,7,8,9]) (
       .seq (
        .cond (.t 9) (
         .skip) (
         .exit 0)) (
        .seq (
         .block 1 (
          .seq (
           .ops [
            ⟨(some 10),.mv (.t 8),none⟩,
            ⟨(some 5),.mv (.t 10),none⟩] [0,1,5,7,8]) (
           .seq (
            .ops [
             ⟨(some 11),.mv (.t 1),none⟩,
             ⟨(some 12),.mv (.t 0),none⟩,
             ⟨(some 13),.mv (.t 5),none⟩,
             ⟨(some 14),.ia 2 (.t 12) (.t 13),none⟩,
             ⟨(some 15),.load 2 true (.t 14),none⟩,
             ⟨(some 16),.callv (.t 11) [.t 15],none⟩] [0,1,5,7,8,16]) (
            .cond (.t 16) (
             .seq (
              .ops [
               ⟨(some 17),.mv (.t 5),none⟩,
               ⟨(some 4),.mv (.t 17),none⟩] [4]) (
              .ret)) (
             .skip))))) (
         .ops [
          ⟨(some 18),.bin .add (.t 8) (.k (.d (.lit (.int .i64 1)))),none⟩,
          ⟨(some 8),.mv (.t 18),none⟩] [0,1,7,8]))))))) (
   .seq (
    .ops [
     ⟨(some 4),.mv (.k (.d (.lit (.int .i64 (-1))))),none⟩] [4]) (
    .ret)))
def rs106:List RV:=[.t 4 false]
theorem k106:okFn G.tab Tryz.f106 2 c106 rs106=true:=by kernel_rfl
def c11:Cd:=
 .seq (
  .ops [
   ⟨(some 2),.mv (.k (.d (.lit (.string ⟨#[]⟩)))),none⟩] [0]) (
  .seq (
   .ops [
    ⟨(some 3),.nilo 9 1,none⟩] [0,3]) (
   .seq (
    .seq (
     .ops [
      ⟨(some 4),.mv (.k (.d (.lit (.int .i64 0)))),none⟩] [0,3,4]) (
     .block 0 (
      .loop (
       .seq (
        .seq (
         .ops [
          ⟨(some 7),.mv (.t 4),none⟩,
          ⟨(some 8),.mv (.t 0),none⟩,
          ⟨(some 9),.len false (.t 8),none⟩,
          ⟨(some 10),.bin .lss (.t 7) (.t 9),none⟩] [0,3,4,10]) (
         .cond (.t 10) (
          .skip) (
          .exit 0))) (
        .seq (
         .block 1 (
          .seq (
           .ops [
            ⟨(some 13),.mv (.t 0),none⟩,
            ⟨(some 14),.mv (.t 4),none⟩,
            ⟨(some 15),.ia 4 (.t 13) (.t 14),none⟩,
            ⟨(some 16),.load 4 true (.t 15),none⟩,
            ⟨(some 5),.new 45 [.d (.lit (.int .i64 0)),.d (.lit (.int .i64 0)),.d (.lit (.int .i64 0)),.d (.lit (.bool false))],none⟩,
            ⟨none,.sto 4 (.t 5) (.t 16),none⟩] [0,3,4,5]) (
           .seq (
            .ops [
             ⟨(some 17),.fa 0 (.t 5),none⟩,
             ⟨(some 18),.load 1 false (.t 17),none⟩,
             ⟨(some 19),.call 25 [.t 18],none⟩,
             ⟨(some 6),.mv (.t 19),none⟩] [0,3,4,5,6]) (
            .seq (
             .seq (
              .ops [
               ⟨(some 20),.fa 1 (.t 5),none⟩,
               ⟨(some 21),.load 1 false (.t 20),none⟩,
               ⟨(some 22),.fa 0 (.t 5),none⟩,
               ⟨(some 23),.load 1 false (.t 22),none⟩,
               ⟨(some 24),.bin .neq (.t 21) (.t 23),none⟩] [0,3,4,5,6,24]) (
              .cond (.t 24) (
               .ops [
                ⟨(some 25),.mv (.t 6),none⟩,
                ⟨(some 26),.bin .add (.t 25) (.k (.d (.lit (.string ⟨#[32,46,46,32]⟩)))),none⟩,
                ⟨(some 27),.fa 1 (.t 5),none⟩,
                ⟨(some 28),.load 1 false (.t 27),none⟩,
                ⟨(some 29),.call 25 [.t 28],none⟩,
                ⟨(some 30),.bin .add (.t 26) (.t 29),none⟩,
                ⟨(some 6),.mv (.t 30),none⟩] [0,3,4,5,6]) (
               .skip))) (
             .seq (
              .seq (
               .ops [
                ⟨(some 31),.fa 3 (.t 5),none⟩,
                ⟨(some 32),.load 1 false (.t 31),none⟩] [0,3,4,5,6,32]) (
               .cond (.t 32) (
                .ops [
                 ⟨(some 33),.mv (.t 6),none⟩,
                 ⟨(some 34),.bin .add (.t 33) (.k (.d (.lit (.string ⟨#[32,58,61,32]⟩)))),none⟩,
                 ⟨(some 6),.mv (.t 34),none⟩] [0,3,4,5,6]) (
                .ops [
                 ⟨(some 35),.mv (.t 6),none⟩,
                 ⟨(some 36),.bin .add (.t 35) (.k (.d (.lit (.string ⟨#[32,58,47,32]⟩)))),none⟩,
                 ⟨(some 6),.mv (.t 36),none⟩] [0,3,4,5,6]))) (
              .ops [
               ⟨(some 37),.mvo 3,none⟩,
               ⟨(some 38),.mv (.t 6),none⟩,
               ⟨(some 39),.fa 2 (.t 5),none⟩,
               ⟨(some 40),.load 1 false (.t 39),none⟩,
               ⟨(some 41),.call 25 [.t 40],none⟩,
               ⟨(some 42),.bin .add (.t 38) (.t 41),none⟩,
               ⟨(some 43),.mks 9 1 [.t 42],none⟩,
               ⟨(some 44),.app 9 1 16 37 (.t 43),none⟩,
               ⟨(some 3),.mvo 44,none⟩] [0,3,4])))))) (
         .ops [
          ⟨(some 11),.mv (.t 4),none⟩,
          ⟨(some 12),.bin .add (.t 11) (.k (.d (.lit (.int .i64 1)))),none⟩,
          ⟨(some 4),.mv (.t 12),none⟩] [0,3,4])))))) (
    .seq (
     .ops [
      ⟨(some 45),.mv (.t 3),none⟩,
      ⟨(some 46),.call 26 [.t 45,.k (.d (.lit (.string ⟨#[44,32]⟩)))],none⟩,
      ⟨(some 2),.mv (.t 46),none⟩] [2]) (
     .ret))))
def rs11:List RV:=[.t 2 false]
theorem k11:okFn G.tab Tryz.f11 1 c11 rs11=true:=by kernel_rfl
def c25:Cd:=
 .seq (
  .ops [
   ⟨(some 2),.mv (.k (.d (.lit (.string ⟨#[]⟩)))),none⟩] [0]) (
  .seq (
   .ops [
    ⟨(some 4),.mv (.t 0),none⟩,
    ⟨(some 5),.call 45 [.t 4],none⟩,
    ⟨(some 3),.mv (.t 5),none⟩] [3]) (
   .seq (
    .ops [
     ⟨(some 6),.mv (.t 3),none⟩,
     ⟨(some 7),.mv (.t 3),none⟩,
     ⟨(some 8),.len true (.t 7),none⟩,
     ⟨(some 9),.bin .sub (.t 8) (.k (.d (.lit (.int .i64 1)))),none⟩,
     ⟨(some 10),.sub true 0 (.t 6) none (some (.t 9)),none⟩,
     ⟨(some 2),.mv (.t 10),none⟩] [2]) (
    .ret)))
def rs25:List RV:=[.t 2 false]
theorem k25:okFn G.tab Tryz.f25 1 c25 rs25=true:=by kernel_rfl
def c26:Cd:=
 .seq (
  .ops [
   ⟨(some 4),.mv (.k (.d (.lit (.string ⟨#[]⟩)))),none⟩] [0,1]) (
  .seq (
   .ops [
    ⟨(some 5),.mv (.k (.d (.lit (.string ⟨#[]⟩)))),none⟩] [0,1,5]) (
   .seq (
    .seq (
     .ops [
      ⟨(some 6),.mv (.k (.d (.lit (.int .i64 0)))),none⟩] [0,1,5,6]) (
     .block 0 (
      .loop (
       .seq (
        .seq (
         .ops [
          ⟨(some 7),.mv (.t 6),none⟩,
          ⟨(some 8),.mv (.t 0),none⟩,
          ⟨(some 9),.len false (.t 8),none⟩,
          ⟨(some 10),.bin .lss (.t 7) (.t 9),none⟩] [0,1,5,6,10]) (
         .cond (.t 10) (
          .skip) (
          .exit 0))) (
        .seq (
         .block 1 (
          .seq (
           .seq (
            .ops [
             ⟨(some 13),.mv (.t 6),none⟩,
             ⟨(some 14),.bin .gtr (.t 13) (.k (.d (.lit (.int .i64 0)))),none⟩] [0,1,5,6,14]) (
            .cond (.t 14) (
             .ops [
              ⟨(some 15),.mv (.t 5),none⟩,
              ⟨(some 16),.mv (.t 1),none⟩,
              ⟨(some 17),.bin .add (.t 15) (.t 16),none⟩,
              ⟨(some 5),.mv (.t 17),none⟩] [0,1,5,6]) (
             .skip))) (
           .ops [
            ⟨(some 18),.mv (.t 5),none⟩,
            ⟨(some 19),.mv (.t 0),none⟩,
            ⟨(some 20),.mv (.t 6),none⟩,
            ⟨(some 21),.ia 1 (.t 19) (.t 20),none⟩,
            ⟨(some 22),.load 1 false (.t 21),none⟩,
            ⟨(some 23),.bin .add (.t 18) (.t 22),none⟩,
            ⟨(some 5),.mv (.t 23),none⟩] [0,1,5,6]))) (
         .ops [
          ⟨(some 11),.mv (.t 6),none⟩,
          ⟨(some 12),.bin .add (.t 11) (.k (.d (.lit (.int .i64 1)))),none⟩,
          ⟨(some 6),.mv (.t 12),none⟩] [0,1,5,6])))))) (
    .seq (
     .ops [
      ⟨(some 24),.mv (.t 5),none⟩,
      ⟨(some 4),.mv (.t 24),none⟩] [4]) (
     .ret))))
def rs26:List RV:=[.t 4 false]
theorem k26:okFn G.tab Tryz.f26 2 c26 rs26=true:=by kernel_rfl
def c22:Cd:=
 .seq (
  .ops [
   ⟨(some 2),.mv (.k (.d (.lit (.string ⟨#[]⟩)))),none⟩] [0]) (
  .seq (
   .ops [
    ⟨(some 3),.mv (.k (.d (.lit (.string ⟨#[]⟩)))),none⟩] [0,3]) (
   .seq (
    .seq (
     .ops [
      ⟨(some 4),.mv (.k (.d (.lit (.int .i64 0)))),none⟩] [0,3,4]) (
     .block 0 (
      .loop (
       .seq (
        .seq (
         .ops [
          ⟨(some 5),.mv (.t 4),none⟩,
          ⟨(some 6),.mv (.t 0),none⟩,
          ⟨(some 7),.len false (.t 6),none⟩,
          ⟨(some 8),.bin .lss (.t 5) (.t 7),none⟩] [0,3,4,8]) (
         .cond (.t 8) (
          .skip) (
          .exit 0))) (
        .seq (
         .block 1 (
          .seq (
           .seq (
            .ops [
             ⟨(some 11),.mv (.t 0),none⟩,
             ⟨(some 12),.mv (.t 4),none⟩,
             ⟨(some 13),.ia 4 (.t 11) (.t 12),none⟩,
             ⟨(some 14),.load 4 true (.t 13),none⟩,
             ⟨(some 15),.call 15 [.t 14],none⟩,
             ⟨(some 16),.un .not (.t 15),none⟩] [0,3,4,16]) (
            .cond (.t 16) (
             .seq (
              .ops [
               ⟨(some 2),.mv (.k (.d (.lit (.string ⟨#[]⟩)))),none⟩] [2]) (
              .ret)) (
             .skip))) (
           .seq (
            .seq (
             .ops [
              ⟨(some 17),.mv (.t 4),none⟩,
              ⟨(some 18),.bin .gtr (.t 17) (.k (.d (.lit (.int .i64 0)))),none⟩] [0,3,4,18]) (
             .cond (.t 18) (
              .ops [
               ⟨(some 19),.mv (.t 3),none⟩,
               ⟨(some 20),.bin .add (.t 19) (.k (.d (.lit (.string ⟨#[10]⟩)))),none⟩,
               ⟨(some 3),.mv (.t 20),none⟩] [0,3,4]) (
              .skip))) (
            .ops [
             ⟨(some 21),.mv (.t 3),none⟩,
             ⟨(some 22),.mv (.t 0),none⟩,
             ⟨(some 23),.mv (.t 4),none⟩,
             ⟨(some 24),.ia 4 (.t 22) (.t 23),none⟩,
             ⟨(some 25),.load 4 true (.t 24),none⟩,
             ⟨(some 26),.call 14 [.t 25],none⟩,
             ⟨(some 27),.bin .add (.t 21) (.t 26),none⟩,
             ⟨(some 3),.mv (.t 27),none⟩] [0,3,4])))) (
         .ops [
          ⟨(some 9),.mv (.t 4),none⟩,
          ⟨(some 10),.bin .add (.t 9) (.k (.d (.lit (.int .i64 1)))),none⟩,
          ⟨(some 4),.mv (.t 10),none⟩] [0,3,4])))))) (
    .seq (
     .ops [
      ⟨(some 28),.mv (.t 3),none⟩,
      ⟨(some 2),.mv (.t 28),none⟩] [2]) (
     .ret))))
def c3:Cd:=
 .seq (
  .ops [
   ⟨(some 2),.mv (.k (.d (.lit (.bool false)))),none⟩] [0]) (
  .seq (
   .ops [
    ⟨(some 3),.mv (.t 0),none⟩,
    ⟨(some 4),.mv (.t 0),none⟩,
    ⟨(some 5),.len false (.t 4),none⟩,
    ⟨(some 6),.mx false (.t 5) (.k (.d (.lit (.int .i64 40)))),none⟩,
    ⟨(some 7),.sub false 4 (.t 3) none (some (.t 6)),none⟩,
    ⟨(some 0),.mv (.t 7),none⟩] [0]) (
   .seq (
    .ops [
     ⟨(some 8),.mv (.t 0),none⟩,
     ⟨(some 9),.call 10 [.t 8],none⟩,
     ⟨(some 10),.mv (.t 0),none⟩,
     ⟨(some 11),.call 11 [.t 10],none⟩,
     ⟨(some 12),.bin .eql (.t 9) (.t 11),none⟩,
     ⟨(some 13),.mv (.t 12),none⟩,
     ⟨(some 14),.call 12 [],(some (13,true))⟩,
     ⟨(some 15),.pick (.t 13) (.t 14) (.k (.d (.lit (.bool false)))),none⟩,
     ⟨(some 2),.mv (.t 15),none⟩] [2]) (
    .ret)))
def rs3:List RV:=[.t 2 false]
theorem k3:okFn G.tab Tryz.f3 1 c3 rs3=true:=by kernel_rfl
def c4:Cd:=
 .seq (
  .ops [
   ⟨(some 1),.box 29 (.t 0),none⟩,
   ⟨(some 2),.mv (.k (.d (.lit (.bool false)))),none⟩] [1]) (
  .seq (
   .draw [
    ⟨(some 3),.load 4 true (.t 1),none⟩,
    ⟨(some 4),.call 13 [.t 3],none⟩,
    ⟨(some 5),.load 4 true (.t 1),none⟩,
    ⟨(some 6),.call 14 [.t 5],none⟩,
    ⟨(some 7),.bin .eql (.t 4) (.t 6),none⟩,
    ⟨(some 8),.mv (.t 7),none⟩,
    ⟨(some 9),.call 12 [],(some (8,true))⟩,
    ⟨(some 10),.pick (.t 8) (.t 9) (.k (.d (.lit (.bool false)))),none⟩,
    ⟨(some 2),.mv (.t 10),none⟩] [2]) (
   .ret))
def rs4:List RV:=[.t 2 false]
theorem k4:okFn G.tab Tryz.f4 1 c4 rs4=true:=by kernel_rfl
def c5:Cd:=
 .seq (
  .ops [
   ⟨(some 2),.box 29 (.t 0),none⟩,
   ⟨(some 3),.box 29 (.t 1),none⟩,
   ⟨(some 4),.mv (.k (.d (.lit (.bool false)))),none⟩] [2,3]) (
  .seq (
   .seq (
    .ops [
     ⟨(some 7),.load 4 true (.t 2),none⟩,
     ⟨(some 8),.call 15 [.t 7],none⟩,
     ⟨(some 9),.un .not (.t 8),none⟩,
     ⟨(some 10),.mv (.t 9),none⟩,
     ⟨(some 11),.load 4 true (.t 3),(some (10,false))⟩,
     ⟨(some 12),.call 15 [.t 11],(some (10,false))⟩,
     ⟨(some 13),.un .not (.t 12),(some (10,false))⟩,
     ⟨(some 14),.pick (.t 10) (.k (.d (.lit (.bool true)))) (.t 13),none⟩] [2,3,14]) (
    .cond (.t 14) (
     .seq (
      .ops [
       ⟨(some 15),.call 12 [],none⟩,
       ⟨(some 4),.mv (.t 15),none⟩] [4]) (
      .ret)) (
     .skip))) (
   .seq (
    .draw [
     ⟨(some 16),.load 4 true (.t 2),none⟩,
     ⟨(some 17),.call 13 [.t 16],none⟩,
     ⟨(some 18),.load 4 true (.t 3),none⟩,
     ⟨(some 19),.call 13 [.t 18],none⟩,
     ⟨(some 5),.mv (.t 17),none⟩,
     ⟨(some 6),.mv (.t 19),none⟩] [2,3,5,6]) (
    .seq (
     .ops [
      ⟨(some 20),.mv (.t 5),none⟩,
      ⟨(some 21),.bin .neq (.t 20) (.k (.d (.lit (.string ⟨#[]⟩)))),none⟩,
      ⟨(some 22),.mv (.t 21),none⟩,
      ⟨(some 23),.mv (.t 6),(some (22,true))⟩,
      ⟨(some 24),.bin .neq (.t 23) (.k (.d (.lit (.string ⟨#[]⟩)))),(some (22,true))⟩,
      ⟨(some 25),.pick (.t 22) (.t 24) (.k (.d (.lit (.bool false)))),none⟩,
      ⟨(some 26),.mv (.t 25),none⟩,
      ⟨(some 27),.mv (.t 5),(some (26,true))⟩,
      ⟨(some 28),.mv (.t 6),(some (26,true))⟩,
      ⟨(some 29),.bin .eql (.t 27) (.t 28),(some (26,true))⟩,
      ⟨(some 30),.load 4 true (.t 2),(some (26,true))⟩,
      ⟨(some 31),.load 4 true (.t 3),(some (26,true))⟩,
      ⟨(some 32),.call 16 [.t 30,.t 31],(some (26,true))⟩,
      ⟨(some 33),.binb .eql (.t 29) (.t 32),(some (26,true))⟩,
      ⟨(some 34),.pick (.t 26) (.t 33) (.k (.d (.lit (.bool false)))),none⟩,
      ⟨(some 35),.mv (.t 34),none⟩,
      ⟨(some 36),.call 12 [],(some (35,true))⟩,
      ⟨(some 37),.pick (.t 35) (.t 36) (.k (.d (.lit (.bool false)))),none⟩,
      ⟨(some 4),.mv (.t 37),none⟩] [4]) (
     .ret))))
def rs5:List RV:=[.t 4 false]
theorem k5:okFn G.tab Tryz.f5 2 c5 rs5=true:=by kernel_rfl
def c6:Cd:=
 .seq (
  .ops [
   ⟨(some 4),.mv (.k (.d (.lit (.bool false)))),none⟩] [0,1]) (
  .seq (
   .ops [
    ⟨(some 5),.mv (.t 0),none⟩,
    ⟨(some 6),.mv (.t 1),none⟩,
    ⟨(some 7),.call 17 [.t 5,.t 6],none⟩,
    ⟨(some 8),.mv (.t 0),none⟩,
    ⟨(some 9),.mv (.t 1),none⟩,
    ⟨(some 10),.call 18 [.t 8,.t 9],none⟩,
    ⟨(some 11),.bin .eql (.t 7) (.t 10),none⟩,
    ⟨(some 12),.mv (.t 11),none⟩,
    ⟨(some 13),.call 12 [],(some (12,true))⟩,
    ⟨(some 14),.pick (.t 12) (.t 13) (.k (.d (.lit (.bool false)))),none⟩,
    ⟨(some 4),.mv (.t 14),none⟩] [4]) (
   .ret))
def rs6:List RV:=[.t 4 false]
theorem k6:okFn G.tab Tryz.f6 2 c6 rs6=true:=by kernel_rfl
def c7:Cd:=
 .seq (
  .ops [
   ⟨(some 6),.mv (.k (.d (.lit (.bool false)))),none⟩] [0,1,2]) (
  .seq (
   .ops [
    ⟨(some 13),.mkso 53 12 [],none⟩,
    ⟨(some 14),.mv (.t 0),none⟩,
    ⟨(some 15),.app 53 12 216 13 (.t 14),none⟩,
    ⟨(some 16),.mv (.t 1),none⟩,
    ⟨(some 17),.app 53 12 216 15 (.t 16),none⟩,
    ⟨(some 7),.mv (.t 17),none⟩] [0,1,2,7]) (
   .seq (
    .seq (
     .ops [
      ⟨(some 18),.mv (.t 7),none⟩,
      ⟨(some 19),.call 19 [.t 18],none⟩,
      ⟨(some 20),.un .not (.t 19),none⟩,
      ⟨(some 21),.mv (.t 20),none⟩,
      ⟨(some 22),.mv (.t 7),(some (21,false))⟩,
      ⟨(some 23),.call 20 [.t 22],(some (21,false))⟩,
      ⟨(some 24),.bin .neq (.t 23) (.k (.d (.lit (.int .i64 0)))),(some (21,false))⟩,
      ⟨(some 25),.pick (.t 21) (.k (.d (.lit (.bool true)))) (.t 24),none⟩] [0,1,2,7,25]) (
     .cond (.t 25) (
      .seq (
       .ops [
        ⟨(some 26),.call 12 [],none⟩,
        ⟨(some 6),.mv (.t 26),none⟩] [6]) (
       .ret)) (
      .skip))) (
    .seq (
     .ops [
      ⟨(some 27),.mv (.t 2),none⟩,
      ⟨(some 28),.conv .i64 (.t 27),none⟩,
      ⟨(some 29),.bin .rem (.t 28) (.k (.d (.lit (.int .i64 32)))),none⟩,
      ⟨(some 8),.mv (.t 29),none⟩] [0,1,7,8]) (
     .seq (
      .ops [
       ⟨(some 30),.mv (.t 7),none⟩,
       ⟨(some 31),.mv (.t 8),none⟩,
       ⟨(some 32),.call 17 [.t 30,.t 31],none⟩,
       ⟨(some 9),.mv (.t 32),none⟩] [0,1,7,8,9]) (
      .seq (
       .seq (
        .ops [
         ⟨(some 33),.mv (.t 9),none⟩,
         ⟨(some 34),.mv (.t 0),none⟩,
         ⟨(some 35),.mv (.t 8),none⟩,
         ⟨(some 36),.call 17 [.t 34,.t 35],none⟩,
         ⟨(some 37),.mv (.t 1),none⟩,
         ⟨(some 38),.mv (.t 8),none⟩,
         ⟨(some 39),.call 17 [.t 37,.t 38],none⟩,
         ⟨(some 40),.bin .add (.t 36) (.t 39),none⟩,
         ⟨(some 41),.bin .neq (.t 33) (.t 40),none⟩] [7,8,9,41]) (
        .cond (.t 41) (
         .seq (
          .ops [
           ⟨(some 6),.mv (.k (.d (.lit (.bool false)))),none⟩] [6]) (
          .ret)) (
         .skip))) (
       .seq (
        .ops [
         ⟨(some 10),.mv (.k (.d (.lit (.string ⟨#[]⟩)))),none⟩,
         ⟨(some 11),.mv (.k (.d (.lit (.bool true)))),none⟩] [7,8,9,10,11]) (
        .seq (
         .seq (
          .ops [
           ⟨(some 12),.mv (.k (.d (.lit (.int .i64 0)))),none⟩] [7,8,9,10,11,12]) (
          .block 0 (
           .loop (
            .seq (
             .seq (
              .ops [
               ⟨(some 42),.mv (.t 12),none⟩,
               ⟨(some 43),.mv (.t 9),none⟩,
               ⟨(some 44),.len true (.t 43),none⟩,
               ⟨(some 45),.bin .lss (.t 42) (.t 44),none⟩] [7,8,9,10,11,12,45]) (
              .cond (.t 45) (
               .skip) (
               .exit 0))) (
             .seq (
              .block 1 (
               .seq (
                .seq (
                 .ops [
                  ⟨(some 48),.mv (.t 11),none⟩] [7,8,9,10,12,48]) (
                 .cond (.t 48) (
                  .ops [
                   ⟨(some 49),.mv (.t 10),none⟩,
                   ⟨(some 50),.bin .add (.t 49) (.k (.d (.lit (.string ⟨#[32,32,32,32]⟩)))),none⟩,
                   ⟨(some 10),.mv (.t 50),none⟩] [7,8,9,10,12]) (
                  .skip))) (
                .seq (
                 .ops [
                  ⟨(some 51),.mv (.t 10),none⟩,
                  ⟨(some 52),.mv (.t 9),none⟩,
                  ⟨(some 53),.mv (.t 12),none⟩,
                  ⟨(some 54),.mv (.t 12),none⟩,
                  ⟨(some 55),.bin .add (.t 54) (.k (.d (.lit (.int .i64 1)))),none⟩,
                  ⟨(some 56),.sub true 0 (.t 52) (some (.t 53)) (some (.t 55)),none⟩,
                  ⟨(some 57),.bin .add (.t 51) (.t 56),none⟩,
                  ⟨(some 10),.mv (.t 57),none⟩] [7,8,9,10,12]) (
                 .ops [
                  ⟨(some 58),.mv (.t 9),none⟩,
                  ⟨(some 59),.mv (.t 12),none⟩,
                  ⟨(some 60),.ix (.t 58) (.t 59),none⟩,
                  ⟨(some 61),.bin .eql (.t 60) (.k (.d (.lit (.int .u8 10)))),none⟩,
                  ⟨(some 11),.mv (.t 61),none⟩] [7,8,9,10,11,12])))) (
              .ops [
               ⟨(some 46),.mv (.t 12),none⟩,
               ⟨(some 47),.bin .add (.t 46) (.k (.d (.lit (.int .i64 1)))),none⟩,
               ⟨(some 12),.mv (.t 47),none⟩] [7,8,9,10,11,12])))))) (
         .seq (
          .ops [
           ⟨(some 62),.mv (.t 7),none⟩,
           ⟨(some 63),.mv (.t 8),none⟩,
           ⟨(some 64),.bin .add (.t 63) (.k (.d (.lit (.int .i64 1)))),none⟩,
           ⟨(some 65),.call 17 [.t 62,.t 64],none⟩,
           ⟨(some 66),.mv (.t 10),none⟩,
           ⟨(some 67),.bin .eql (.t 65) (.t 66),none⟩,
           ⟨(some 68),.mv (.t 67),none⟩,
           ⟨(some 69),.call 12 [],(some (68,true))⟩,
           ⟨(some 70),.pick (.t 68) (.t 69) (.k (.d (.lit (.bool false)))),none⟩,
           ⟨(some 6),.mv (.t 70),none⟩] [6]) (
          .ret)))))))))
def rs7:List RV:=[.t 6 false]
theorem k7:okFn G.tab Tryz.f7 3 c7 rs7=true:=by kernel_rfl
def c8:Cd:=
 .seq (
  .ops [
   ⟨(some 2),.mv (.k (.d (.lit (.bool false)))),none⟩] [0]) (
  .seq (
   .ops [
    ⟨(some 3),.mv (.t 0),none⟩,
    ⟨(some 4),.mv (.t 0),none⟩,
    ⟨(some 5),.len false (.t 4),none⟩,
    ⟨(some 6),.mx false (.t 5) (.k (.d (.lit (.int .i64 6)))),none⟩,
    ⟨(some 7),.sub false 4 (.t 3) none (some (.t 6)),none⟩,
    ⟨(some 0),.mv (.t 7),none⟩] [0]) (
   .seq (
    .ops [
     ⟨(some 8),.mv (.t 0),none⟩,
     ⟨(some 9),.call 21 [.t 8],none⟩,
     ⟨(some 10),.mv (.t 0),none⟩,
     ⟨(some 11),.call 22 [.t 10],none⟩,
     ⟨(some 12),.bin .eql (.t 9) (.t 11),none⟩,
     ⟨(some 13),.mv (.t 12),none⟩,
     ⟨(some 14),.call 12 [],(some (13,true))⟩,
     ⟨(some 15),.pick (.t 13) (.t 14) (.k (.d (.lit (.bool false)))),none⟩,
     ⟨(some 2),.mv (.t 15),none⟩] [2]) (
    .ret)))
def rs8:List RV:=[.t 2 false]
theorem k8:okFn G.tab Tryz.f8 1 c8 rs8=true:=by kernel_rfl
def c9:Cd:=
 .seq (
  .ops [
   ⟨(some 2),.mv (.k (.d (.lit (.bool false)))),none⟩] [0]) (
  .seq (
   .ops [
    ⟨(some 5),.mv (.t 0),none⟩,
    ⟨(some 6),.mv (.t 0),none⟩,
    ⟨(some 7),.len false (.t 6),none⟩,
    ⟨(some 8),.mx false (.t 7) (.k (.d (.lit (.int .i64 6)))),none⟩,
    ⟨(some 9),.sub false 4 (.t 5) none (some (.t 8)),none⟩,
    ⟨(some 10),.call 21 [.t 9],none⟩,
    ⟨(some 3),.mv (.t 10),none⟩] [3]) (
   .seq (
    .seq (
     .ops [
      ⟨(some 4),.mv (.k (.d (.lit (.int .i64 0)))),none⟩] [3,4]) (
     .block 0 (
      .loop (
       .seq (
        .seq (
         .ops [
          ⟨(some 11),.mv (.t 4),none⟩,
          ⟨(some 12),.mv (.t 3),none⟩,
          ⟨(some 13),.len true (.t 12),none⟩,
          ⟨(some 14),.bin .lss (.t 11) (.t 13),none⟩] [3,4,14]) (
         .cond (.t 14) (
          .skip) (
          .exit 0))) (
        .seq (
         .block 1 (
          .seq (
           .ops [
            ⟨(some 17),.mv (.t 3),none⟩,
            ⟨(some 18),.mv (.t 4),none⟩,
            ⟨(some 19),.ix (.t 17) (.t 18),none⟩,
            ⟨(some 20),.bin .eql (.t 19) (.k (.d (.lit (.int .u8 10)))),none⟩,
            ⟨(some 21),.mv (.t 20),none⟩,
            ⟨(some 22),.mv (.t 4),(some (21,true))⟩,
            ⟨(some 23),.bin .gtr (.t 22) (.k (.d (.lit (.int .i64 0)))),(some (21,true))⟩,
            ⟨(some 24),.pick (.t 21) (.t 23) (.k (.d (.lit (.bool false)))),none⟩,
            ⟨(some 25),.mv (.t 24),none⟩,
            ⟨(some 26),.mv (.t 3),(some (25,true))⟩,
            ⟨(some 27),.mv (.t 4),(some (25,true))⟩,
            ⟨(some 28),.bin .sub (.t 27) (.k (.d (.lit (.int .i64 1)))),(some (25,true))⟩,
            ⟨(some 29),.ix (.t 26) (.t 28),(some (25,true))⟩,
            ⟨(some 30),.bin .eql (.t 29) (.k (.d (.lit (.int .u8 32)))),(some (25,true))⟩,
            ⟨(some 31),.pick (.t 25) (.t 30) (.k (.d (.lit (.bool false)))),none⟩,
            ⟨(some 32),.mv (.t 31),none⟩,
            ⟨(some 33),.mv (.t 3),(some (32,false))⟩,
            ⟨(some 34),.mv (.t 4),(some (32,false))⟩,
            ⟨(some 35),.ix (.t 33) (.t 34),(some (32,false))⟩,
            ⟨(some 36),.bin .neq (.t 35) (.k (.d (.lit (.int .u8 10)))),(some (32,false))⟩,
            ⟨(some 37),.mv (.t 36),(some (32,false))⟩,
            ⟨(some 38),.mv (.t 3),(some (37,true))⟩,
            ⟨(some 39),.mv (.t 4),(some (37,true))⟩,
            ⟨(some 40),.ix (.t 38) (.t 39),(some (37,true))⟩,
            ⟨(some 41),.bin .lss (.t 40) (.k (.d (.lit (.int .u8 32)))),(some (37,true))⟩,
            ⟨(some 42),.mv (.t 41),(some (37,true))⟩,
            ⟨(some 43),.mv (.t 3),(some (42,false))⟩,
            ⟨(some 44),.mv (.t 4),(some (42,false))⟩,
            ⟨(some 45),.ix (.t 43) (.t 44),(some (42,false))⟩,
            ⟨(some 46),.bin .gtr (.t 45) (.k (.d (.lit (.int .u8 126)))),(some (42,false))⟩,
            ⟨(some 47),.pick (.t 42) (.k (.d (.lit (.bool true)))) (.t 46),(some (37,true))⟩,
            ⟨(some 48),.pick (.t 37) (.t 47) (.k (.d (.lit (.bool false)))),(some (32,false))⟩,
            ⟨(some 49),.pick (.t 32) (.k (.d (.lit (.bool true)))) (.t 48),none⟩] [3,4,49]) (
           .cond (.t 49) (
            .seq (
             .ops [
              ⟨(some 2),.mv (.k (.d (.lit (.bool false)))),none⟩] [2]) (
             .ret)) (
            .skip)))) (
         .ops [
          ⟨(some 15),.mv (.t 4),none⟩,
          ⟨(some 16),.bin .add (.t 15) (.k (.d (.lit (.int .i64 1)))),none⟩,
          ⟨(some 4),.mv (.t 16),none⟩] [3,4])))))) (
    .seq (
     .ops [
      ⟨(some 50),.mv (.t 3),none⟩,
      ⟨(some 51),.bin .eql (.t 50) (.k (.d (.lit (.string ⟨#[]⟩)))),none⟩,
      ⟨(some 52),.mv (.t 51),none⟩,
      ⟨(some 53),.mv (.t 3),(some (52,false))⟩,
      ⟨(some 54),.mv (.t 3),(some (52,false))⟩,
      ⟨(some 55),.len true (.t 54),(some (52,false))⟩,
      ⟨(some 56),.bin .sub (.t 55) (.k (.d (.lit (.int .i64 1)))),(some (52,false))⟩,
      ⟨(some 57),.ix (.t 53) (.t 56),(some (52,false))⟩,
      ⟨(some 58),.bin .eql (.t 57) (.k (.d (.lit (.int .u8 10)))),(some (52,false))⟩,
      ⟨(some 59),.pick (.t 52) (.k (.d (.lit (.bool true)))) (.t 58),none⟩,
      ⟨(some 60),.mv (.t 59),none⟩,
      ⟨(some 61),.call 12 [],(some (60,true))⟩,
      ⟨(some 62),.pick (.t 60) (.t 61) (.k (.d (.lit (.bool false)))),none⟩,
      ⟨(some 2),.mv (.t 62),none⟩] [2]) (
     .ret))))
def rs9:List RV:=[.t 2 false]
theorem k9:okFn G.tab Tryz.f9 1 c9 rs9=true:=by kernel_rfl
def c12:Cd:=
 .seq (
  .ops [
   ⟨(some 0),.mv (.k (.d (.lit (.bool false)))),none⟩] []) (
  .seq (
   .ops [
    ⟨(some 5),.bld [.d (.lit (.int .i64 0)),.d (.lit (.int .i64 0)),.d (.lit (.string ⟨#[]⟩)),.nil] [(0,1,.k (.d (.lit (.int .i64 2)))),(2,1,.k (.d (.lit (.string ⟨#[107,105,110,100]⟩))))],none⟩,
    ⟨(some 1),.new 51 [.d (.lit (.int .i64 0)),.d (.lit (.int .i64 0)),.d (.lit (.string ⟨#[]⟩)),.nil],none⟩,
    ⟨none,.sto 4 (.t 1) (.t 5),none⟩] [1]) (
   .seq (
    .ops [
     ⟨(some 6),.load 4 true (.t 1),none⟩,
     ⟨(some 7),.bld [.d (.lit (.int .i64 0)),.d (.lit (.int .i64 0)),.d (.lit (.string ⟨#[]⟩)),.nil] [(0,1,.k (.d (.lit (.int .i64 1)))),(1,1,.k (.d (.lit (.int .i64 3))))],none⟩,
     ⟨(some 8),.mks 51 4 [.t 6,.t 7],none⟩,
     ⟨(some 9),.bld [.d (.lit (.int .i64 0)),.d (.lit (.int .i64 0)),.d (.lit (.string ⟨#[]⟩)),.nil] [(0,1,.k (.d (.lit (.int .i64 17)))),(3,1,.t 8)],none⟩,
     ⟨(some 10),.bld [.d (.lit (.int .i64 0)),.d (.lit (.int .i64 0)),.d (.lit (.int .i64 0)),.d (.lit (.string ⟨#[]⟩)),.nil,.d (.lit (.string ⟨#[]⟩)),.d (.lit (.string ⟨#[]⟩)),.nil,.nil,.nil,.nil,.nil] [(0,1,.k (.d (.lit (.int .i64 1)))),(1,4,.t 9)],none⟩,
     ⟨(some 2),.new 53 [.d (.lit (.int .i64 0)),.d (.lit (.int .i64 0)),.d (.lit (.int .i64 0)),.d (.lit (.string ⟨#[]⟩)),.nil,.d (.lit (.string ⟨#[]⟩)),.d (.lit (.string ⟨#[]⟩)),.nil,.nil,.nil,.nil,.nil],none⟩,
     ⟨none,.sto 12 (.t 2) (.t 10),none⟩] [2]) (
    .seq (
     .ops [
      ⟨(some 11),.bld [.d (.lit (.string ⟨#[]⟩)),.d (.lit (.int .i64 0)),.d (.lit (.int .i64 0)),.d (.lit (.int .i64 0)),.d (.lit (.int .i64 0))] [(0,1,.k (.d (.lit (.string ⟨#[107,105,110,100]⟩)))),(1,1,.k (.d (.lit (.int .i64 2)))),(3,1,.k (.d (.lit (.int .i64 1))))],none⟩,
      ⟨(some 12),.mks 55 5 [.t 11],none⟩,
      ⟨(some 13),.load 12 true (.t 2),none⟩,
      ⟨(some 14),.mks 53 12 [.t 13],none⟩,
      ⟨(some 15),.bld [.d (.lit (.string ⟨#[]⟩)),.nil] [(0,1,.k (.d (.lit (.string ⟨#[108,101,103,97,108]⟩)))),(1,1,.t 14)],none⟩,
      ⟨(some 16),.mks 57 2 [.t 15],none⟩,
      ⟨(some 17),.bld [.d (.lit (.string ⟨#[]⟩)),.d (.lit (.string ⟨#[]⟩)),.nil,.nil] [(0,1,.k (.d (.lit (.string ⟨#[112]⟩)))),(1,1,.k (.d (.lit (.string ⟨#[98,97,115,101]⟩)))),(2,1,.t 12),(3,1,.t 16)],none⟩,
      ⟨(some 3),.new 29 [.d (.lit (.string ⟨#[]⟩)),.d (.lit (.string ⟨#[]⟩)),.nil,.nil],none⟩,
      ⟨none,.sto 4 (.t 3) (.t 17),none⟩] [3]) (
     .seq (
      .ops [
       ⟨(some 18),.bld [.d (.lit (.int .i64 0)),.d (.lit (.int .i64 0)),.d (.lit (.int .i64 0)),.d (.lit (.bool false))] [(2,1,.k (.d (.lit (.int .i64 2)))),(3,1,.k (.d (.lit (.bool true))))],none⟩,
       ⟨(some 19),.bld [.d (.lit (.int .i64 0)),.d (.lit (.int .i64 0)),.d (.lit (.int .i64 0)),.d (.lit (.bool false))] [(0,1,.k (.d (.lit (.int .i64 1)))),(1,1,.k (.d (.lit (.int .i64 3)))),(2,1,.k (.d (.lit (.int .i64 6))))],none⟩,
       ⟨(some 20),.mks 45 4 [.t 18,.t 19],none⟩,
       ⟨(some 4),.mv (.t 20),none⟩] [3,4]) (
      .seq (
       .ops [
        ⟨(some 21),.mv (.t 4),none⟩,
        ⟨(some 22),.call 10 [.t 21],none⟩,
        ⟨(some 23),.bin .eql (.t 22) (.k (.d (.lit (.string ⟨#[48,32,58,61,32,50,44,32,49,32,46,46,32,51,32,58,47,32,54]⟩)))),none⟩,
        ⟨(some 24),.mv (.t 23),none⟩,
        ⟨(some 25),.load 4 true (.t 3),(some (24,true))⟩,
        ⟨(some 26),.call 13 [.t 25],(some (24,true))⟩,
        ⟨(some 27),.bin .eql (.t 26) (.k (.d (.lit (.string ⟨#[99,108,97,115,115,32,112,32,101,120,116,101,110,100,115,32,98,97,115,101,32,123,10,32,32,32,32,114,97,110,100,32,107,105,110,100,32,58,32,50,59,10,32,32,32,32,99,111,110,115,116,114,97,105,110,116,32,108,101,103,97,108,32,123,10,32,32,32,32,32,32,32,32,107,105,110,100,32,60,32,51,59,10,32,32,32,32,125,10,125,10]⟩)))),(some (24,true))⟩,
        ⟨(some 28),.pick (.t 24) (.t 27) (.k (.d (.lit (.bool false)))),none⟩,
        ⟨(some 0),.mv (.t 28),none⟩] [0]) (
       .ret))))))
def rs12:List RV:=[.t 0 false]
theorem k12:okFn G.tab Tryz.f12 0 c12 rs12=true:=by kernel_rfl
end Go.Proofs.YtcbahpllcfbkmaaGreatDoor
