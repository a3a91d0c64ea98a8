import Derived.Test.YtcbahpllcfbkmaaGreatDoorProg
import Derived.Test.YtcbahpllcfbkmaaGreatDoorA20
import Derived.KernelRfl
import Derived.Lib.ItoaNum
import Derived.Lib.LaidTab
import Derived.Test.YtcbahpllcfbkmaaGreatDoorNames
namespace Go.Proofs.YtcbahpllcfbkmaaGreatDoor
open Go.RowKit
set_option maxRecDepth 100000
set_option linter.unusedVariables false
set_option linter.unusedSimpArgs false
noncomputable def G:Cx:=cxk Tryz.prog (fun g=>if g=1 then some [.sl (kwList.map fun s=>[.lit (.string s)])]else none) (fun g=>if g=2 then some (fun cs=>cs=(Lib.pow10Tab.map fun z=>Value.int .u64 z).toArray)else none) (by kernel_rfl)
def c88:Cd:=
 .seq (
  .ops [
   ⟨(some 2),.nilo 9 1,none⟩] [0]) (
  .seq (
   .ops [
    ⟨(some 3),.mv (.k (.d (.lit (.int .i64 0)))),none⟩] [0,3]) (
   .seq (
    .seq (
     .ops [
      ⟨(some 9),.mv (.t 0),none⟩,
      ⟨(some 10),.len false (.t 9),none⟩,
      ⟨(some 11),.mv (.k (.d (.lit (.int .i64 0)))),none⟩] [0,3,9,10,11]) (
     .block 0 (
      .loop (
       .seq (
        .ops [
         ⟨(some 12),.bin .lss (.t 11) (.t 10),none⟩] [0,3,9,10,11,12]) (
        .seq (
         .cond (.t 12) (
          .skip) (
          .exit 0)) (
         .seq (
          .block 1 (
           .seq (
            .ops [
             ⟨(some 13),.ia 1 (.t 9) (.t 11),none⟩,
             ⟨(some 14),.load 1 false (.t 13),none⟩,
             ⟨(some 5),.mv (.t 14),none⟩] [0,3,5,9,10,11]) (
            .seq (
             .ops [
              ⟨(some 15),.mv (.t 3),none⟩,
              ⟨(some 16),.mv (.t 5),none⟩,
              ⟨(some 17),.len false (.t 16),none⟩,
              ⟨(some 18),.bin .add (.t 15) (.t 17),none⟩,
              ⟨(some 3),.mv (.t 18),none⟩] [0,3,9,10,11]) (
             .seq (
              .ops [
               ⟨(some 19),.mv (.t 3),none⟩,
               ⟨(some 20),.bin .lss (.t 19) (.k (.d (.lit (.int .i64 0)))),none⟩] [0,3,9,10,11,20]) (
              .cond (.t 20) (
               .ops [
                ⟨(some 21),.mki 9 (.k (.d (.lit (.string ⟨#[108,101,110,32,111,117,116,32,111,102,32,114,97,110,103,101]⟩)))),none⟩,
                ⟨none,.pan (.t 21),none⟩] [0,3,9,10,11]) (
               .skip)))))) (
          .ops [
           ⟨(some 22),.bin .add (.t 11) (.k (.d (.lit (.int .i64 1)))),none⟩,
           ⟨(some 11),.mv (.t 22),none⟩] [0,3,9,10,11]))))))) (
    .seq (
     .ops [
      ⟨(some 23),.mv (.t 3),none⟩,
      ⟨(some 24),.calln 115 [.k (.nil),.t 23],none⟩,
      ⟨(some 6),.mvo 24,none⟩] [0,6]) (
     .seq (
      .seq (
       .ops [
        ⟨(some 25),.mv (.t 0),none⟩,
        ⟨(some 26),.len false (.t 25),none⟩,
        ⟨(some 27),.mv (.k (.d (.lit (.int .i64 0)))),none⟩] [6,25,26,27]) (
       .block 2 (
        .loop (
         .seq (
          .ops [
           ⟨(some 28),.bin .lss (.t 27) (.t 26),none⟩] [6,25,26,27,28]) (
          .seq (
           .cond (.t 28) (
            .skip) (
            .exit 2)) (
           .seq (
            .block 3 (
             .seq (
              .ops [
               ⟨(some 29),.ia 1 (.t 25) (.t 27),none⟩,
               ⟨(some 30),.load 1 false (.t 29),none⟩,
               ⟨(some 8),.mv (.t 30),none⟩] [6,8,25,26,27]) (
              .ops [
               ⟨(some 31),.mvo 6,none⟩,
               ⟨(some 32),.mv (.t 8),none⟩,
               ⟨(some 33),.app 9 1 16 31 (.t 32),none⟩,
               ⟨(some 6),.mvo 33,none⟩] [6,25,26,27]))) (
            .ops [
             ⟨(some 34),.bin .add (.t 27) (.k (.d (.lit (.int .i64 1)))),none⟩,
             ⟨(some 27),.mv (.t 34),none⟩] [6,25,26,27]))))))) (
      .seq (
       .ops [
        ⟨(some 35),.mvo 6,none⟩,
        ⟨(some 2),.mvo 35,none⟩] [2]) (
       .ret))))))
def rs88:List RV:=[.t 2 true]
theorem k88:okFn G.tab Tryz.f88 1 c88 rs88=true:=by kernel_rfl
def c45:Cd:=
 .seq (
  .ops [
   ⟨(some 2),.mv (.k (.d (.lit (.string ⟨#[]⟩)))),none⟩] [0]) (
  .seq (
   .ops [
    ⟨(some 3),.mv (.t 0),none⟩,
    ⟨(some 4),.call 64 [.t 3],none⟩,
    ⟨(some 5),.bin .add (.t 4) (.k (.d (.lit (.string ⟨#[59]⟩)))),none⟩,
    ⟨(some 2),.mv (.t 5),none⟩] [2]) (
   .ret))
def rs45:List RV:=[.t 2 false]
theorem k45:okFn G.tab Tryz.f45 1 c45 rs45=true:=by kernel_rfl
def c64:Cd:=
 .seq (
  .ops [
   ⟨(some 2),.mv (.k (.d (.lit (.string ⟨#[]⟩)))),none⟩] [0]) (
  .seq (
   .seq (
    .ops [
     ⟨(some 3),.mv (.t 0),none⟩,
     ⟨(some 4),.bin .lss (.t 3) (.k (.d (.lit (.int .i64 0)))),none⟩] [0,4]) (
    .cond (.t 4) (
     .seq (
      .ops [
       ⟨(some 5),.mv (.t 0),none⟩,
       ⟨(some 6),.call 103 [.t 5],none⟩,
       ⟨(some 7),.bin .add (.k (.d (.lit (.string ⟨#[45]⟩)))) (.t 6),none⟩,
       ⟨(some 2),.mv (.t 7),none⟩] [2]) (
      .ret)) (
     .skip))) (
   .seq (
    .ops [
     ⟨(some 8),.mv (.t 0),none⟩,
     ⟨(some 9),.un .neg (.t 8),none⟩,
     ⟨(some 10),.call 103 [.t 9],none⟩,
     ⟨(some 2),.mv (.t 10),none⟩] [2]) (
    .ret)))
def rs64:List RV:=[.t 2 false]
theorem k64:okFn G.tab Tryz.f64 1 c64 rs64=true:=by kernel_rfl
def c103:Cd:=
 .seq (
  .ops [
   ⟨(some 2),.mv (.k (.d (.lit (.string ⟨#[]⟩)))),none⟩] [0]) (
  .seq (
   .seq (
    .ops [
     ⟨(some 3),.mv (.t 0),none⟩,
     ⟨(some 4),.bin .gtr (.t 3) (.k (.d (.lit (.int .i64 (-10))))),none⟩] [0,4]) (
    .cond (.t 4) (
     .seq (
      .ops [
       ⟨(some 5),.mv (.t 0),none⟩,
       ⟨(some 6),.bin .sub (.k (.d (.lit (.int .i64 48)))) (.t 5),none⟩,
       ⟨(some 7),.conv .u8 (.t 6),none⟩,
       ⟨(some 8),.mks 5 1 [.t 7],none⟩,
       ⟨(some 9),.cbs (.t 8),none⟩,
       ⟨(some 2),.mv (.t 9),none⟩] [2]) (
      .ret)) (
     .skip))) (
   .seq (
    .draw [
     ⟨(some 10),.mv (.t 0),none⟩,
     ⟨(some 11),.bin .quo (.t 10) (.k (.d (.lit (.int .i64 10)))),none⟩,
     ⟨(some 12),.call 103 [.t 11],none⟩,
     ⟨(some 13),.mv (.t 0),none⟩,
     ⟨(some 14),.bin .rem (.t 13) (.k (.d (.lit (.int .i64 10)))),none⟩,
     ⟨(some 15),.bin .sub (.k (.d (.lit (.int .i64 48)))) (.t 14),none⟩,
     ⟨(some 16),.conv .u8 (.t 15),none⟩,
     ⟨(some 17),.mks 5 1 [.t 16],none⟩,
     ⟨(some 18),.cbs (.t 17),none⟩,
     ⟨(some 19),.bin .add (.t 12) (.t 18),none⟩,
     ⟨(some 2),.mv (.t 19),none⟩] [2]) (
    .ret)))
def rs103:List RV:=[.t 2 false]
theorem k103:okFn G.tab Tryz.f103 1 c103 rs103=true:=by kernel_rfl
def c121:Cd:=
 .seq (
  .ops [
   ⟨(some 1),.box 51 (.t 0),none⟩,
   ⟨(some 2),.mv (.k (.d (.lit (.string ⟨#[]⟩)))),none⟩] [1]) (
  .seq (
   .seq (
    .ops [
     ⟨(some 3),.load 4 true (.t 1),none⟩,
     ⟨(some 4),.call 89 [.t 3],none⟩,
     ⟨(some 5),.bin .neq (.t 4) (.k (.d (.lit (.int .i64 0)))),none⟩] [1,5]) (
    .cond (.t 5) (
     .seq (
      .ops [
       ⟨(some 2),.mv (.k (.d (.lit (.string ⟨#[]⟩)))),none⟩] [2]) (
      .ret)) (
     .skip))) (
   .seq (
    .ops [
     ⟨(some 6),.load 4 true (.t 1),none⟩,
     ⟨(some 7),.call 143 [.t 6],none⟩,
     ⟨(some 2),.mv (.t 7),none⟩] [2]) (
    .ret)))
def rs121:List RV:=[.t 2 false]
theorem k121:okFn G.tab Tryz.f121 1 c121 rs121=true:=by kernel_rfl
def c143:Cd:=
 .seq (
  .ops [
   ⟨(some 1),.box 51 (.t 0),none⟩,
   ⟨(some 2),.mv (.k (.d (.lit (.string ⟨#[]⟩)))),none⟩] [1]) (
  .seq (
   .seq (
    .ops [
     ⟨(some 11),.fa 0 (.t 1),none⟩,
     ⟨(some 12),.load 1 false (.t 11),none⟩,
     ⟨(some 13),.call 156 [.t 12],none⟩,
     ⟨(some 10),.mv (.t 13),none⟩,
     ⟨(some 14),.ext (.t 10) 0,none⟩,
     ⟨(some 15),.ext (.t 10) 1,none⟩,
     ⟨(some 3),.new 167 [.d (.lit (.string ⟨#[]⟩)),.d (.lit (.int .i64 0)),.d (.lit (.int .i64 0))],none⟩,
     ⟨none,.sto 3 (.t 3) (.t 14),none⟩,
     ⟨(some 4),.mv (.t 15),none⟩] [1,3,4]) (
    .seq (
     .ops [
      ⟨(some 16),.mv (.t 4),none⟩] [1,3,16]) (
     .cond (.t 16) (
      .seq (
       .draw [
        ⟨(some 17),.fa 2 (.t 3),none⟩,
        ⟨(some 18),.load 1 false (.t 17),none⟩,
        ⟨(some 19),.fa 2 (.t 3),none⟩,
        ⟨(some 20),.load 1 false (.t 19),none⟩,
        ⟨(some 21),.bin .add (.t 20) (.k (.d (.lit (.int .i64 1)))),none⟩,
        ⟨(some 5),.mv (.t 18),none⟩,
        ⟨(some 6),.mv (.t 21),none⟩] [1,3,5,6]) (
       .seq (
        .seq (
         .ops [
          ⟨(some 22),.fa 2 (.t 3),none⟩,
          ⟨(some 23),.load 1 false (.t 22),none⟩,
          ⟨(some 24),.bin .eql (.t 23) (.k (.d (.lit (.int .i64 2)))),none⟩] [1,3,5,6,24]) (
         .cond (.t 24) (
          .ops [
           ⟨(some 5),.mv (.k (.d (.lit (.int .i64 3)))),none⟩,
           ⟨(some 6),.mv (.k (.d (.lit (.int .i64 2)))),none⟩] [1,3,5,6]) (
          .skip))) (
        .seq (
         .draw [
          ⟨(some 25),.fa 3 (.t 1),none⟩,
          ⟨(some 26),.load 1 false (.t 25),none⟩,
          ⟨(some 27),.ia 4 (.t 26) (.k (.d (.lit (.int .i64 0)))),none⟩,
          ⟨(some 28),.load 4 true (.t 27),none⟩,
          ⟨(some 29),.mv (.t 5),none⟩,
          ⟨(some 30),.call 157 [.t 28,.t 29],none⟩,
          ⟨(some 31),.bin .add (.t 30) (.k (.d (.lit (.string ⟨#[32]⟩)))),none⟩,
          ⟨(some 32),.fa 0 (.t 3),none⟩,
          ⟨(some 33),.load 1 false (.t 32),none⟩,
          ⟨(some 34),.bin .add (.t 31) (.t 33),none⟩,
          ⟨(some 35),.bin .add (.t 34) (.k (.d (.lit (.string ⟨#[32]⟩)))),none⟩,
          ⟨(some 36),.fa 3 (.t 1),none⟩,
          ⟨(some 37),.load 1 false (.t 36),none⟩,
          ⟨(some 38),.ia 4 (.t 37) (.k (.d (.lit (.int .i64 1)))),none⟩,
          ⟨(some 39),.load 4 true (.t 38),none⟩,
          ⟨(some 40),.mv (.t 6),none⟩,
          ⟨(some 41),.call 157 [.t 39,.t 40],none⟩,
          ⟨(some 42),.bin .add (.t 35) (.t 41),none⟩,
          ⟨(some 2),.mv (.t 42),none⟩] [2]) (
         .ret)))) (
      .skip)))) (
   .seq (
    .seq (
     .ops [
      ⟨(some 43),.fa 0 (.t 1),none⟩,
      ⟨(some 44),.load 1 false (.t 43),none⟩,
      ⟨(some 45),.call 158 [.t 44],none⟩,
      ⟨(some 7),.mv (.t 45),none⟩] [1,7]) (
     .seq (
      .ops [
       ⟨(some 46),.mv (.t 7),none⟩,
       ⟨(some 47),.bin .neq (.t 46) (.k (.d (.lit (.string ⟨#[]⟩)))),none⟩] [1,7,47]) (
      .cond (.t 47) (
       .seq (
        .ops [
         ⟨(some 48),.mv (.t 7),none⟩,
         ⟨(some 49),.fa 3 (.t 1),none⟩,
         ⟨(some 50),.load 1 false (.t 49),none⟩,
         ⟨(some 51),.ia 4 (.t 50) (.k (.d (.lit (.int .i64 0)))),none⟩,
         ⟨(some 52),.load 4 true (.t 51),none⟩,
         ⟨(some 53),.call 157 [.t 52,.k (.d (.lit (.int .i64 13)))],none⟩,
         ⟨(some 54),.bin .add (.t 48) (.t 53),none⟩,
         ⟨(some 2),.mv (.t 54),none⟩] [2]) (
        .ret)) (
       .skip)))) (
    .seq (
     .seq (
      .ops [
       ⟨(some 55),.fa 0 (.t 1),none⟩,
       ⟨(some 56),.load 1 false (.t 55),none⟩] [1,56]) (
      .block 0 (
       .seq (
        .ops [
         ⟨(some 58),.bin .eql (.t 56) (.k (.d (.lit (.int .i64 22)))),none⟩,
         ⟨(some 57),.mv (.t 58),none⟩] [1,56,57]) (
        .cond (.t 57) (
         .seq (
          .draw [
           ⟨(some 59),.fa 3 (.t 1),none⟩,
           ⟨(some 60),.load 1 false (.t 59),none⟩,
           ⟨(some 61),.ia 4 (.t 60) (.k (.d (.lit (.int .i64 0)))),none⟩,
           ⟨(some 62),.load 4 true (.t 61),none⟩,
           ⟨(some 63),.call 157 [.t 62,.k (.d (.lit (.int .i64 2)))],none⟩,
           ⟨(some 64),.bin .add (.t 63) (.k (.d (.lit (.string ⟨#[32,63,32]⟩)))),none⟩,
           ⟨(some 65),.fa 3 (.t 1),none⟩,
           ⟨(some 66),.load 1 false (.t 65),none⟩,
           ⟨(some 67),.ia 4 (.t 66) (.k (.d (.lit (.int .i64 1)))),none⟩,
           ⟨(some 68),.load 4 true (.t 67),none⟩,
           ⟨(some 69),.call 157 [.t 68,.k (.d (.lit (.int .i64 1)))],none⟩,
           ⟨(some 70),.bin .add (.t 64) (.t 69),none⟩,
           ⟨(some 71),.bin .add (.t 70) (.k (.d (.lit (.string ⟨#[32,58,32]⟩)))),none⟩,
           ⟨(some 72),.fa 3 (.t 1),none⟩,
           ⟨(some 73),.load 1 false (.t 72),none⟩,
           ⟨(some 74),.ia 4 (.t 73) (.k (.d (.lit (.int .i64 2)))),none⟩,
           ⟨(some 75),.load 4 true (.t 74),none⟩,
           ⟨(some 76),.call 157 [.t 75,.k (.d (.lit (.int .i64 1)))],none⟩,
           ⟨(some 77),.bin .add (.t 71) (.t 76),none⟩,
           ⟨(some 2),.mv (.t 77),none⟩] [2]) (
          .ret)) (
         .seq (
          .ops [
           ⟨(some 79),.bin .eql (.t 56) (.k (.d (.lit (.int .i64 23)))),none⟩,
           ⟨(some 78),.mv (.t 79),none⟩] [1,56,78]) (
          .cond (.t 78) (
           .seq (
            .ops [
             ⟨(some 8),.nilo 9 1,none⟩] [1,8]) (
            .seq (
             .seq (
              .ops [
               ⟨(some 9),.mv (.k (.d (.lit (.int .i64 1)))),none⟩] [1,8,9]) (
              .block 1 (
               .loop (
                .seq (
                 .seq (
                  .ops [
                   ⟨(some 80),.mv (.t 9),none⟩,
                   ⟨(some 81),.bin .add (.t 80) (.k (.d (.lit (.int .i64 1)))),none⟩,
                   ⟨(some 82),.fa 3 (.t 1),none⟩,
                   ⟨(some 83),.load 1 false (.t 82),none⟩,
                   ⟨(some 84),.len false (.t 83),none⟩,
                   ⟨(some 85),.bin .lss (.t 81) (.t 84),none⟩] [1,8,9,85]) (
                  .cond (.t 85) (
                   .skip) (
                   .exit 1))) (
                 .seq (
                  .block 2 (
                   .drawb 8 88 105 9 1 16 (.t 104) [
                    ⟨(some 89),.fa 3 (.t 1),none⟩,
                    ⟨(some 90),.load 1 false (.t 89),none⟩,
                    ⟨(some 91),.mv (.t 9),none⟩,
                    ⟨(some 92),.ia 4 (.t 90) (.t 91),none⟩,
                    ⟨(some 93),.load 4 true (.t 92),none⟩,
                    ⟨(some 94),.call 143 [.t 93],none⟩,
                    ⟨(some 95),.bin .add (.t 94) (.k (.d (.lit (.string ⟨#[32,46,46,32]⟩)))),none⟩,
                    ⟨(some 96),.fa 3 (.t 1),none⟩,
                    ⟨(some 97),.load 1 false (.t 96),none⟩,
                    ⟨(some 98),.mv (.t 9),none⟩,
                    ⟨(some 99),.bin .add (.t 98) (.k (.d (.lit (.int .i64 1)))),none⟩,
                    ⟨(some 100),.ia 4 (.t 97) (.t 99),none⟩,
                    ⟨(some 101),.load 4 true (.t 100),none⟩,
                    ⟨(some 102),.call 143 [.t 101],none⟩,
                    ⟨(some 103),.bin .add (.t 95) (.t 102),none⟩,
                    ⟨(some 104),.mks 9 1 [.t 103],none⟩] [1,8,9])) (
                  .ops [
                   ⟨(some 86),.mv (.t 9),none⟩,
                   ⟨(some 87),.bin .add (.t 86) (.k (.d (.lit (.int .i64 2)))),none⟩,
                   ⟨(some 9),.mv (.t 87),none⟩] [1,8,9])))))) (
             .seq (
              .ops [
               ⟨(some 106),.fa 3 (.t 1),none⟩,
               ⟨(some 107),.load 1 false (.t 106),none⟩,
               ⟨(some 108),.ia 4 (.t 107) (.k (.d (.lit (.int .i64 0)))),none⟩,
               ⟨(some 109),.load 4 true (.t 108),none⟩,
               ⟨(some 110),.call 157 [.t 109,.k (.d (.lit (.int .i64 9)))],none⟩,
               ⟨(some 111),.bin .add (.t 110) (.k (.d (.lit (.string ⟨#[32,105,110,115,105,100,101,32,123,32]⟩)))),none⟩,
               ⟨(some 112),.mv (.t 8),none⟩,
               ⟨(some 113),.call 24 [.t 112,.k (.d (.lit (.string ⟨#[44,32]⟩)))],none⟩,
               ⟨(some 114),.bin .add (.t 111) (.t 113),none⟩,
               ⟨(some 115),.bin .add (.t 114) (.k (.d (.lit (.string ⟨#[32,125]⟩)))),none⟩,
               ⟨(some 2),.mv (.t 115),none⟩] [2]) (
              .ret)))) (
           .seq (
            .ops [
             ⟨(some 117),.bin .eql (.t 56) (.k (.d (.lit (.int .i64 1)))),none⟩,
             ⟨(some 116),.mv (.t 117),none⟩] [1,56,116]) (
            .cond (.t 116) (
             .seq (
              .ops [
               ⟨(some 118),.fa 1 (.t 1),none⟩,
               ⟨(some 119),.load 1 false (.t 118),none⟩,
               ⟨(some 120),.call 42 [.t 119],none⟩,
               ⟨(some 2),.mv (.t 120),none⟩] [2]) (
              .ret)) (
             .seq (
              .ops [
               ⟨(some 122),.bin .eql (.t 56) (.k (.d (.lit (.int .i64 3)))),none⟩,
               ⟨(some 121),.mv (.t 122),none⟩] [1,56,121]) (
              .cond (.t 121) (
               .seq (
                .draw [
                 ⟨(some 123),.fa 2 (.t 1),none⟩,
                 ⟨(some 124),.load 1 false (.t 123),none⟩,
                 ⟨(some 125),.bin .add (.t 124) (.k (.d (.lit (.string ⟨#[91]⟩)))),none⟩,
                 ⟨(some 126),.fa 3 (.t 1),none⟩,
                 ⟨(some 127),.load 1 false (.t 126),none⟩,
                 ⟨(some 128),.ia 4 (.t 127) (.k (.d (.lit (.int .i64 0)))),none⟩,
                 ⟨(some 129),.load 4 true (.t 128),none⟩,
                 ⟨(some 130),.call 143 [.t 129],none⟩,
                 ⟨(some 131),.bin .add (.t 125) (.t 130),none⟩,
                 ⟨(some 132),.bin .add (.t 131) (.k (.d (.lit (.string ⟨#[93]⟩)))),none⟩,
                 ⟨(some 2),.mv (.t 132),none⟩] [2]) (
                .ret)) (
               .seq (
                .ops [
                 ⟨(some 134),.bin .eql (.t 56) (.k (.d (.lit (.int .i64 24)))),none⟩,
                 ⟨(some 133),.mv (.t 134),none⟩] [1,56,133]) (
                .cond (.t 133) (
                 .seq (
                  .ops [
                   ⟨(some 135),.fa 2 (.t 1),none⟩,
                   ⟨(some 136),.load 1 false (.t 135),none⟩,
                   ⟨(some 137),.bin .add (.k (.d (.lit (.string ⟨#[115,117,109,40]⟩)))) (.t 136),none⟩,
                   ⟨(some 138),.bin .add (.t 137) (.k (.d (.lit (.string ⟨#[41]⟩)))),none⟩,
                   ⟨(some 2),.mv (.t 138),none⟩] [2]) (
                  .ret)) (
                 .seq (
                  .ops [
                   ⟨(some 140),.bin .eql (.t 56) (.k (.d (.lit (.int .i64 25)))),none⟩,
                   ⟨(some 139),.mv (.t 140),none⟩] [1,139]) (
                  .cond (.t 139) (
                   .seq (
                    .ops [
                     ⟨(some 141),.fa 3 (.t 1),none⟩,
                     ⟨(some 142),.load 1 false (.t 141),none⟩,
                     ⟨(some 143),.ia 4 (.t 142) (.k (.d (.lit (.int .i64 0)))),none⟩,
                     ⟨(some 144),.load 4 true (.t 143),none⟩,
                     ⟨(some 145),.call 143 [.t 144],none⟩,
                     ⟨(some 146),.bin .add (.k (.d (.lit (.string ⟨#[111,110,101,115,40]⟩)))) (.t 145),none⟩,
                     ⟨(some 147),.bin .add (.t 146) (.k (.d (.lit (.string ⟨#[41]⟩)))),none⟩,
                     ⟨(some 2),.mv (.t 147),none⟩] [2]) (
                    .ret)) (
                   .skip))))))))))))))) (
     .seq (
      .ops [
       ⟨(some 148),.fa 2 (.t 1),none⟩,
       ⟨(some 149),.load 1 false (.t 148),none⟩,
       ⟨(some 150),.call 159 [.t 149],none⟩,
       ⟨(some 2),.mv (.t 150),none⟩] [2]) (
      .ret)))))
def rs143:List RV:=[.t 2 false]
theorem k143:okFn G.tab Tryz.f143 1 c143 rs143=true:=by kernel_rfl
def c157:Cd:=
 .seq (
  .ops [
   ⟨(some 2),.box 51 (.t 0),none⟩,
   ⟨(some 4),.mv (.k (.d (.lit (.string ⟨#[]⟩)))),none⟩] [1,2]) (
  .seq (
   .seq (
    .ops [
     ⟨(some 5),.load 4 true (.t 2),none⟩,
     ⟨(some 6),.call 170 [.t 5],none⟩,
     ⟨(some 7),.mv (.t 1),none⟩,
     ⟨(some 8),.bin .lss (.t 6) (.t 7),none⟩] [2,8]) (
    .cond (.t 8) (
     .seq (
      .ops [
       ⟨(some 9),.load 4 true (.t 2),none⟩,
       ⟨(some 10),.call 143 [.t 9],none⟩,
       ⟨(some 11),.bin .add (.k (.d (.lit (.string ⟨#[40]⟩)))) (.t 10),none⟩,
       ⟨(some 12),.bin .add (.t 11) (.k (.d (.lit (.string ⟨#[41]⟩)))),none⟩,
       ⟨(some 4),.mv (.t 12),none⟩] [4]) (
      .ret)) (
     .skip))) (
   .seq (
    .ops [
     ⟨(some 13),.load 4 true (.t 2),none⟩,
     ⟨(some 14),.call 143 [.t 13],none⟩,
     ⟨(some 4),.mv (.t 14),none⟩] [4]) (
    .ret)))
def rs157:List RV:=[.t 4 false]
theorem k157:okFn G.tab Tryz.f157 2 c157 rs157=true:=by kernel_rfl
def c156:Cd:=
 .seq (
  .ops [
   ⟨(some 2),.new 167 [.d (.lit (.string ⟨#[]⟩)),.d (.lit (.int .i64 0)),.d (.lit (.int .i64 0))],none⟩,
   ⟨(some 3),.mv (.k (.d (.lit (.bool false)))),none⟩] [0,2]) (
  .seq (
   .seq (
    .ops [
     ⟨(some 6),.call 169 [],none⟩,
     ⟨(some 7),.len false (.t 6),none⟩,
     ⟨(some 8),.mv (.k (.d (.lit (.int .i64 0)))),none⟩] [0,2,6,7,8]) (
    .block 0 (
     .loop (
      .seq (
       .ops [
        ⟨(some 9),.bin .lss (.t 8) (.t 7),none⟩] [0,2,6,7,8,9]) (
       .seq (
        .cond (.t 9) (
         .skip) (
         .exit 0)) (
        .seq (
         .block 1 (
          .seq (
           .ops [
            ⟨(some 10),.ia 3 (.t 6) (.t 8),none⟩,
            ⟨(some 11),.load 3 true (.t 10),none⟩,
            ⟨(some 5),.new 167 [.d (.lit (.string ⟨#[]⟩)),.d (.lit (.int .i64 0)),.d (.lit (.int .i64 0))],none⟩,
            ⟨none,.sto 3 (.t 5) (.t 11),none⟩] [0,2,5,6,7,8]) (
           .seq (
            .ops [
             ⟨(some 12),.fa 1 (.t 5),none⟩,
             ⟨(some 13),.load 1 false (.t 12),none⟩,
             ⟨(some 14),.mv (.t 0),none⟩,
             ⟨(some 15),.bin .eql (.t 13) (.t 14),none⟩] [0,2,5,6,7,8,15]) (
            .cond (.t 15) (
             .seq (
              .ops [
               ⟨(some 16),.load 3 true (.t 5),none⟩,
               ⟨none,.sto 3 (.t 2) (.t 16),none⟩,
               ⟨(some 3),.mv (.k (.d (.lit (.bool true)))),none⟩] [2,3]) (
              .ret)) (
             .skip))))) (
         .ops [
          ⟨(some 17),.bin .add (.t 8) (.k (.d (.lit (.int .i64 1)))),none⟩,
          ⟨(some 8),.mv (.t 17),none⟩] [0,2,6,7,8]))))))) (
   .seq (
    .ops [
     ⟨(some 18),.bld [.d (.lit (.string ⟨#[]⟩)),.d (.lit (.int .i64 0)),.d (.lit (.int .i64 0))] [],none⟩,
     ⟨none,.sto 3 (.t 2) (.t 18),none⟩,
     ⟨(some 3),.mv (.k (.d (.lit (.bool false)))),none⟩] [2,3]) (
    .ret)))
def rs156:List RV:=[.c 2 3 true,.t 3 false]
theorem k156:okFn G.tab Tryz.f156 1 c156 rs156=true:=by kernel_rfl
def c158:Cd:=
 .seq (
  .ops [
   ⟨(some 2),.mv (.k (.d (.lit (.string ⟨#[]⟩)))),none⟩] [0]) (
  .seq (
   .seq (
    .ops [
     ⟨(some 3),.mv (.t 0),none⟩] [3]) (
    .block 0 (
     .seq (
      .ops [
       ⟨(some 5),.bin .eql (.t 3) (.k (.d (.lit (.int .i64 4)))),none⟩,
       ⟨(some 4),.mv (.t 5),none⟩] [3,4]) (
      .cond (.t 4) (
       .seq (
        .ops [
         ⟨(some 2),.mv (.k (.d (.lit (.string ⟨#[33]⟩)))),none⟩] [2]) (
        .ret)) (
       .seq (
        .ops [
         ⟨(some 7),.bin .eql (.t 3) (.k (.d (.lit (.int .i64 5)))),none⟩,
         ⟨(some 6),.mv (.t 7),none⟩] [3,6]) (
        .cond (.t 6) (
         .seq (
          .ops [
           ⟨(some 2),.mv (.k (.d (.lit (.string ⟨#[126]⟩)))),none⟩] [2]) (
          .ret)) (
         .seq (
          .ops [
           ⟨(some 9),.bin .eql (.t 3) (.k (.d (.lit (.int .i64 6)))),none⟩,
           ⟨(some 8),.mv (.t 9),none⟩] [8]) (
          .cond (.t 8) (
           .seq (
            .ops [
             ⟨(some 2),.mv (.k (.d (.lit (.string ⟨#[45]⟩)))),none⟩] [2]) (
            .ret)) (
           .skip))))))))) (
   .seq (
    .ops [
     ⟨(some 2),.mv (.k (.d (.lit (.string ⟨#[]⟩)))),none⟩] [2]) (
    .ret)))
def rs158:List RV:=[.t 2 false]
theorem k158:okFn G.tab Tryz.f158 1 c158 rs158=true:=by kernel_rfl
def c159:Cd:=
 .seq (
  .ops [
   ⟨(some 2),.mv (.k (.d (.lit (.string ⟨#[]⟩)))),none⟩] [0]) (
  .seq (
   .seq (
    .ops [
     ⟨(some 4),.mv (.t 0),none⟩,
     ⟨(some 5),.call 171 [.t 4,.k (.d (.lit (.int .u8 91)))],none⟩,
     ⟨(some 3),.mv (.t 5),none⟩] [0,3]) (
    .seq (
     .ops [
      ⟨(some 6),.mv (.t 3),none⟩,
      ⟨(some 7),.bin .geq (.t 6) (.k (.d (.lit (.int .i64 0)))),none⟩] [0,3,7]) (
     .cond (.t 7) (
      .seq (
       .draw [
        ⟨(some 8),.mv (.t 0),none⟩,
        ⟨(some 9),.mv (.t 3),none⟩,
        ⟨(some 10),.sub true 0 (.t 8) none (some (.t 9)),none⟩,
        ⟨(some 11),.bin .add (.t 10) (.k (.d (.lit (.string ⟨#[64]⟩)))),none⟩,
        ⟨(some 12),.mv (.t 0),none⟩,
        ⟨(some 13),.mv (.t 3),none⟩,
        ⟨(some 14),.bin .add (.t 13) (.k (.d (.lit (.int .i64 1)))),none⟩,
        ⟨(some 15),.sub true 0 (.t 12) (some (.t 14)) none,none⟩,
        ⟨(some 16),.call 145 [.t 15,.k (.d (.lit (.string ⟨#[93]⟩)))],none⟩,
        ⟨(some 17),.bin .add (.t 11) (.t 16),none⟩,
        ⟨(some 2),.mv (.t 17),none⟩] [2]) (
       .ret)) (
      .skip)))) (
   .seq (
    .ops [
     ⟨(some 18),.mv (.t 0),none⟩,
     ⟨(some 2),.mv (.t 18),none⟩] [2]) (
    .ret)))
def rs159:List RV:=[.t 2 false]
theorem k159:okFn G.tab Tryz.f159 1 c159 rs159=true:=by kernel_rfl
def c169:Cd:=
 .seq (
  .ops [
   ⟨(some 0),.mv (.k (.nil)),none⟩] []) (
  .seq (
   .ops [
    ⟨(some 1),.bld [.d (.lit (.string ⟨#[]⟩)),.d (.lit (.int .i64 0)),.d (.lit (.int .i64 0))] [(0,1,.k (.d (.lit (.string ⟨#[61,62]⟩)))),(1,1,.k (.d (.lit (.int .i64 21)))),(2,1,.k (.d (.lit (.int .i64 2))))],none⟩,
    ⟨(some 2),.bld [.d (.lit (.string ⟨#[]⟩)),.d (.lit (.int .i64 0)),.d (.lit (.int .i64 0))] [(0,1,.k (.d (.lit (.string ⟨#[124,124]⟩)))),(1,1,.k (.d (.lit (.int .i64 20)))),(2,1,.k (.d (.lit (.int .i64 3))))],none⟩,
    ⟨(some 3),.bld [.d (.lit (.string ⟨#[]⟩)),.d (.lit (.int .i64 0)),.d (.lit (.int .i64 0))] [(0,1,.k (.d (.lit (.string ⟨#[38,38]⟩)))),(1,1,.k (.d (.lit (.int .i64 19)))),(2,1,.k (.d (.lit (.int .i64 4))))],none⟩,
    ⟨(some 4),.bld [.d (.lit (.string ⟨#[]⟩)),.d (.lit (.int .i64 0)),.d (.lit (.int .i64 0))] [(0,1,.k (.d (.lit (.string ⟨#[124]⟩)))),(1,1,.k (.d (.lit (.int .i64 11)))),(2,1,.k (.d (.lit (.int .i64 5))))],none⟩,
    ⟨(some 5),.bld [.d (.lit (.string ⟨#[]⟩)),.d (.lit (.int .i64 0)),.d (.lit (.int .i64 0))] [(0,1,.k (.d (.lit (.string ⟨#[94]⟩)))),(1,1,.k (.d (.lit (.int .i64 12)))),(2,1,.k (.d (.lit (.int .i64 6))))],none⟩,
    ⟨(some 6),.bld [.d (.lit (.string ⟨#[]⟩)),.d (.lit (.int .i64 0)),.d (.lit (.int .i64 0))] [(0,1,.k (.d (.lit (.string ⟨#[38]⟩)))),(1,1,.k (.d (.lit (.int .i64 10)))),(2,1,.k (.d (.lit (.int .i64 7))))],none⟩,
    ⟨(some 7),.bld [.d (.lit (.string ⟨#[]⟩)),.d (.lit (.int .i64 0)),.d (.lit (.int .i64 0))] [(0,1,.k (.d (.lit (.string ⟨#[61,61]⟩)))),(1,1,.k (.d (.lit (.int .i64 15)))),(2,1,.k (.d (.lit (.int .i64 8))))],none⟩,
    ⟨(some 8),.bld [.d (.lit (.string ⟨#[]⟩)),.d (.lit (.int .i64 0)),.d (.lit (.int .i64 0))] [(0,1,.k (.d (.lit (.string ⟨#[33,61]⟩)))),(1,1,.k (.d (.lit (.int .i64 16)))),(2,1,.k (.d (.lit (.int .i64 8))))],none⟩,
    ⟨(some 9),.bld [.d (.lit (.string ⟨#[]⟩)),.d (.lit (.int .i64 0)),.d (.lit (.int .i64 0))] [(0,1,.k (.d (.lit (.string ⟨#[60]⟩)))),(1,1,.k (.d (.lit (.int .i64 17)))),(2,1,.k (.d (.lit (.int .i64 9))))],none⟩,
    ⟨(some 10),.bld [.d (.lit (.string ⟨#[]⟩)),.d (.lit (.int .i64 0)),.d (.lit (.int .i64 0))] [(0,1,.k (.d (.lit (.string ⟨#[60,61]⟩)))),(1,1,.k (.d (.lit (.int .i64 18)))),(2,1,.k (.d (.lit (.int .i64 9))))],none⟩,
    ⟨(some 11),.bld [.d (.lit (.string ⟨#[]⟩)),.d (.lit (.int .i64 0)),.d (.lit (.int .i64 0))] [(0,1,.k (.d (.lit (.string ⟨#[60,60]⟩)))),(1,1,.k (.d (.lit (.int .i64 13)))),(2,1,.k (.d (.lit (.int .i64 10))))],none⟩,
    ⟨(some 12),.bld [.d (.lit (.string ⟨#[]⟩)),.d (.lit (.int .i64 0)),.d (.lit (.int .i64 0))] [(0,1,.k (.d (.lit (.string ⟨#[62,62]⟩)))),(1,1,.k (.d (.lit (.int .i64 14)))),(2,1,.k (.d (.lit (.int .i64 10))))],none⟩,
    ⟨(some 13),.bld [.d (.lit (.string ⟨#[]⟩)),.d (.lit (.int .i64 0)),.d (.lit (.int .i64 0))] [(0,1,.k (.d (.lit (.string ⟨#[43]⟩)))),(1,1,.k (.d (.lit (.int .i64 7)))),(2,1,.k (.d (.lit (.int .i64 11))))],none⟩,
    ⟨(some 14),.bld [.d (.lit (.string ⟨#[]⟩)),.d (.lit (.int .i64 0)),.d (.lit (.int .i64 0))] [(0,1,.k (.d (.lit (.string ⟨#[45]⟩)))),(1,1,.k (.d (.lit (.int .i64 8)))),(2,1,.k (.d (.lit (.int .i64 11))))],none⟩,
    ⟨(some 15),.bld [.d (.lit (.string ⟨#[]⟩)),.d (.lit (.int .i64 0)),.d (.lit (.int .i64 0))] [(0,1,.k (.d (.lit (.string ⟨#[42]⟩)))),(1,1,.k (.d (.lit (.int .i64 9)))),(2,1,.k (.d (.lit (.int .i64 12))))],none⟩,
    ⟨(some 16),.mks 167 3 [.t 1,.t 2,.t 3,.t 4,.t 5,.t 6,.t 7,.t 8,.t 9,.t 10,.t 11,.t 12,.t 13,.t 14,.t 15],none⟩,
    ⟨(some 0),.mv (.t 16),none⟩] [0]) (
   .ret))
def rs169:List RV:=[.t 0 false]
theorem k169:okFn G.tab Tryz.f169 0 c169 rs169=true:=by kernel_rfl
def c170:Cd:=
 .seq (
  .ops [
   ⟨(some 1),.box 51 (.t 0),none⟩,
   ⟨(some 2),.mv (.k (.d (.lit (.int .i64 0)))),none⟩] [1]) (
  .seq (
   .seq (
    .ops [
     ⟨(some 6),.fa 0 (.t 1),none⟩,
     ⟨(some 7),.load 1 false (.t 6),none⟩,
     ⟨(some 8),.call 156 [.t 7],none⟩,
     ⟨(some 5),.mv (.t 8),none⟩,
     ⟨(some 9),.ext (.t 5) 0,none⟩,
     ⟨(some 10),.ext (.t 5) 1,none⟩,
     ⟨(some 3),.new 167 [.d (.lit (.string ⟨#[]⟩)),.d (.lit (.int .i64 0)),.d (.lit (.int .i64 0))],none⟩,
     ⟨none,.sto 3 (.t 3) (.t 9),none⟩,
     ⟨(some 4),.mv (.t 10),none⟩] [1,3,4]) (
    .seq (
     .ops [
      ⟨(some 11),.mv (.t 4),none⟩] [1,3,11]) (
     .cond (.t 11) (
      .seq (
       .ops [
        ⟨(some 12),.fa 2 (.t 3),none⟩,
        ⟨(some 13),.load 1 false (.t 12),none⟩,
        ⟨(some 2),.mv (.t 13),none⟩] [2]) (
       .ret)) (
      .skip)))) (
   .seq (
    .block 0 (
     .seq (
      .ops [
       ⟨(some 15),.fa 0 (.t 1),none⟩,
       ⟨(some 16),.load 1 false (.t 15),none⟩,
       ⟨(some 17),.bin .eql (.t 16) (.k (.d (.lit (.int .i64 22)))),none⟩,
       ⟨(some 14),.mv (.t 17),none⟩] [1,14]) (
      .cond (.t 14) (
       .seq (
        .ops [
         ⟨(some 2),.mv (.k (.d (.lit (.int .i64 1)))),none⟩] [2]) (
        .ret)) (
       .seq (
        .ops [
         ⟨(some 19),.fa 0 (.t 1),none⟩,
         ⟨(some 20),.load 1 false (.t 19),none⟩,
         ⟨(some 21),.bin .eql (.t 20) (.k (.d (.lit (.int .i64 23)))),none⟩,
         ⟨(some 18),.mv (.t 21),none⟩] [1,18]) (
        .cond (.t 18) (
         .seq (
          .ops [
           ⟨(some 2),.mv (.k (.d (.lit (.int .i64 9)))),none⟩] [2]) (
          .ret)) (
         .seq (
          .ops [
           ⟨(some 23),.fa 0 (.t 1),none⟩,
           ⟨(some 24),.load 1 false (.t 23),none⟩,
           ⟨(some 25),.call 158 [.t 24],none⟩,
           ⟨(some 26),.bin .neq (.t 25) (.k (.d (.lit (.string ⟨#[]⟩)))),none⟩,
           ⟨(some 22),.mv (.t 26),none⟩] [22]) (
          .cond (.t 22) (
           .seq (
            .ops [
             ⟨(some 2),.mv (.k (.d (.lit (.int .i64 13)))),none⟩] [2]) (
            .ret)) (
           .skip)))))))) (
    .seq (
     .ops [
      ⟨(some 2),.mv (.k (.d (.lit (.int .i64 14)))),none⟩] [2]) (
     .ret))))
def rs170:List RV:=[.t 2 false]
theorem k170:okFn G.tab Tryz.f170 1 c170 rs170=true:=by kernel_rfl
def c42:Cd:=
 .seq (
  .ops [
   ⟨(some 2),.mv (.k (.d (.lit (.string ⟨#[]⟩)))),none⟩] [0]) (
  .seq (
   .ops [
    ⟨(some 3),.mv (.t 0),none⟩,
    ⟨(some 4),.call 61 [.t 3],none⟩,
    ⟨(some 2),.mv (.t 4),none⟩] [2]) (
   .ret))
def rs42:List RV:=[.t 2 false]
theorem k42:okFn G.tab Tryz.f42 1 c42 rs42=true:=by kernel_rfl
def c145:Cd:=
 .seq (
  .ops [
   ⟨(some 4),.mv (.k (.d (.lit (.string ⟨#[]⟩)))),none⟩] [0,1]) (
  .seq (
   .ops [
    ⟨(some 5),.mv (.t 0),none⟩,
    ⟨(some 6),.mv (.t 1),none⟩,
    ⟨(some 7),.call 161 [.t 5,.t 6],none⟩,
    ⟨(some 4),.mv (.t 7),none⟩] [4]) (
   .ret))
def rs145:List RV:=[.t 4 false]
theorem k145:okFn G.tab Tryz.f145 2 c145 rs145=true:=by kernel_rfl
def c161:Cd:=
 .seq (
  .ops [
   ⟨(some 4),.mv (.k (.d (.lit (.string ⟨#[]⟩)))),none⟩] [0,1]) (
  .seq (
   .seq (
    .ops [
     ⟨(some 5),.mv (.t 0),none⟩,
     ⟨(some 6),.mv (.t 1),none⟩,
     ⟨(some 7),.call 173 [.t 5,.t 6],none⟩] [0,1,7]) (
    .cond (.t 7) (
     .seq (
      .ops [
       ⟨(some 8),.mv (.t 0),none⟩,
       ⟨(some 9),.mv (.t 0),none⟩,
       ⟨(some 10),.len true (.t 9),none⟩,
       ⟨(some 11),.mv (.t 1),none⟩,
       ⟨(some 12),.len true (.t 11),none⟩,
       ⟨(some 13),.bin .sub (.t 10) (.t 12),none⟩,
       ⟨(some 14),.sub true 0 (.t 8) none (some (.t 13)),none⟩,
       ⟨(some 4),.mv (.t 14),none⟩] [4]) (
      .ret)) (
     .skip))) (
   .seq (
    .ops [
     ⟨(some 15),.mv (.t 0),none⟩,
     ⟨(some 4),.mv (.t 15),none⟩] [4]) (
    .ret)))
def rs161:List RV:=[.t 4 false]
theorem k161:okFn G.tab Tryz.f161 2 c161 rs161=true:=by kernel_rfl
def c173:Cd:=
 .seq (
  .ops [
   ⟨(some 4),.mv (.k (.d (.lit (.bool false)))),none⟩] [0,1]) (
  .seq (
   .ops [
    ⟨(some 5),.mv (.t 0),none⟩,
    ⟨(some 6),.len true (.t 5),none⟩,
    ⟨(some 7),.mv (.t 1),none⟩,
    ⟨(some 8),.len true (.t 7),none⟩,
    ⟨(some 9),.bin .geq (.t 6) (.t 8),none⟩,
    ⟨(some 10),.mv (.t 9),none⟩,
    ⟨(some 11),.mv (.t 0),(some (10,true))⟩,
    ⟨(some 12),.mv (.t 0),(some (10,true))⟩,
    ⟨(some 13),.len true (.t 12),(some (10,true))⟩,
    ⟨(some 14),.mv (.t 1),(some (10,true))⟩,
    ⟨(some 15),.len true (.t 14),(some (10,true))⟩,
    ⟨(some 16),.bin .sub (.t 13) (.t 15),(some (10,true))⟩,
    ⟨(some 17),.sub true 0 (.t 11) (some (.t 16)) none,(some (10,true))⟩,
    ⟨(some 18),.mv (.t 1),(some (10,true))⟩,
    ⟨(some 19),.bin .eql (.t 17) (.t 18),(some (10,true))⟩,
    ⟨(some 20),.pick (.t 10) (.t 19) (.k (.d (.lit (.bool false)))),none⟩,
    ⟨(some 4),.mv (.t 20),none⟩] [4]) (
   .ret))
def rs173:List RV:=[.t 4 false]
theorem k173:okFn G.tab Tryz.f173 2 c173 rs173=true:=by kernel_rfl
end Go.Proofs.YtcbahpllcfbkmaaGreatDoor
