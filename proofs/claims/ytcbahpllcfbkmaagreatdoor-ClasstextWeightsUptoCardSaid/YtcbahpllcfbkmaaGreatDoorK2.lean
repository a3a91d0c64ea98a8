import Derived.Test.YtcbahpllcfbkmaaGreatDoorProg
import Derived.Test.YtcbahpllcfbkmaaGreatDoorA20
import Derived.KernelRfl
import Derived.Test.YtcbahpllcfbkmaaGreatDoorK
namespace Go.Proofs.YtcbahpllcfbkmaaGreatDoor
open Go.RowKit
set_option maxRecDepth 100000
set_option linter.unusedVariables false
set_option linter.unusedSimpArgs false
def c56:Cd:=
 .seq (
  .ops [
   ⟨(some 2),.mv (.k (.d (.lit (.int .i64 0)))),none⟩] [0]) (
  .seq (
   .ops [
    ⟨(some 3),.mv (.k (.d (.lit (.int .i64 0)))),none⟩] [0,3]) (
   .seq (
    .seq (
     .ops [
      ⟨(some 6),.mv (.t 0),none⟩,
      ⟨(some 7),.len false (.t 6),none⟩,
      ⟨(some 8),.mv (.k (.d (.lit (.int .i64 0)))),none⟩] [3,6,7,8]) (
     .block 0 (
      .loop (
       .seq (
        .ops [
         ⟨(some 9),.bin .lss (.t 8) (.t 7),none⟩] [3,6,7,8,9]) (
        .seq (
         .cond (.t 9) (
          .skip) (
          .exit 0)) (
         .seq (
          .block 1 (
           .seq (
            .ops [
             ⟨(some 10),.ia 12 (.t 6) (.t 8),none⟩,
             ⟨(some 11),.load 12 true (.t 10),none⟩,
             ⟨(some 5),.new 53 [.d (.lit (.int .i64 0)),.d (.lit (.int .i64 0)),.d (.lit (.int .i64 0)),.d (.lit (.string ⟨#[]⟩)),.nil,.d (.lit (.string ⟨#[]⟩)),.d (.lit (.string ⟨#[]⟩)),.nil,.nil,.nil,.nil,.nil],none⟩,
             ⟨none,.sto 12 (.t 5) (.t 11),none⟩] [3,5,6,7,8]) (
            .draw [
             ⟨(some 12),.mv (.t 3),none⟩,
             ⟨(some 13),.fa 8 (.t 5),none⟩,
             ⟨(some 14),.load 1 false (.t 13),none⟩,
             ⟨(some 15),.call 56 [.t 14],none⟩,
             ⟨(some 16),.bin .add (.k (.d (.lit (.int .i64 1)))) (.t 15),none⟩,
             ⟨(some 17),.fa 9 (.t 5),none⟩,
             ⟨(some 18),.load 1 false (.t 17),none⟩,
             ⟨(some 19),.call 56 [.t 18],none⟩,
             ⟨(some 20),.bin .add (.t 16) (.t 19),none⟩,
             ⟨(some 21),.bin .add (.t 12) (.t 20),none⟩,
             ⟨(some 3),.mv (.t 21),none⟩] [3,6,7,8]))) (
          .ops [
           ⟨(some 22),.bin .add (.t 8) (.k (.d (.lit (.int .i64 1)))),none⟩,
           ⟨(some 8),.mv (.t 22),none⟩] [3,6,7,8]))))))) (
    .seq (
     .ops [
      ⟨(some 23),.mv (.t 3),none⟩,
      ⟨(some 2),.mv (.t 23),none⟩] [2]) (
     .ret))))
def rs56:List RV:=[.t 2 false]
theorem k56:okFn G.tab Tryz.f56 1 c56 rs56=true:=by kernel_rfl
def c38:Cd:=
 .seq (
  .ops [
   ⟨(some 2),.mv (.k (.d (.lit (.int .i64 0)))),none⟩] [0]) (
  .seq (
   .seq (
    .ops [
     ⟨(some 3),.mv (.t 0),none⟩,
     ⟨(some 4),.call 56 [.t 3],none⟩,
     ⟨(some 5),.bin .gtr (.t 4) (.k (.d (.lit (.int .i64 64)))),none⟩] [0,5]) (
    .cond (.t 5) (
     .seq (
      .ops [
       ⟨(some 2),.mv (.k (.d (.lit (.int .i64 2)))),none⟩] [2]) (
      .ret)) (
     .skip))) (
   .seq (
    .ops [
     ⟨(some 6),.mv (.t 0),none⟩,
     ⟨(some 7),.bld [.d (.lit (.int .i64 0)),.nil] [],none⟩,
     ⟨(some 8),.call 57 [.t 6,.t 7,.k (.fn 58 [])],none⟩,
     ⟨(some 2),.mv (.t 8),none⟩] [2]) (
    .ret)))
def rs38:List RV:=[.t 2 false]
theorem k38:okFn G.tab Tryz.f38 1 c38 rs38=true:=by kernel_rfl
def c57:Cd:=
 .seq (
  .ops [
   ⟨(some 4),.box 91 (.t 1),none⟩,
   ⟨(some 6),.mv (.k (.d (.lit (.int .i64 0)))),none⟩] [0,2,4]) (
  .seq (
   .seq (
    .ops [
     ⟨(some 14),.mv (.t 0),none⟩,
     ⟨(some 15),.len false (.t 14),none⟩,
     ⟨(some 16),.mv (.k (.d (.lit (.int .i64 0)))),none⟩] [2,4,14,15,16]) (
    .block 0 (
     .loop (
      .seq (
       .ops [
        ⟨(some 17),.bin .lss (.t 16) (.t 15),none⟩] [2,4,14,15,16,17]) (
       .seq (
        .cond (.t 17) (
         .skip) (
         .exit 0)) (
        .seq (
         .block 1 (
          .seq (
           .ops [
            ⟨(some 18),.ia 12 (.t 14) (.t 16),none⟩,
            ⟨(some 19),.load 12 true (.t 18),none⟩,
            ⟨(some 8),.new 53 [.d (.lit (.int .i64 0)),.d (.lit (.int .i64 0)),.d (.lit (.int .i64 0)),.d (.lit (.string ⟨#[]⟩)),.nil,.d (.lit (.string ⟨#[]⟩)),.d (.lit (.string ⟨#[]⟩)),.nil,.nil,.nil,.nil,.nil],none⟩,
            ⟨none,.sto 12 (.t 8) (.t 19),none⟩] [2,4,8,14,15,16]) (
           .seq (
            .seq (
             .ops [
              ⟨(some 20),.mv (.t 2),none⟩,
              ⟨(some 21),.load 12 true (.t 8),none⟩,
              ⟨(some 22),.load 2 true (.t 4),none⟩,
              ⟨(some 23),.callv (.t 20) [.t 21,.t 22],none⟩,
              ⟨(some 9),.mv (.t 23),none⟩] [2,4,8,9,14,15,16]) (
             .seq (
              .ops [
               ⟨(some 24),.mv (.t 9),none⟩,
               ⟨(some 25),.bin .neq (.t 24) (.k (.d (.lit (.int .i64 0)))),none⟩] [2,4,8,9,14,15,16,25]) (
              .cond (.t 25) (
               .seq (
                .ops [
                 ⟨(some 26),.mv (.t 9),none⟩,
                 ⟨(some 6),.mv (.t 26),none⟩] [6]) (
                .ret)) (
               .skip)))) (
            .seq (
             .ops [
              ⟨(some 27),.fa 0 (.t 4),none⟩,
              ⟨(some 28),.load 1 false (.t 27),none⟩,
              ⟨(some 29),.fa 1 (.t 4),none⟩,
              ⟨(some 30),.load 1 false (.t 29),none⟩,
              ⟨(some 31),.bld [.d (.lit (.int .i64 0)),.nil] [(0,1,.t 28),(1,1,.t 30)],none⟩,
              ⟨(some 10),.new 91 [.d (.lit (.int .i64 0)),.nil],none⟩,
              ⟨none,.sto 2 (.t 10) (.t 31),none⟩] [2,4,8,10,14,15,16]) (
             .seq (
              .seq (
               .ops [
                ⟨(some 32),.fa 0 (.t 8),none⟩,
                ⟨(some 33),.load 1 false (.t 32),none⟩,
                ⟨(some 34),.bin .eql (.t 33) (.k (.d (.lit (.int .i64 4)))),none⟩,
                ⟨(some 35),.mv (.t 34),none⟩,
                ⟨(some 36),.fa 0 (.t 8),(some (35,false))⟩,
                ⟨(some 37),.load 1 false (.t 36),(some (35,false))⟩,
                ⟨(some 38),.bin .eql (.t 37) (.k (.d (.lit (.int .i64 5)))),(some (35,false))⟩,
                ⟨(some 39),.pick (.t 35) (.k (.d (.lit (.bool true)))) (.t 38),none⟩] [2,4,8,10,14,15,16,39]) (
               .cond (.t 39) (
                .ops [
                 ⟨(some 40),.fa 0 (.t 10),none⟩,
                 ⟨(some 41),.load 1 false (.t 40),none⟩,
                 ⟨(some 42),.bin .add (.t 41) (.k (.d (.lit (.int .i64 1)))),none⟩,
                 ⟨(some 43),.fa 0 (.t 10),none⟩,
                 ⟨none,.sto 1 (.t 43) (.t 42),none⟩] [2,4,8,10,14,15,16]) (
                .skip))) (
              .seq (
               .ops [
                ⟨(some 44),.load 2 true (.t 10),none⟩,
                ⟨(some 11),.new 91 [.d (.lit (.int .i64 0)),.nil],none⟩,
                ⟨none,.sto 2 (.t 11) (.t 44),none⟩] [2,4,8,10,11,14,15,16]) (
               .seq (
                .seq (
                 .ops [
                  ⟨(some 45),.fa 0 (.t 8),none⟩,
                  ⟨(some 46),.load 1 false (.t 45),none⟩,
                  ⟨(some 47),.bin .eql (.t 46) (.k (.d (.lit (.int .i64 5)))),none⟩] [2,4,8,10,11,14,15,16,47]) (
                 .cond (.t 47) (
                  .drawg [
                   (⟨(some 48),.fa 1 (.t 4),none⟩,.free 0),
                   (⟨(some 49),.load 1 false (.t 48),none⟩,.calm 0 0),
                   (⟨(some 50),.call 83 [.t 49],none⟩,.act),
                   (⟨(some 51),.fa 6 (.t 8),none⟩,.free 0),
                   (⟨(some 52),.load 1 false (.t 51),none⟩,.calm 0 1),
                   (⟨(some 53),.mks 9 1 [.t 52],none⟩,.free 0),
                   (⟨(some 54),.app 9 1 16 50 (.t 53),none⟩,.slot 1),
                   (⟨(some 55),.fa 1 (.t 10),none⟩,.free 1),
                   (⟨none,.stoo (.t 55) 54,none⟩,.act)] [2,4,8,10,11,14,15,16]) (
                  .skip))) (
                .seq (
                 .seq (
                  .ops [
                   ⟨(some 56),.fa 8 (.t 8),none⟩,
                   ⟨(some 57),.load 1 false (.t 56),none⟩,
                   ⟨(some 58),.load 2 true (.t 10),none⟩,
                   ⟨(some 59),.mv (.t 2),none⟩,
                   ⟨(some 60),.call 57 [.t 57,.t 58,.t 59],none⟩,
                   ⟨(some 12),.mv (.t 60),none⟩] [2,4,8,11,12,14,15,16]) (
                  .seq (
                   .ops [
                    ⟨(some 61),.mv (.t 12),none⟩,
                    ⟨(some 62),.bin .neq (.t 61) (.k (.d (.lit (.int .i64 0)))),none⟩] [2,4,8,11,12,14,15,16,62]) (
                   .cond (.t 62) (
                    .seq (
                     .ops [
                      ⟨(some 63),.mv (.t 12),none⟩,
                      ⟨(some 6),.mv (.t 63),none⟩] [6]) (
                     .ret)) (
                    .skip)))) (
                 .seq (
                  .ops [
                   ⟨(some 64),.fa 9 (.t 8),none⟩,
                   ⟨(some 65),.load 1 false (.t 64),none⟩,
                   ⟨(some 66),.load 2 true (.t 11),none⟩,
                   ⟨(some 67),.mv (.t 2),none⟩,
                   ⟨(some 68),.call 57 [.t 65,.t 66,.t 67],none⟩,
                   ⟨(some 13),.mv (.t 68),none⟩] [2,4,13,14,15,16]) (
                  .seq (
                   .ops [
                    ⟨(some 69),.mv (.t 13),none⟩,
                    ⟨(some 70),.bin .neq (.t 69) (.k (.d (.lit (.int .i64 0)))),none⟩] [2,4,13,14,15,16,70]) (
                   .cond (.t 70) (
                    .seq (
                     .ops [
                      ⟨(some 71),.mv (.t 13),none⟩,
                      ⟨(some 6),.mv (.t 71),none⟩] [6]) (
                     .ret)) (
                    .skip)))))))))))) (
         .ops [
          ⟨(some 72),.bin .add (.t 16) (.k (.d (.lit (.int .i64 1)))),none⟩,
          ⟨(some 16),.mv (.t 72),none⟩] [2,4,14,15,16]))))))) (
   .seq (
    .ops [
     ⟨(some 6),.mv (.k (.d (.lit (.int .i64 0)))),none⟩] [6]) (
    .ret)))
def rs57:List RV:=[.t 6 false]
theorem k57:okFn G.tab Tryz.f57 3 c57 rs57=true:=by kernel_rfl
def c84:Cd:=
 .seq (
  .ops [
   ⟨(some 0),.mv (.k (.d (.lit (.map none)))),none⟩] []) (
  .seq (
   .ops [
    ⟨(some 1),.mmk false,none⟩,
    ⟨(some 2),.bld [.d (.lit (.bool false)),.d (.lit (.bool false)),.d (.lit (.bool false)),.d (.lit (.bool false)),.d (.lit (.bool false)),.d (.lit (.bool false)),.d (.lit (.bool false))] [(0,1,.k (.d (.lit (.bool true))))],none⟩,
    ⟨none,.mst false (.t 1) (.k (.d (.lit (.int .i64 1)))) (.t 2),none⟩,
    ⟨(some 3),.bld [.d (.lit (.bool false)),.d (.lit (.bool false)),.d (.lit (.bool false)),.d (.lit (.bool false)),.d (.lit (.bool false)),.d (.lit (.bool false)),.d (.lit (.bool false))] [(0,1,.k (.d (.lit (.bool true))))],none⟩,
    ⟨none,.mst false (.t 1) (.k (.d (.lit (.int .i64 2)))) (.t 3),none⟩,
    ⟨(some 4),.bld [.d (.lit (.bool false)),.d (.lit (.bool false)),.d (.lit (.bool false)),.d (.lit (.bool false)),.d (.lit (.bool false)),.d (.lit (.bool false)),.d (.lit (.bool false))] [(1,1,.k (.d (.lit (.bool true)))),(3,1,.k (.d (.lit (.bool true))))],none⟩,
    ⟨none,.mst false (.t 1) (.k (.d (.lit (.int .i64 3)))) (.t 4),none⟩,
    ⟨(some 5),.bld [.d (.lit (.bool false)),.d (.lit (.bool false)),.d (.lit (.bool false)),.d (.lit (.bool false)),.d (.lit (.bool false)),.d (.lit (.bool false)),.d (.lit (.bool false))] [(0,1,.k (.d (.lit (.bool true)))),(4,1,.k (.d (.lit (.bool true)))),(5,1,.k (.d (.lit (.bool true))))],none⟩,
    ⟨none,.mst false (.t 1) (.k (.d (.lit (.int .i64 4)))) (.t 5),none⟩,
    ⟨(some 6),.bld [.d (.lit (.bool false)),.d (.lit (.bool false)),.d (.lit (.bool false)),.d (.lit (.bool false)),.d (.lit (.bool false)),.d (.lit (.bool false)),.d (.lit (.bool false))] [(1,1,.k (.d (.lit (.bool true)))),(2,1,.k (.d (.lit (.bool true)))),(4,1,.k (.d (.lit (.bool true))))],none⟩,
    ⟨none,.mst false (.t 1) (.k (.d (.lit (.int .i64 5)))) (.t 6),none⟩,
    ⟨(some 7),.bld [.d (.lit (.bool false)),.d (.lit (.bool false)),.d (.lit (.bool false)),.d (.lit (.bool false)),.d (.lit (.bool false)),.d (.lit (.bool false)),.d (.lit (.bool false))] [(6,1,.k (.d (.lit (.bool true))))],none⟩,
    ⟨none,.mst false (.t 1) (.k (.d (.lit (.int .i64 6)))) (.t 7),none⟩,
    ⟨(some 8),.mv (.t 1),none⟩,
    ⟨(some 0),.mv (.t 8),none⟩] [0]) (
   .ret))
def rs84:List RV:=[.t 0 false]
theorem k84:okFn G.tab Tryz.f84 0 c84 rs84=true:=by kernel_rfl
def c85:Cd:=
 .seq (
  .ops [
   ⟨(some 2),.box 53 (.t 0),none⟩,
   ⟨(some 3),.box 112 (.t 1),none⟩,
   ⟨(some 4),.mv (.k (.d (.lit (.bool false)))),none⟩] [2,3]) (
  .seq (
   .ops [
    ⟨(some 5),.fa 0 (.t 3),none⟩,
    ⟨(some 6),.load 1 false (.t 5),none⟩,
    ⟨(some 7),.mv (.t 6),none⟩,
    ⟨(some 8),.fa 1 (.t 2),(some (7,false))⟩,
    ⟨(some 9),.load 4 true (.t 8),(some (7,false))⟩,
    ⟨(some 10),.call 114 [.t 9],(some (7,false))⟩,
    ⟨(some 11),.pick (.t 7) (.k (.d (.lit (.bool true)))) (.t 10),none⟩,
    ⟨(some 12),.mv (.t 11),none⟩,
    ⟨(some 13),.fa 1 (.t 3),(some (12,true))⟩,
    ⟨(some 14),.load 1 false (.t 13),(some (12,true))⟩,
    ⟨(some 15),.mv (.t 14),(some (12,true))⟩,
    ⟨(some 16),.fa 5 (.t 2),(some (15,false))⟩,
    ⟨(some 17),.load 1 false (.t 16),(some (15,false))⟩,
    ⟨(some 18),.bin .eql (.t 17) (.k (.d (.lit (.string ⟨#[]⟩)))),(some (15,false))⟩,
    ⟨(some 19),.pick (.t 15) (.k (.d (.lit (.bool true)))) (.t 18),(some (12,true))⟩,
    ⟨(some 20),.pick (.t 12) (.t 19) (.k (.d (.lit (.bool false)))),none⟩,
    ⟨(some 21),.mv (.t 20),none⟩,
    ⟨(some 22),.fa 2 (.t 3),(some (21,true))⟩,
    ⟨(some 23),.load 1 false (.t 22),(some (21,true))⟩,
    ⟨(some 24),.mv (.t 23),(some (21,true))⟩,
    ⟨(some 25),.fa 6 (.t 2),(some (24,false))⟩,
    ⟨(some 26),.load 1 false (.t 25),(some (24,false))⟩,
    ⟨(some 27),.bin .eql (.t 26) (.k (.d (.lit (.string ⟨#[]⟩)))),(some (24,false))⟩,
    ⟨(some 28),.pick (.t 24) (.k (.d (.lit (.bool true)))) (.t 27),(some (21,true))⟩,
    ⟨(some 29),.pick (.t 21) (.t 28) (.k (.d (.lit (.bool false)))),none⟩,
    ⟨(some 30),.mv (.t 29),none⟩,
    ⟨(some 31),.fa 3 (.t 3),(some (30,true))⟩,
    ⟨(some 32),.load 1 false (.t 31),(some (30,true))⟩,
    ⟨(some 33),.mv (.t 32),(some (30,true))⟩,
    ⟨(some 34),.fa 7 (.t 2),(some (33,false))⟩,
    ⟨(some 35),.load 1 false (.t 34),(some (33,false))⟩,
    ⟨(some 36),.len false (.t 35),(some (33,false))⟩,
    ⟨(some 37),.bin .eql (.t 36) (.k (.d (.lit (.int .i64 0)))),(some (33,false))⟩,
    ⟨(some 38),.pick (.t 33) (.k (.d (.lit (.bool true)))) (.t 37),(some (30,true))⟩,
    ⟨(some 39),.pick (.t 30) (.t 38) (.k (.d (.lit (.bool false)))),none⟩,
    ⟨(some 40),.mv (.t 39),none⟩,
    ⟨(some 41),.fa 4 (.t 3),(some (40,true))⟩,
    ⟨(some 42),.load 1 false (.t 41),(some (40,true))⟩,
    ⟨(some 43),.mv (.t 42),(some (40,true))⟩,
    ⟨(some 44),.fa 8 (.t 2),(some (43,false))⟩,
    ⟨(some 45),.load 1 false (.t 44),(some (43,false))⟩,
    ⟨(some 46),.len false (.t 45),(some (43,false))⟩,
    ⟨(some 47),.bin .eql (.t 46) (.k (.d (.lit (.int .i64 0)))),(some (43,false))⟩,
    ⟨(some 48),.pick (.t 43) (.k (.d (.lit (.bool true)))) (.t 47),(some (40,true))⟩,
    ⟨(some 49),.pick (.t 40) (.t 48) (.k (.d (.lit (.bool false)))),none⟩,
    ⟨(some 50),.mv (.t 49),none⟩,
    ⟨(some 51),.fa 5 (.t 3),(some (50,true))⟩,
    ⟨(some 52),.load 1 false (.t 51),(some (50,true))⟩,
    ⟨(some 53),.mv (.t 52),(some (50,true))⟩,
    ⟨(some 54),.fa 9 (.t 2),(some (53,false))⟩,
    ⟨(some 55),.load 1 false (.t 54),(some (53,false))⟩,
    ⟨(some 56),.len false (.t 55),(some (53,false))⟩,
    ⟨(some 57),.bin .eql (.t 56) (.k (.d (.lit (.int .i64 0)))),(some (53,false))⟩,
    ⟨(some 58),.pick (.t 53) (.k (.d (.lit (.bool true)))) (.t 57),(some (50,true))⟩,
    ⟨(some 59),.pick (.t 50) (.t 58) (.k (.d (.lit (.bool false)))),none⟩,
    ⟨(some 60),.mv (.t 59),none⟩,
    ⟨(some 61),.fa 6 (.t 3),(some (60,true))⟩,
    ⟨(some 62),.load 1 false (.t 61),(some (60,true))⟩,
    ⟨(some 63),.mv (.t 62),(some (60,true))⟩,
    ⟨(some 64),.fa 10 (.t 2),(some (63,false))⟩,
    ⟨(some 65),.load 1 false (.t 64),(some (63,false))⟩,
    ⟨(some 66),.len false (.t 65),(some (63,false))⟩,
    ⟨(some 67),.fa 11 (.t 2),(some (63,false))⟩,
    ⟨(some 68),.load 1 false (.t 67),(some (63,false))⟩,
    ⟨(some 69),.len false (.t 68),(some (63,false))⟩,
    ⟨(some 70),.bin .add (.t 66) (.t 69),(some (63,false))⟩,
    ⟨(some 71),.bin .eql (.t 70) (.k (.d (.lit (.int .i64 0)))),(some (63,false))⟩,
    ⟨(some 72),.pick (.t 63) (.k (.d (.lit (.bool true)))) (.t 71),(some (60,true))⟩,
    ⟨(some 73),.pick (.t 60) (.t 72) (.k (.d (.lit (.bool false)))),none⟩,
    ⟨(some 4),.mv (.t 73),none⟩] [4]) (
   .ret))
def rs85:List RV:=[.t 4 false]
theorem k85:okFn G.tab Tryz.f85 2 c85 rs85=true:=by kernel_rfl
def c86:Cd:=
 .seq (
  .ops [
   ⟨(some 2),.mv (.k (.d (.lit (.int .i64 0)))),none⟩] [0]) (
  .seq (
   .block 0 (
    .seq (
     .ops [
      ⟨(some 6),.mv (.t 0),none⟩,
      ⟨(some 7),.len false (.t 6),none⟩,
      ⟨(some 8),.bin .gtr (.t 7) (.k (.d (.lit (.int .i64 16)))),none⟩,
      ⟨(some 5),.mv (.t 8),none⟩] [0,5]) (
     .cond (.t 5) (
      .seq (
       .ops [
        ⟨(some 2),.mv (.k (.d (.lit (.int .i64 2)))),none⟩] [2]) (
       .ret)) (
      .seq (
       .ops [
        ⟨(some 10),.mv (.t 0),none⟩,
        ⟨(some 11),.len false (.t 10),none⟩,
        ⟨(some 12),.bin .eql (.t 11) (.k (.d (.lit (.int .i64 0)))),none⟩,
        ⟨(some 9),.mv (.t 12),none⟩] [0,9]) (
       .cond (.t 9) (
        .seq (
         .ops [
          ⟨(some 2),.mv (.k (.d (.lit (.int .i64 1)))),none⟩] [2]) (
         .ret)) (
        .skip)))))) (
   .seq (
    .seq (
     .ops [
      ⟨(some 13),.mv (.t 0),none⟩,
      ⟨(some 14),.len false (.t 13),none⟩,
      ⟨(some 15),.mv (.k (.d (.lit (.int .i64 0)))),none⟩] [13,14,15]) (
     .block 1 (
      .loop (
       .seq (
        .ops [
         ⟨(some 16),.bin .lss (.t 15) (.t 14),none⟩] [13,14,15,16]) (
        .seq (
         .cond (.t 16) (
          .skip) (
          .exit 1)) (
         .seq (
          .block 2 (
           .seq (
            .ops [
             ⟨(some 17),.ia 4 (.t 13) (.t 15),none⟩,
             ⟨(some 18),.load 4 true (.t 17),none⟩,
             ⟨(some 4),.new 45 [.d (.lit (.int .i64 0)),.d (.lit (.int .i64 0)),.d (.lit (.int .i64 0)),.d (.lit (.bool false))],none⟩,
             ⟨none,.sto 4 (.t 4) (.t 18),none⟩] [4,13,14,15]) (
            .seq (
             .ops [
              ⟨(some 19),.fa 0 (.t 4),none⟩,
              ⟨(some 20),.load 1 false (.t 19),none⟩,
              ⟨(some 21),.bin .lss (.t 20) (.k (.d (.lit (.int .i64 0)))),none⟩,
              ⟨(some 22),.mv (.t 21),none⟩,
              ⟨(some 23),.fa 0 (.t 4),(some (22,false))⟩,
              ⟨(some 24),.load 1 false (.t 23),(some (22,false))⟩,
              ⟨(some 25),.fa 1 (.t 4),(some (22,false))⟩,
              ⟨(some 26),.load 1 false (.t 25),(some (22,false))⟩,
              ⟨(some 27),.bin .gtr (.t 24) (.t 26),(some (22,false))⟩,
              ⟨(some 28),.pick (.t 22) (.k (.d (.lit (.bool true)))) (.t 27),none⟩,
              ⟨(some 29),.mv (.t 28),none⟩,
              ⟨(some 30),.fa 1 (.t 4),(some (29,false))⟩,
              ⟨(some 31),.load 1 false (.t 30),(some (29,false))⟩,
              ⟨(some 32),.bin .gtr (.t 31) (.k (.d (.lit (.int .i64 65535)))),(some (29,false))⟩,
              ⟨(some 33),.pick (.t 29) (.k (.d (.lit (.bool true)))) (.t 32),none⟩,
              ⟨(some 34),.mv (.t 33),none⟩,
              ⟨(some 35),.fa 2 (.t 4),(some (34,false))⟩,
              ⟨(some 36),.load 1 false (.t 35),(some (34,false))⟩,
              ⟨(some 37),.bin .lss (.t 36) (.k (.d (.lit (.int .i64 0)))),(some (34,false))⟩,
              ⟨(some 38),.pick (.t 34) (.k (.d (.lit (.bool true)))) (.t 37),none⟩,
              ⟨(some 39),.mv (.t 38),none⟩,
              ⟨(some 40),.fa 2 (.t 4),(some (39,false))⟩,
              ⟨(some 41),.load 1 false (.t 40),(some (39,false))⟩,
              ⟨(some 42),.bin .gtr (.t 41) (.k (.d (.lit (.int .i64 1000)))),(some (39,false))⟩,
              ⟨(some 43),.pick (.t 39) (.k (.d (.lit (.bool true)))) (.t 42),none⟩] [13,14,15,43]) (
             .cond (.t 43) (
              .seq (
               .ops [
                ⟨(some 2),.mv (.k (.d (.lit (.int .i64 1)))),none⟩] [2]) (
               .ret)) (
              .skip))))) (
          .ops [
           ⟨(some 44),.bin .add (.t 15) (.k (.d (.lit (.int .i64 1)))),none⟩,
           ⟨(some 15),.mv (.t 44),none⟩] [13,14,15]))))))) (
    .seq (
     .ops [
      ⟨(some 2),.mv (.k (.d (.lit (.int .i64 0)))),none⟩] [2]) (
     .ret))))
def rs86:List RV:=[.t 2 false]
theorem k86:okFn G.tab Tryz.f86 1 c86 rs86=true:=by kernel_rfl
def c87:Cd:=
 .seq (
  .ops [
   ⟨(some 2),.mv (.k (.d (.lit (.bool false)))),none⟩] [0]) (
  .seq (
   .ops [
    ⟨(some 3),.mv (.t 0),none⟩,
    ⟨(some 4),.bld [.d (.lit (.int .i64 0)),.d (.lit (.int .i64 0)),.d (.lit (.string ⟨#[]⟩)),.nil] [(0,1,.k (.d (.lit (.int .i64 2)))),(2,1,.t 3)],none⟩,
    ⟨(some 5),.call 89 [.t 4],none⟩,
    ⟨(some 6),.bin .eql (.t 5) (.k (.d (.lit (.int .i64 0)))),none⟩,
    ⟨(some 2),.mv (.t 6),none⟩] [2]) (
   .ret))
def rs87:List RV:=[.t 2 false]
theorem k87:okFn G.tab Tryz.f87 1 c87 rs87=true:=by kernel_rfl
def c58:Cd:=
 .seq (
  .ops [
   ⟨(some 2),.box 53 (.t 0),none⟩,
   ⟨(some 3),.box 91 (.t 1),none⟩,
   ⟨(some 4),.mv (.k (.d (.lit (.int .i64 0)))),none⟩] [2,3]) (
  .seq (
   .raw [
    ⟨(some 11),.call 84 [],none⟩,
    ⟨(some 12),.fa 0 (.t 2),none⟩,
    ⟨(some 13),.load 1 false (.t 12),none⟩,
    ⟨(some 14),.mlk false true (.agg [.d (.lit (.bool false)),.d (.lit (.bool false)),.d (.lit (.bool false)),.d (.lit (.bool false)),.d (.lit (.bool false)),.d (.lit (.bool false)),.d (.lit (.bool false))]) (.t 11) (.t 13),none⟩,
    ⟨(some 10),.mv (.t 14),none⟩,
    ⟨(some 15),.ext (.t 10) 0,none⟩,
    ⟨(some 16),.ext (.t 10) 1,none⟩,
    ⟨(some 5),.new 112 [.d (.lit (.bool false)),.d (.lit (.bool false)),.d (.lit (.bool false)),.d (.lit (.bool false)),.d (.lit (.bool false)),.d (.lit (.bool false)),.d (.lit (.bool false))],none⟩,
    ⟨none,.sto 7 (.t 5) (.t 15),none⟩,
    ⟨(some 6),.mv (.t 16),none⟩] [[],[],[1],[0,2],[3],[4],[4],[],[7,5,0,0,1,2,3,4,5,7],[6,8,0,1,2,3,4,5,6,7,8]] [2,3,5,6]) (
   .seq (
    .seq (
     .ops [
      ⟨(some 17),.mv (.t 6),none⟩,
      ⟨(some 18),.un .not (.t 17),none⟩,
      ⟨(some 19),.mv (.t 18),none⟩,
      ⟨(some 20),.load 12 true (.t 2),(some (19,false))⟩,
      ⟨(some 21),.load 7 true (.t 5),(some (19,false))⟩,
      ⟨(some 22),.call 85 [.t 20,.t 21],(some (19,false))⟩,
      ⟨(some 23),.un .not (.t 22),(some (19,false))⟩,
      ⟨(some 24),.pick (.t 19) (.k (.d (.lit (.bool true)))) (.t 23),none⟩,
      ⟨(some 25),.mv (.t 24),none⟩,
      ⟨(some 26),.fa 0 (.t 3),(some (25,false))⟩,
      ⟨(some 27),.load 1 false (.t 26),(some (25,false))⟩,
      ⟨(some 28),.bin .gtr (.t 27) (.k (.d (.lit (.int .i64 4)))),(some (25,false))⟩,
      ⟨(some 29),.pick (.t 25) (.k (.d (.lit (.bool true)))) (.t 28),none⟩,
      ⟨(some 30),.mv (.t 29),none⟩,
      ⟨(some 31),.fa 0 (.t 3),(some (30,false))⟩,
      ⟨(some 32),.load 1 false (.t 31),(some (30,false))⟩,
      ⟨(some 33),.bin .gtr (.t 32) (.k (.d (.lit (.int .i64 0)))),(some (30,false))⟩,
      ⟨(some 34),.mv (.t 33),(some (30,false))⟩,
      ⟨(some 35),.fa 0 (.t 2),(some (34,true))⟩,
      ⟨(some 36),.load 1 false (.t 35),(some (34,true))⟩,
      ⟨(some 37),.bin .eql (.t 36) (.k (.d (.lit (.int .i64 3)))),(some (34,true))⟩,
      ⟨(some 38),.mv (.t 37),(some (34,true))⟩,
      ⟨(some 39),.fa 0 (.t 2),(some (38,false))⟩,
      ⟨(some 40),.load 1 false (.t 39),(some (38,false))⟩,
      ⟨(some 41),.bin .eql (.t 40) (.k (.d (.lit (.int .i64 6)))),(some (38,false))⟩,
      ⟨(some 42),.pick (.t 38) (.k (.d (.lit (.bool true)))) (.t 41),(some (34,true))⟩,
      ⟨(some 43),.pick (.t 34) (.t 42) (.k (.d (.lit (.bool false)))),(some (30,false))⟩,
      ⟨(some 44),.pick (.t 30) (.k (.d (.lit (.bool true)))) (.t 43),none⟩] [2,44]) (
     .cond (.t 44) (
      .seq (
       .ops [
        ⟨(some 4),.mv (.k (.d (.lit (.int .i64 1)))),none⟩] [4]) (
       .ret)) (
      .skip))) (
    .seq (
     .seq (
      .ops [
       ⟨(some 45),.fa 0 (.t 2),none⟩,
       ⟨(some 46),.load 1 false (.t 45),none⟩] [2,46]) (
      .block 0 (
       .seq (
        .ops [
         ⟨(some 51),.bin .eql (.t 46) (.k (.d (.lit (.int .i64 3)))),none⟩,
         ⟨(some 50),.mv (.t 51),none⟩] [2,46,50]) (
        .cond (.t 50) (
         .seq (
          .seq (
           .ops [
            ⟨(some 52),.fa 7 (.t 2),none⟩,
            ⟨(some 53),.load 1 false (.t 52),none⟩,
            ⟨(some 54),.call 86 [.t 53],none⟩,
            ⟨(some 7),.mv (.t 54),none⟩] [2,7]) (
           .seq (
            .ops [
             ⟨(some 55),.mv (.t 7),none⟩,
             ⟨(some 56),.bin .neq (.t 55) (.k (.d (.lit (.int .i64 0)))),none⟩] [2,7,56]) (
            .cond (.t 56) (
             .seq (
              .ops [
               ⟨(some 57),.mv (.t 7),none⟩,
               ⟨(some 4),.mv (.t 57),none⟩] [4]) (
              .ret)) (
             .skip)))) (
          .seq (
           .ops [
            ⟨(some 58),.fa 5 (.t 2),none⟩,
            ⟨(some 59),.load 1 false (.t 58),none⟩,
            ⟨(some 60),.call 87 [.t 59],none⟩,
            ⟨(some 61),.un .not (.t 60),none⟩] [61]) (
           .cond (.t 61) (
            .seq (
             .ops [
              ⟨(some 4),.mv (.k (.d (.lit (.int .i64 7)))),none⟩] [4]) (
             .ret)) (
            .skip)))) (
         .seq (
          .ops [
           ⟨(some 63),.bin .eql (.t 46) (.k (.d (.lit (.int .i64 6)))),none⟩,
           ⟨(some 62),.mv (.t 63),none⟩] [2,46,62]) (
          .cond (.t 62) (
           .seq (
            .seq (
             .ops [
              ⟨(some 64),.fa 10 (.t 2),none⟩,
              ⟨(some 65),.load 1 false (.t 64),none⟩,
              ⟨(some 66),.len false (.t 65),none⟩,
              ⟨(some 67),.bin .eql (.t 66) (.k (.d (.lit (.int .i64 0)))),none⟩,
              ⟨(some 68),.mv (.t 67),none⟩,
              ⟨(some 69),.fa 11 (.t 2),(some (68,false))⟩,
              ⟨(some 70),.load 1 false (.t 69),(some (68,false))⟩,
              ⟨(some 71),.len false (.t 70),(some (68,false))⟩,
              ⟨(some 72),.bin .eql (.t 71) (.k (.d (.lit (.int .i64 0)))),(some (68,false))⟩,
              ⟨(some 73),.pick (.t 68) (.k (.d (.lit (.bool true)))) (.t 72),none⟩] [2,73]) (
             .cond (.t 73) (
              .seq (
               .ops [
                ⟨(some 4),.mv (.k (.d (.lit (.int .i64 1)))),none⟩] [4]) (
               .ret)) (
              .skip))) (
            .seq (
             .ops [
              ⟨(some 74),.fa 10 (.t 2),none⟩,
              ⟨(some 75),.load 1 false (.t 74),none⟩,
              ⟨(some 76),.fa 11 (.t 2),none⟩,
              ⟨(some 77),.load 1 false (.t 76),none⟩,
              ⟨(some 78),.mks 43 1 [.t 75,.t 77],none⟩,
              ⟨(some 79),.call 88 [.t 78],none⟩,
              ⟨(some 80),.len false (.t 79),none⟩,
              ⟨(some 81),.mv (.k (.d (.lit (.int .i64 0)))),none⟩] [79,80,81]) (
             .block 1 (
              .loop (
               .seq (
                .ops [
                 ⟨(some 82),.bin .lss (.t 81) (.t 80),none⟩] [79,80,81,82]) (
                .seq (
                 .cond (.t 82) (
                  .skip) (
                  .exit 1)) (
                 .seq (
                  .block 2 (
                   .seq (
                    .ops [
                     ⟨(some 83),.ia 1 (.t 79) (.t 81),none⟩,
                     ⟨(some 84),.load 1 false (.t 83),none⟩,
                     ⟨(some 9),.mv (.t 84),none⟩] [9,79,80,81]) (
                    .seq (
                     .ops [
                      ⟨(some 85),.mv (.t 9),none⟩,
                      ⟨(some 86),.call 87 [.t 85],none⟩,
                      ⟨(some 87),.un .not (.t 86),none⟩] [79,80,81,87]) (
                     .cond (.t 87) (
                      .seq (
                       .ops [
                        ⟨(some 4),.mv (.k (.d (.lit (.int .i64 7)))),none⟩] [4]) (
                       .ret)) (
                      .skip))))) (
                  .ops [
                   ⟨(some 88),.bin .add (.t 81) (.k (.d (.lit (.int .i64 1)))),none⟩,
                   ⟨(some 81),.mv (.t 88),none⟩] [79,80,81])))))))) (
           .seq (
            .ops [
             ⟨(some 90),.bin .eql (.t 46) (.k (.d (.lit (.int .i64 5)))),none⟩,
             ⟨(some 89),.mv (.t 90),none⟩] [2,89]) (
            .cond (.t 89) (
             .seq (
              .ops [
               ⟨(some 91),.fa 5 (.t 2),none⟩,
               ⟨(some 92),.load 1 false (.t 91),none⟩,
               ⟨(some 93),.call 65 [.t 92],none⟩,
               ⟨(some 94),.un .not (.t 93),none⟩,
               ⟨(some 95),.mv (.t 94),none⟩,
               ⟨(some 96),.fa 6 (.t 2),(some (95,false))⟩,
               ⟨(some 97),.load 1 false (.t 96),(some (95,false))⟩,
               ⟨(some 98),.call 65 [.t 97],(some (95,false))⟩,
               ⟨(some 99),.un .not (.t 98),(some (95,false))⟩,
               ⟨(some 100),.pick (.t 95) (.k (.d (.lit (.bool true)))) (.t 99),none⟩] [100]) (
              .cond (.t 100) (
               .seq (
                .ops [
                 ⟨(some 4),.mv (.k (.d (.lit (.int .i64 7)))),none⟩] [4]) (
                .ret)) (
               .skip))) (
             .seq (
              .ops [
               ⟨(some 47),.fa 1 (.t 2),none⟩,
               ⟨(some 48),.load 4 true (.t 47),none⟩,
               ⟨(some 49),.call 89 [.t 48],none⟩,
               ⟨(some 4),.mv (.t 49),none⟩] [4]) (
              .ret)))))))))) (
     .seq (
      .ops [
       ⟨(some 4),.mv (.k (.d (.lit (.int .i64 0)))),none⟩] [4]) (
      .ret)))))
def rs58:List RV:=[.t 4 false]
theorem k58:okFn G.tab Tryz.f58 2 c58 rs58=true:=by kernel_rfl
def c114:Cd:=
 .seq (
  .ops [
   ⟨(some 1),.box 51 (.t 0),none⟩,
   ⟨(some 2),.mv (.k (.d (.lit (.bool false)))),none⟩] [1]) (
  .seq (
   .ops [
    ⟨(some 3),.fa 0 (.t 1),none⟩,
    ⟨(some 4),.load 1 false (.t 3),none⟩,
    ⟨(some 5),.bin .eql (.t 4) (.k (.d (.lit (.int .i64 0)))),none⟩,
    ⟨(some 6),.mv (.t 5),none⟩,
    ⟨(some 7),.fa 1 (.t 1),(some (6,true))⟩,
    ⟨(some 8),.load 1 false (.t 7),(some (6,true))⟩,
    ⟨(some 9),.bin .eql (.t 8) (.k (.d (.lit (.int .i64 0)))),(some (6,true))⟩,
    ⟨(some 10),.pick (.t 6) (.t 9) (.k (.d (.lit (.bool false)))),none⟩,
    ⟨(some 11),.mv (.t 10),none⟩,
    ⟨(some 12),.fa 2 (.t 1),(some (11,true))⟩,
    ⟨(some 13),.load 1 false (.t 12),(some (11,true))⟩,
    ⟨(some 14),.bin .eql (.t 13) (.k (.d (.lit (.string ⟨#[]⟩)))),(some (11,true))⟩,
    ⟨(some 15),.pick (.t 11) (.t 14) (.k (.d (.lit (.bool false)))),none⟩,
    ⟨(some 16),.mv (.t 15),none⟩,
    ⟨(some 17),.fa 3 (.t 1),(some (16,true))⟩,
    ⟨(some 18),.load 1 false (.t 17),(some (16,true))⟩,
    ⟨(some 19),.len false (.t 18),(some (16,true))⟩,
    ⟨(some 20),.bin .eql (.t 19) (.k (.d (.lit (.int .i64 0)))),(some (16,true))⟩,
    ⟨(some 21),.pick (.t 16) (.t 20) (.k (.d (.lit (.bool false)))),none⟩,
    ⟨(some 2),.mv (.t 21),none⟩] [2]) (
   .ret))
def rs114:List RV:=[.t 2 false]
theorem k114:okFn G.tab Tryz.f114 1 c114 rs114=true:=by kernel_rfl
end Go.Proofs.YtcbahpllcfbkmaaGreatDoor
