import Derived.Test.YthoebpnbhgmoiaaGreatDoorProg
import Derived.Test.YthoebpnbhgmoiaaGreatDoorA20
import Derived.KernelRfl
import Derived.Test.YthoebpnbhgmoiaaGreatDoorK3
import Derived.Test.YthoebpnbhgmoiaaGreatDoorBr8
namespace Go.Proofs.YthoebpnbhgmoiaaGreatDoor
open Go.RowKit
set_option maxRecDepth 100000
set_option linter.unusedVariables false
set_option linter.unusedSimpArgs false
def c16b:Cd:=
 .seq (
  .ops [
   ⟨(some 4),.mv (.k (.d (.lit (.bool false)))),none⟩] [0,1]) (
  .seq (
   .seq (
    .ops [
     ⟨(some 8),.mv (.t 0),none⟩,
     ⟨(some 9),.len false (.t 8),none⟩,
     ⟨(some 10),.mv (.t 1),none⟩,
     ⟨(some 11),.len false (.t 10),none⟩,
     ⟨(some 12),.bin .neq (.t 9) (.t 11),none⟩] [0,1,12]) (
    .cond (.t 12) (
     .seq (
      .ops [
       ⟨(some 4),.mv (.k (.d (.lit (.bool false)))),none⟩] [4]) (
      .ret)) (
     .skip))) (
   .seq (
    .seq (
     .ops [
      ⟨(some 5),.mv (.k (.d (.lit (.int .i64 0)))),none⟩] [0,1,5]) (
     .block 0 (
      .loop (
       .seq (
        .seq (
         .ops [
          ⟨(some 13),.mv (.t 5),none⟩,
          ⟨(some 14),.mv (.t 0),none⟩,
          ⟨(some 15),.len false (.t 14),none⟩,
          ⟨(some 16),.bin .lss (.t 13) (.t 15),none⟩] [0,1,5,16]) (
         .cond (.t 16) (
          .skip) (
          .exit 0))) (
        .seq (
         .block 1 (
          .seq (
           .raw [
            ⟨(some 19),.mv (.t 0),none⟩,
            ⟨(some 20),.mv (.t 5),none⟩,
            ⟨(some 21),.ia 12 (.t 19) (.t 20),none⟩,
            ⟨(some 22),.load 12 true (.t 21),none⟩,
            ⟨(some 23),.mv (.t 1),none⟩,
            ⟨(some 24),.mv (.t 5),none⟩,
            ⟨(some 25),.ia 12 (.t 23) (.t 24),none⟩,
            ⟨(some 26),.load 12 true (.t 25),none⟩,
            ⟨(some 6),.new 51 [.d (.lit (.int .i64 0)),.d (.lit (.int .i64 0)),.d (.lit (.int .i64 0)),.d (.lit (.string ⟨#[]⟩)),.nil,.d (.lit (.string ⟨#[]⟩)),.d (.lit (.string ⟨#[]⟩)),.nil,.nil,.nil,.nil,.nil],none⟩,
            ⟨(some 7),.new 51 [.d (.lit (.int .i64 0)),.d (.lit (.int .i64 0)),.d (.lit (.int .i64 0)),.d (.lit (.string ⟨#[]⟩)),.nil,.d (.lit (.string ⟨#[]⟩)),.d (.lit (.string ⟨#[]⟩)),.nil,.nil,.nil,.nil,.nil],none⟩,
            ⟨none,.sto 12 (.t 6) (.t 22),none⟩,
            ⟨none,.sto 12 (.t 7) (.t 26),none⟩] [[],[],[0,1],[2],[],[],[4,5],[6],[],[],[8,3,0,1,2,3,8,9],[9,7,10,0,1,2,3,4,5,6,7,8,9,10]] [0,1,5,6,7]) (
           .seq (
            .seq (
             .ops [
              ⟨(some 27),.fa 0 (.t 6),none⟩,
              ⟨(some 28),.load 1 false (.t 27),none⟩,
              ⟨(some 29),.fa 0 (.t 7),none⟩,
              ⟨(some 30),.load 1 false (.t 29),none⟩,
              ⟨(some 31),.bin .neq (.t 28) (.t 30),none⟩,
              ⟨(some 32),.mv (.t 31),none⟩,
              ⟨(some 33),.fa 5 (.t 6),(some (32,false))⟩,
              ⟨(some 34),.load 1 false (.t 33),(some (32,false))⟩,
              ⟨(some 35),.fa 5 (.t 7),(some (32,false))⟩,
              ⟨(some 36),.load 1 false (.t 35),(some (32,false))⟩,
              ⟨(some 37),.bin .neq (.t 34) (.t 36),(some (32,false))⟩,
              ⟨(some 38),.pick (.t 32) (.k (.d (.lit (.bool true)))) (.t 37),none⟩,
              ⟨(some 39),.mv (.t 38),none⟩,
              ⟨(some 40),.fa 6 (.t 6),(some (39,false))⟩,
              ⟨(some 41),.load 1 false (.t 40),(some (39,false))⟩,
              ⟨(some 42),.fa 6 (.t 7),(some (39,false))⟩,
              ⟨(some 43),.load 1 false (.t 42),(some (39,false))⟩,
              ⟨(some 44),.bin .neq (.t 41) (.t 43),(some (39,false))⟩,
              ⟨(some 45),.pick (.t 39) (.k (.d (.lit (.bool true)))) (.t 44),none⟩,
              ⟨(some 46),.mv (.t 45),none⟩,
              ⟨(some 47),.fa 1 (.t 6),(some (46,false))⟩,
              ⟨(some 48),.load 4 true (.t 47),(some (46,false))⟩,
              ⟨(some 49),.fa 1 (.t 7),(some (46,false))⟩,
              ⟨(some 50),.load 4 true (.t 49),(some (46,false))⟩,
              ⟨(some 51),.call 20 [.t 48,.t 50],(some (46,false))⟩,
              ⟨(some 52),.un .not (.t 51),(some (46,false))⟩,
              ⟨(some 53),.pick (.t 46) (.k (.d (.lit (.bool true)))) (.t 52),none⟩,
              ⟨(some 54),.mv (.t 53),none⟩,
              ⟨(some 55),.fa 7 (.t 6),(some (54,false))⟩,
              ⟨(some 56),.load 1 false (.t 55),(some (54,false))⟩,
              ⟨(some 57),.fa 7 (.t 7),(some (54,false))⟩,
              ⟨(some 58),.load 1 false (.t 57),(some (54,false))⟩,
              ⟨(some 59),.call 45 [.t 56,.t 58],(some (54,false))⟩,
              ⟨(some 60),.un .not (.t 59),(some (54,false))⟩,
              ⟨(some 61),.pick (.t 54) (.k (.d (.lit (.bool true)))) (.t 60),none⟩,
              ⟨(some 62),.mv (.t 61),none⟩,
              ⟨(some 63),.fa 10 (.t 6),(some (62,false))⟩,
              ⟨(some 64),.load 1 false (.t 63),(some (62,false))⟩,
              ⟨(some 65),.fa 10 (.t 7),(some (62,false))⟩,
              ⟨(some 66),.load 1 false (.t 65),(some (62,false))⟩,
              ⟨(some 67),.call 46 [.t 64,.t 66],(some (62,false))⟩,
              ⟨(some 68),.un .not (.t 67),(some (62,false))⟩,
              ⟨(some 69),.pick (.t 62) (.k (.d (.lit (.bool true)))) (.t 68),none⟩,
              ⟨(some 70),.mv (.t 69),none⟩,
              ⟨(some 71),.fa 11 (.t 6),(some (70,false))⟩,
              ⟨(some 72),.load 1 false (.t 71),(some (70,false))⟩,
              ⟨(some 73),.fa 11 (.t 7),(some (70,false))⟩,
              ⟨(some 74),.load 1 false (.t 73),(some (70,false))⟩,
              ⟨(some 75),.call 46 [.t 72,.t 74],(some (70,false))⟩,
              ⟨(some 76),.un .not (.t 75),(some (70,false))⟩,
              ⟨(some 77),.pick (.t 70) (.k (.d (.lit (.bool true)))) (.t 76),none⟩] [0,1,5,6,7,77]) (
             .cond (.t 77) (
              .seq (
               .ops [
                ⟨(some 4),.mv (.k (.d (.lit (.bool false)))),none⟩] [4]) (
               .ret)) (
              .skip))) (
            .seq (
             .ops [
              ⟨(some 78),.fa 8 (.t 6),none⟩,
              ⟨(some 79),.load 1 false (.t 78),none⟩,
              ⟨(some 80),.fa 8 (.t 7),none⟩,
              ⟨(some 81),.load 1 false (.t 80),none⟩,
              ⟨(some 82),.call 16 [.t 79,.t 81],none⟩,
              ⟨(some 83),.un .not (.t 82),none⟩,
              ⟨(some 84),.mv (.t 83),none⟩,
              ⟨(some 85),.fa 9 (.t 6),(some (84,false))⟩,
              ⟨(some 86),.load 1 false (.t 85),(some (84,false))⟩,
              ⟨(some 87),.fa 9 (.t 7),(some (84,false))⟩,
              ⟨(some 88),.load 1 false (.t 87),(some (84,false))⟩,
              ⟨(some 89),.call 16 [.t 86,.t 88],(some (84,false))⟩,
              ⟨(some 90),.un .not (.t 89),(some (84,false))⟩,
              ⟨(some 91),.pick (.t 84) (.k (.d (.lit (.bool true)))) (.t 90),none⟩] [0,1,5,91]) (
             .cond (.t 91) (
              .seq (
               .ops [
                ⟨(some 4),.mv (.k (.d (.lit (.bool false)))),none⟩] [4]) (
               .ret)) (
              .skip)))))) (
         .ops [
          ⟨(some 17),.mv (.t 5),none⟩,
          ⟨(some 18),.bin .add (.t 17) (.k (.d (.lit (.int .i64 1)))),none⟩,
          ⟨(some 5),.mv (.t 18),none⟩] [0,1,5])))))) (
    .seq (
     .ops [
      ⟨(some 4),.mv (.k (.d (.lit (.bool true)))),none⟩] [4]) (
     .ret))))
def rs16b:List RV:=[.t 4 false]
theorem k16b:okFn G.tab Tryz.f16 2 c16b rs16b=true:=by kernel_rfl
end Go.Proofs.YthoebpnbhgmoiaaGreatDoor
namespace Go.Proofs.YthoebpnbhgmoiaaGreatDoor
open Go.RowKit
mutual
def sameE:Ex→Ex→Bool
 | .mk o n s l,.mk o' n' s' l'=>(decide (o=o')&&(decide (n=n')&&(decide (s=s')&&sameL l l')))
def sameL:List Ex→List Ex→Bool
 | [],[]=>true
 | a::r,b::r'=>sameE a b&&sameL r r'
 | _,_=>false
end
theorem sameL_len:∀{l l':List Ex},l.length≠l'.length→sameL l l'=false
 | [],[],h=>absurd rfl h
 | a::r,b::r',h=>by simp only[sameL,sameL_len (l:=r) (l':=r') (by simpa using h),Bool.and_false]
 | [],_::_,_=>rfl
 | _::_,[],_=>rfl
theorem sameE_eq(a b:Ex):sameE a b=(decide (a.op=b.op)&&(decide (a.num=b.num)&&(decide (a.name=b.name)&&sameL a.args b.args))):=by
 cases a;cases b;rfl
theorem Ex.ind2{P:Ex→Prop}(h:∀e:Ex,(∀a,a∈e.args→P a)→P e):∀e,P e:=Ex.ind fun o n s l ih=>h (.mk o n s l) ih
theorem sameL_step{l l':List Ex}{j:Nat}(h:j<l.length)(h':j<l'.length):sameL (l.drop j) (l'.drop j)=(sameE l[j] l'[j]&&sameL (l.drop (j+1)) (l'.drop (j+1))):=by
 rw[List.drop_eq_getElem_cons h,List.drop_eq_getElem_cons h'];rfl
theorem rsame_fun(a:Ex):∀(b:Ex) (σ:List (List V)),Fun G 20 [vex a,vex b] σ (RetV (vbool (sameE a b)) σ):=by
 induction a using Ex.ind2 with
 | h a ih=>
 intro b σ;refine fun_code Tryz.func20 k20 (by simp only[vex_eq];rfl) fun hb hw=>?_;have hq:=sameE_eq a b;have h0:=hw 0 (by simp);simp only[List.getElem_cons_zero,vex_eq]at h0;have hm:=wf_len (wf_cell h0 3 (by simp));simp only[List.length_map]at hm
 have out:∀(σ' l:List (List V)) (b1:Bool),sameE a b=b1→σ'=σ++l→fin σ.length rs20 (RetV (vbool (sameE a b)) σ) .ret [(4,.d (.lit (.bool b1)))] σ':=fun σ' l b1 h e=>by
  subst e;exact fin_ret hb rfl rfl List.take_left ⟨by rw[h];rfl,rfl⟩
 delta c20 oM oV kI kS kT kF;simp -dsimp -implicitDefEqProofs only[aw,slots0,V.copy,V.cells,V.boxable,Nat.reduceLeDiff,eq_self,reduceIte,reduceCtorEq,Nat.reduceBEq,Nat.reduceLT,Nat.reduceEqDiff,Nat.reduceAdd,vex_eq];refine iteT_intro (fun h1=>?_) (fun h1=>?_)
 ·simp -dsimp -implicitDefEqProofs only[aw,V.copy,Nat.reduceLeDiff,cond_false,eq_self,reduceIte,Nat.reduceLT,Nat.reduceEqDiff,Nat.reduceAdd];refine iteT_intro (fun h2=>?_) (fun h2=>?_)
  ·simp -dsimp -implicitDefEqProofs only[aw,V.copy,Nat.reduceLeDiff,cond_false,eq_self,reduceIte,Nat.reduceLT,Nat.reduceEqDiff,Nat.reduceAdd];refine iteT_intro (fun h3=>?_) (fun h3=>?_)
   ·simp -dsimp -implicitDefEqProofs only[aw,V.copy,Nat.reduceLeDiff,cond_false,eq_self,reduceIte,Nat.reduceBEq,Nat.reduceLT,Nat.reduceEqDiff,Nat.reduceAdd,Int.ofNat_inj];refine iteT_intro (fun h4=>?_) (fun h4=>?_)
    ·simp -dsimp -implicitDefEqProofs only[aw,V.copy,eq_self,reduceIte,Nat.reduceBEq,Nat.reduceLT,Nat.reduceEqDiff];exact out _ _ _ (by rw[hq,sameL_len (by simpa using h4)];simp) rfl
    ·simp -dsimp -implicitDefEqProofs only[aw,V.copy,eq_self,reduceIte,Nat.reduceBEq,Nat.reduceLT,Nat.reduceEqDiff];have h4:a.args.length=b.args.length:=by simpa using h4
     generalize hbx:[[V.d (dint a.op),V.d (dint a.num),V.d (dstr a.name),V.d (D.sl (List.map dex a.args))],[V.d (dint b.op),V.d (dint b.num),V.d (dstr b.name),V.d (D.sl (List.map dex b.args))]]=bx at out ⊢;refine awp_for (R:=fun(j:Nat) ρ σ'=>ρ=[(2,.ptr σ.length 0),(3,.ptr (σ.length+1) 0),(5,vint .i64 j)]∧σ'=σ++bx∧sameL a.args b.args=sameL (a.args.drop j) (b.args.drop j)) a.args.length ⟨rfl,rfl,by simp⟩ ?_ _;rintro j ρ' σ' hj ⟨rfl,rfl,hrec⟩;subst hbx;by_cases hlt:j<a.args.length
     ·have hlt':j<b.args.length:=by omega
      simp -dsimp -implicitDefEqProofs only[aw,V.copy,V.lend,V.lend1,Nat.reduceLeDiff,eq_self,reduceIte,Nat.reduceBEq,Nat.reduceLT,Nat.reduceEqDiff,Nat.reduceAdd,Int.ofNat_lt,hlt,decide_true,List.getElem?_eq_getElem hlt,List.getElem?_eq_getElem hlt',dex_eq];refine calm_ret (by simpa only[vex_eq]using ih _ (List.getElem_mem hlt) _ _) ?_;simp -dsimp -implicitDefEqProofs only[aw,V.copy,eq_self,reduceIte,Nat.reduceBEq,Nat.reduceLT,Nat.reduceEqDiff];refine iteT_intro (fun hs=>?_) (fun hs=>?_)
      ·simp -dsimp -implicitDefEqProofs only[aw,V.copy,eq_self,reduceIte,Nat.reduceBEq,Nat.reduceLT,Nat.reduceEqDiff];exact out _ _ _ (by rw[hq,hrec,sameL_step hlt hlt'];simp_all) rfl
      ·simp -dsimp -implicitDefEqProofs only[aw,V.copy,eq_self,reduceIte,Nat.reduceBEq,Nat.reduceLT,Nat.reduceEqDiff,wrap_nat hlt hm];refine⟨hlt,Nxt.same (by simp) (boxesBelow_app hb rfl) ?_ ?_⟩
       ·simp[slotsBelow,V.under]
       ·exact⟨rfl,rfl,by rw[hrec,sameL_step hlt hlt'];simp_all⟩
     ·simp -dsimp -implicitDefEqProofs only[aw,V.copy,Nat.reduceLeDiff,eq_self,reduceIte,Nat.reduceBEq,Nat.reduceLT,Nat.reduceEqDiff,Nat.reduceAdd,Int.ofNat_lt,hlt,decide_false];exact out _ _ _ (by rw[hq,hrec,List.drop_of_length_le (by omega),List.drop_of_length_le (by omega)];simp_all[sameL]) rfl
   ·simp -dsimp -implicitDefEqProofs only[aw,V.copy,eq_self,reduceIte,Nat.reduceBEq,Nat.reduceLT,Nat.reduceEqDiff];exact out _ _ _ (by rw[hq];simp_all) rfl
  ·simp -dsimp -implicitDefEqProofs only[aw,V.copy,eq_self,reduceIte,Nat.reduceBEq,Nat.reduceLT,Nat.reduceEqDiff];exact out _ _ _ (by rw[hq];simp_all) rfl
 ·simp -dsimp -implicitDefEqProofs only[aw,V.copy,eq_self,reduceIte,Nat.reduceBEq,Nat.reduceLT,Nat.reduceEqDiff];exact out _ _ _ (by rw[hq];simp_all) rfl
end Go.Proofs.YthoebpnbhgmoiaaGreatDoor
