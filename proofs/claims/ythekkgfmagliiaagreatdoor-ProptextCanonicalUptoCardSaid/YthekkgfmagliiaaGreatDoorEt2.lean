import Derived.Lib.AtoiErrMem
import Derived.Test.YthekkgfmagliiaaGreatDoorRef7c
import Derived.Test.YthekkgfmagliiaaGreatDoorK3
set_option maxHeartbeats 1000000
set_option linter.unusedVariables false
set_option linter.unusedSimpArgs false
set_option linter.unusedSectionVars false
open Bool renaming true_and->Rs,false_eq_true->Ru,and_eq_true->Rv,eq_iff_iff->Rw,false_and->Rx,and_false->Ry,and_true->Rz
open Int renaming reduceEq->RA,ofNat_lt->RB
open List renaming take_left->RC,getElem?_eq_getElem->RD,length_cons->RE,length_nil->RF,length_append->RG,drop_eq_getElem_cons->RH,drop_eq_nil_of_le->RI,length_map->RJ,take_length->RK,length_take->RL,getElem_mem->RM,take_of_length_le->RN,take_add_one->RO,append_assoc->RP,all_eq_false->RQ,cons_append->RR,all_append->RS,drop_left->RU,map_map->RW
open Nat renaming le_refl->RX,mul_le_mul_left->RY,pow_succ->RZ,le_trans->R0
namespace Go.Proofs.YthekkgfmagliiaaGreatDoor
open Go.RowKit
open Nat renaming reduceLeDiff -> jA, reduceBEq -> jB, reduceLT -> jC, reduceEqDiff -> jD, reduceAdd -> jE, reduceSub -> jF, reduceMul -> jG
open V renaming copy -> jV, lend -> jW, lend1 -> jX, cells -> jY, boxable -> jZ
theorem y9(l:Bs)(σ:LLV):Fun G 49 [.d (ae (bs l))] σ (aA (.d (.lit (.bool (cf (bs l))))) σ):=
 p0 Tryz.func49 (by kernel_rfl) (by kernel_rfl) trivial fun M bm pr w v hG hM h1=>by
  have hs:(bs l).size≤9223372036854775807:=by
   cases h1 with|d h=>cases h with|lit _ hf=>exact hf
  cases eK h1;exact gI (bs l) w hs (pV hG.1 hM)
theorem Cn(l:List ByteArray)(s:ByteArray)(hl:l.length≤1000000)(σ:LLV):Fun G 157 [.d (dw l),.d (ae s)] σ fun o σ'=>∃i:Int,o=.ret (.d (ab i))/\σ'=σ/\decide (0≤i)=inB s l:=by
 refine ai Tryz.func157 PF rfl fun hb hw=>?_;unfold OH;simp -dsimp only[aw,jV,jW,jX,jY,jZ,jA,reduceIte,reduceCtorEq,jB,jC,jD,jE,jF,jG,dw];refine bj [0,1,7,8] (R:=fun(j:Nat) ρ σ'=>ρ=[(0,.d (.sl (l.map fun s=>[ae s]))),(1,.d (ae s)),(7,aL .i64 l.length),(8,aL .i64 j)]/\σ'=σ/\inB s l=inB s (l.drop j)) l.length ⟨rfl,rfl,rfl⟩ ?_ _;rintro j ρ' σ' hj ⟨rfl,rfl,hr⟩;by_cases hlt:j<l.length
 .have hd:inB s (l.drop j)=(decide (l[j]=s)||inB s (l.drop (j+1))):=by rw[RH hlt];rfl
  by_cases he:l[j]=s
  .simp -dsimp only[aw,jV,jW,jX,jY,jZ,jA,reduceIte,reduceCtorEq,jB,jC,jD,jE,jF,jG,RB,hlt,decide_true,RD hlt,decide_eq_true he.symm];rw[hd,decide_eq_true he]at hr;exact al hb rfl rfl RK ⟨j,rfl,rfl,by rw[hr,decide_eq_true (by omega)];rfl⟩
  .simp -dsimp only[aw,jV,jW,jX,jY,jZ,jA,reduceIte,reduceCtorEq,jB,jC,jD,jE,jF,jG,RB,hlt,decide_true,RD hlt,decide_eq_false (Ne.symm he),ba hlt (show l.length≤9223372036854775807 by omega)];rw[hd,decide_eq_false he,Bool.false_or]at hr;exact Nxt.same (RX _) hb rfl ⟨rfl,rfl,hr⟩
 .simp -dsimp only[aw,jV,jW,jX,jY,jZ,jA,reduceIte,reduceCtorEq,jB,jC,jD,jE,jF,jG,RB,hlt,decide_false];rw[RI (by omega)]at hr;exact al hb rfl rfl RK ⟨-1,rfl,rfl,by rw[hr];rfl⟩
theorem uA(l:List ByteArray)(s:ByteArray)(hl:l.length≤1000000)(σ:LLV):Fun G 121 [.d (dw l),.d (ae s)] σ (aA (.d (.lit (.bool (inB s l)))) σ):=by
 refine ai Tryz.func121 QN rfl fun hb hw=>?_;unfold Oc;simp -dsimp only[aw,jV,jW,jX,jY,jZ,jA,reduceIte,reduceCtorEq,jB,jC,jD,jE,jF,jG];refine aR (Cn l s hl _) fun o σ' ⟨i,h1,h2,h3⟩=>?_;subst h1;subst h2;simp -dsimp only[aw,jV,jW,jX,jY,jZ,jA,reduceIte,reduceCtorEq,jB,jC,jD,jE,jF,jG,bc,h3];first|exact au hb rfl rfl|exact av hb rfl rfl
theorem Am(l:Bs):inB (bs l) gC=aC.contains l:=by
 unfold inB gC;rw[List.any_map,List.contains_eq_any_beq];congr 1;funext x;rw[Rw];simp only[Function.comp,decide_eq_true_eq,oz,beq_iff_eq];exact eq_comm
theorem yE(l:Bs)(σ:LLV):Fun G 256 [.d (ae (bs l))] σ (aA (.d (.lit (.bool (aC.contains l)))) σ):=by
 refine ai Tryz.func256 Qh rfl fun hb hw=>?_;unfold MM;have hg:∀ρ,ev G ρ (.g 1)=.row [.sl (aC.map fun s=>[.lit (.string (bs s))])] 0:=fun _=>rfl;simp -dsimp only[aw,jV,jW,jX,jY,jZ,jA,reduceIte,reduceCtorEq,jB,jC,jD,jE,jF,jG,hg];refine ac (uA gC (bs l) (by decide) _) ?_;rw[Am];simp -dsimp only[aw,jV,jW,jX,jY,jZ,jA,reduceIte,reduceCtorEq,jB,jC,jD,jE,jF,jG];first|exact au hb rfl rfl|exact av hb rfl rfl
theorem sk(l:Bs)(σ:LLV):Fun G 63 [.d (ae (bs l))] σ (aA (.d (.lit (.bool (aC.contains l)))) σ):=by
 rw[<-Am];exact uR _ _
theorem uO(l:Bs)(σ:LLV):Fun G 37 [.d (ae (bs l))] σ (aA (.d (.lit (.bool (cf (bs l))))) σ):=by
 have hnm:cf (bs l)=(iM l&&decide (l.length≤16) && !inB (bs l) dk):=by unfold cf gV;rw[aV,ay]
 rw[hnm];refine ai Tryz.func37 k37 rfl fun hb hw=>?_;unfold c37
 match l with
 | []=>
  simp -dsimp only[aw,jV,jW,jX,jY,jZ,jA,reduceIte,reduceCtorEq,jB,jC,jD,jE,jF,jG,gh];first|exact au hb rfl rfl|exact av hb rfl rfl
 | c::r=>
  obtain⟨l,hl⟩:∃l,l=c::r:=⟨_,rfl⟩
  have hnil:=yR c r;have hix:=lQ c r;have hwl:iM (c::r)=(fh c.toNat&&(c::r).all inn):=rfl;rw[hwl];rw[<-hl]at hnil hix ⊢;by_cases h16:l.length≤16
  .have h16':¬(16:Int)<((l.length:Nat):Int):=by omega
   simp -dsimp only[aw,jV,jW,jX,jY,jZ,jA,reduceIte,reduceCtorEq,jB,jC,jD,jE,jF,jG,hnil,ay,decide_eq_false h16',hix];refine ac (lj _ _) ?_;rw[decide_eq_true h16,Rz];cases hlow:fh c.toNat with
   | false=>
    simp -dsimp only[aw,jV,jW,jX,jY,jZ,jA,reduceIte,reduceCtorEq,jB,jC,jD,jE,jF,jG];first|exact au hb rfl rfl|exact av hb rfl rfl
   | true=>
    simp -dsimp only[aw,jV,jW,jX,jY,jZ,jA,reduceIte,reduceCtorEq,jB,jC,jD,jE,jF,jG];refine ac (mo _ _) ?_;cases hkw:inB (bs l) dk with
    | true=>
     simp -dsimp only[aw,jV,jW,jX,jY,jZ,jA,reduceIte,reduceCtorEq,jB,jC,jD,jE,jF,jG];rw[Ry];first|exact au hb rfl rfl|exact av hb rfl rfl
    | false=>
     rw[Rs,Bool.not_false,Rz];simp -dsimp only[aw,jV,jW,jX,jY,jZ,jA,reduceIte,reduceCtorEq,jB,jC,jD,jE,jF,jG];refine bj [0,3] (R:=fun(j:Nat) ρ σ'=>ρ=[(0,.d (ae (bs l))),(3,aL .i64 j)]/\σ'=σ/\l.all inn=(l.drop j).all inn) l.length ⟨rfl,rfl,rfl⟩ ?_ _;rintro j ρ' σ' hj ⟨rfl,rfl,hr⟩;by_cases hlt:j<l.length
     .have hd:(l.drop j).all inn=(inn l[j]&&(l.drop (j+1)).all inn):=by rw[RH hlt];rfl
      simp -dsimp only[aw,jV,jW,jX,jY,jZ,jA,reduceIte,reduceCtorEq,jB,jC,jD,jE,jF,jG,ay,RB,hlt,decide_true,aV,RD hlt,cJ];refine ac (kR _ _) ?_;cases hin:inn l[j]with
      | true=>
       rw[hd,hin,Rs]at hr;rw[show fP (l[j].toNat:Int)=true from hin];simp -dsimp only[aw,jV,jW,jX,jY,jZ,jA,reduceIte,reduceCtorEq,jB,jC,jD,jE,jF,jG,ba hlt (show l.length≤9223372036854775807 by omega)];exact⟨hlt,Nxt.same (RX _) hb rfl ⟨rfl,rfl,hr⟩⟩
      | false=>
       rw[hd,hin,Rx]at hr;rw[show fP (l[j].toNat:Int)=false from hin];simp -dsimp only[aw,jV,jW,jX,jY,jZ,jA,reduceIte,reduceCtorEq,jB,jC,jD,jE,jF,jG];rw[hr];first|exact au hb rfl rfl|exact av hb rfl rfl
     .simp -dsimp only[aw,jV,jW,jX,jY,jZ,jA,reduceIte,reduceCtorEq,jB,jC,jD,jE,jF,jG,ay,RB,hlt,decide_false];rw[RI (by omega)]at hr;rw[hr];first|exact au hb rfl rfl|exact av hb rfl rfl
  .have h16':(16:Int)<((l.length:Nat):Int):=by omega
   simp -dsimp only[aw,jV,jW,jX,jY,jZ,jA,reduceIte,reduceCtorEq,jB,jC,jD,jE,jF,jG,hnil,ay,decide_eq_true h16'];rw[decide_eq_false h16,Ry,Rx];first|exact au hb rfl rfl|exact av hb rfl rfl
theorem Aa:∀(k u:Nat),u<10^(k+1)->(Lib.decDigits u).length≤k+1
 | 0,u,h=>by rw[Lib.decDigits,dif_pos (by simpa using h)];exact RX _
 | k+1,u,h=>by
  rw[Lib.decDigits];split
  .simp
  .rw[RG];have:=Aa k (u/10) (by rw[RZ]at h;omega);simp;omega
theorem vK(n:Int)(h0:0≤n)(h1:n≤2147483647):(Lib.itoa n).length≤10:=by
 unfold Lib.itoa;rw[if_neg (by omega)];exact Aa 9 _ (by omega)
def eN(t:Tok):V:=.agg [.d (ab t.kind),.d (ab t.num),.d (ae t.text),.d (ab t.line)]
theorem wz(n:Int)(l:Bs)(ln:Int)(h0:0≤n):bl ⟨3,n,bs l,ln⟩=(decide (n≤2147483647)&&decide (bs l=bs (Lib.itoa n))):=by
 have e:Lib.itoa n=Lib.decDigits n.toNat:=by unfold Lib.itoa;rw[if_neg (by omega)]
 unfold bl;rw[if_pos rfl,e,aV,qv,decide_eq_true h0,Rs];show(decide (n≤2147483647)&&(l==Lib.decDigits n.toNat))=_;congr 1;rw[Rw];simp
theorem wK(n:Int)(l:Bs)(ln:Int)(h0:¬0≤n):bl ⟨3,n,bs l,ln⟩=false:=by
 unfold bl;rw[if_pos rfl,decide_eq_false h0];rfl
theorem JE(n:Int)(l:Bs)(ln:Int):bl ⟨1,n,bs l,ln⟩=(decide (n=0)&&cf (bs l)):=rfl
theorem Jw(n:Int)(l:Bs)(ln:Int):bl ⟨2,n,bs l,ln⟩=(decide (n=0)&&inB (bs l) dk):=rfl
theorem Jv(n:Int)(l:Bs)(ln:Int):bl ⟨4,n,bs l,ln⟩=(decide (n=0)&&aC.contains l):=by
 unfold bl;rw[if_neg (by show ¬(4:Int)=3;decide),if_neg (by show ¬(4:Int)=1;decide),if_neg (by show ¬(4:Int)=2;decide),if_pos rfl,aV]
theorem JO(k n:Int)(l:Bs)(ln:Int)(h1:¬k=1)(h2:¬k=2)(h3:¬k=3)(h4:¬k=4):bl ⟨k,n,bs l,ln⟩=false:=by
 unfold bl;rw[if_neg h3,if_neg h1,if_neg h2,if_neg h4]
theorem ud(k n:Int)(l:Bs)(ln:Int)(σ:LLV):Fun G 255 [eN ⟨k,n,bs l,ln⟩] σ (aA (.d (.lit (.bool (bl ⟨k,n,bs l,ln⟩)))) σ):=by
 unfold eN;refine ai Tryz.func255 QU rfl fun hb hw=>?_;have hn:=Fg (uh (hw 0 (by simp)) 1 (by simp));unfold Mf;by_cases h3:k=3
 .subst h3;by_cases h0:0≤n
  .rw[wz n l ln h0];by_cases hm:n≤2147483647
   .simp -dsimp only[aw,jV,jW,jX,jY,jZ,jA,reduceIte,reduceCtorEq,jB,jC,jD,jE,jF,jG,RA,decide_true,decide_false,decide_eq_true h0,decide_eq_true hm];refine bd (qZ n (by omega) (by omega) (by have:=vK n h0 hm;unfold maxLen;omega) _) ?_;simp -dsimp only[aw,jV,jW,jX,jY,jZ,jA,reduceIte,reduceCtorEq,jB,jC,jD,jE,jF,jG,qv];rw[decide_eq_true hm,Rs];exact al hb rfl rfl RC ⟨rfl,rfl⟩
   .simp -dsimp only[aw,jV,jW,jX,jY,jZ,jA,reduceIte,reduceCtorEq,jB,jC,jD,jE,jF,jG,RA,decide_true,decide_false,decide_eq_true h0,decide_eq_false hm];exact al hb rfl rfl RC ⟨rfl,rfl⟩
  .rw[wK n l ln h0];simp -dsimp only[aw,jV,jW,jX,jY,jZ,jA,reduceIte,reduceCtorEq,jB,jC,jD,jE,jF,jG,RA,decide_true,decide_false,decide_eq_false h0];exact al hb rfl rfl RC ⟨rfl,rfl⟩
 by_cases h1:k=1
 .subst h1;rw[JE];by_cases hz:n=0
  .simp -dsimp only[aw,jV,jW,jX,jY,jZ,jA,reduceIte,reduceCtorEq,jB,jC,jD,jE,jF,jG,RA,decide_true,decide_false,decide_eq_true hz];refine ac (y9 l _) ?_;simp -dsimp only[aw,jV,jW,jX,jY,jZ,jA,reduceIte,reduceCtorEq,jB,jC,jD,jE,jF,jG];rw[decide_eq_true hz,Rs];exact al hb rfl rfl RC ⟨rfl,rfl⟩
  .simp -dsimp only[aw,jV,jW,jX,jY,jZ,jA,reduceIte,reduceCtorEq,jB,jC,jD,jE,jF,jG,RA,decide_true,decide_false,decide_eq_false hz];exact al hb rfl rfl RC ⟨rfl,rfl⟩
 by_cases h2:k=2
 .subst h2;rw[Jw];by_cases hz:n=0
  .simp -dsimp only[aw,jV,jW,jX,jY,jZ,jA,reduceIte,reduceCtorEq,jB,jC,jD,jE,jF,jG,RA,decide_true,decide_false,decide_eq_true hz];refine ac (xD l _) ?_;simp -dsimp only[aw,jV,jW,jX,jY,jZ,jA,reduceIte,reduceCtorEq,jB,jC,jD,jE,jF,jG];rw[decide_eq_true hz,Rs];exact al hb rfl rfl RC ⟨rfl,rfl⟩
  .simp -dsimp only[aw,jV,jW,jX,jY,jZ,jA,reduceIte,reduceCtorEq,jB,jC,jD,jE,jF,jG,RA,decide_true,decide_false,decide_eq_false hz];exact al hb rfl rfl RC ⟨rfl,rfl⟩
 by_cases h4:k=4
 .subst h4;rw[Jv];by_cases hz:n=0
  .simp -dsimp only[aw,jV,jW,jX,jY,jZ,jA,reduceIte,reduceCtorEq,jB,jC,jD,jE,jF,jG,RA,decide_true,decide_false,decide_eq_true hz];refine ac (yE l _) ?_;simp -dsimp only[aw,jV,jW,jX,jY,jZ,jA,reduceIte,reduceCtorEq,jB,jC,jD,jE,jF,jG];rw[decide_eq_true hz,Rs];exact al hb rfl rfl RC ⟨rfl,rfl⟩
  .simp -dsimp only[aw,jV,jW,jX,jY,jZ,jA,reduceIte,reduceCtorEq,jB,jC,jD,jE,jF,jG,RA,decide_true,decide_false,decide_eq_false hz];exact al hb rfl rfl RC ⟨rfl,rfl⟩
 rw[JO k n l ln h1 h2 h3 h4];simp -dsimp only[aw,jV,jW,jX,jY,jZ,jA,reduceIte,reduceCtorEq,jB,jC,jD,jE,jF,jG,decide_eq_false h1,decide_eq_false h2,decide_eq_false h3,decide_eq_false h4];exact al hb rfl rfl RC ⟨rfl,rfl⟩
theorem uX(k n:Int)(l:Bs)(ln:Int)(σ:LLV):Fun G 30 [eN ⟨k,n,bs l,ln⟩] σ (aA (.d (.lit (.bool (bl ⟨k,n,bs l,ln⟩)))) σ):=by
 unfold eN;refine ai Tryz.func30 k30 rfl fun hb hw=>?_;have hn:=Fg (uh (hw 0 (by simp)) 1 (by simp));unfold c30;by_cases h3:k=3
 .subst h3;by_cases h0:0≤n
  .rw[wz n l ln h0];by_cases hm:n≤2147483647
   .simp -dsimp only[aw,jV,jW,jX,jY,jZ,jA,reduceIte,reduceCtorEq,jB,jC,jD,jE,jF,jG,RA,decide_true,decide_false,decide_eq_true h0,decide_eq_true hm];refine bd (tZ n (by omega) (by omega) (by have:=vK n h0 hm;omega) _) ?_;simp -dsimp only[aw,jV,jW,jX,jY,jZ,jA,reduceIte,reduceCtorEq,jB,jC,jD,jE,jF,jG,qv];rw[decide_eq_true hm,Rs];exact al hb rfl rfl RC ⟨rfl,rfl⟩
   .simp -dsimp only[aw,jV,jW,jX,jY,jZ,jA,reduceIte,reduceCtorEq,jB,jC,jD,jE,jF,jG,RA,decide_true,decide_false,decide_eq_true h0,decide_eq_false hm];exact al hb rfl rfl RC ⟨rfl,rfl⟩
  .rw[wK n l ln h0];simp -dsimp only[aw,jV,jW,jX,jY,jZ,jA,reduceIte,reduceCtorEq,jB,jC,jD,jE,jF,jG,RA,decide_true,decide_false,decide_eq_false h0];exact al hb rfl rfl RC ⟨rfl,rfl⟩
 by_cases h1:k=1
 .subst h1;rw[JE];by_cases hz:n=0
  .simp -dsimp only[aw,jV,jW,jX,jY,jZ,jA,reduceIte,reduceCtorEq,jB,jC,jD,jE,jF,jG,RA,decide_true,decide_false,decide_eq_true hz];refine ac (uO l _) ?_;simp -dsimp only[aw,jV,jW,jX,jY,jZ,jA,reduceIte,reduceCtorEq,jB,jC,jD,jE,jF,jG];rw[decide_eq_true hz,Rs];exact al hb rfl rfl RC ⟨rfl,rfl⟩
  .simp -dsimp only[aw,jV,jW,jX,jY,jZ,jA,reduceIte,reduceCtorEq,jB,jC,jD,jE,jF,jG,RA,decide_true,decide_false,decide_eq_false hz];exact al hb rfl rfl RC ⟨rfl,rfl⟩
 by_cases h2:k=2
 .subst h2;rw[Jw];by_cases hz:n=0
  .simp -dsimp only[aw,jV,jW,jX,jY,jZ,jA,reduceIte,reduceCtorEq,jB,jC,jD,jE,jF,jG,RA,decide_true,decide_false,decide_eq_true hz];refine ac (mo (bs l) _) ?_;simp -dsimp only[aw,jV,jW,jX,jY,jZ,jA,reduceIte,reduceCtorEq,jB,jC,jD,jE,jF,jG];rw[decide_eq_true hz,Rs];exact al hb rfl rfl RC ⟨rfl,rfl⟩
  .simp -dsimp only[aw,jV,jW,jX,jY,jZ,jA,reduceIte,reduceCtorEq,jB,jC,jD,jE,jF,jG,RA,decide_true,decide_false,decide_eq_false hz];exact al hb rfl rfl RC ⟨rfl,rfl⟩
 by_cases h4:k=4
 .subst h4;rw[Jv];by_cases hz:n=0
  .simp -dsimp only[aw,jV,jW,jX,jY,jZ,jA,reduceIte,reduceCtorEq,jB,jC,jD,jE,jF,jG,RA,decide_true,decide_false,decide_eq_true hz];refine ac (sk l _) ?_;simp -dsimp only[aw,jV,jW,jX,jY,jZ,jA,reduceIte,reduceCtorEq,jB,jC,jD,jE,jF,jG];rw[decide_eq_true hz,Rs];exact al hb rfl rfl RC ⟨rfl,rfl⟩
  .simp -dsimp only[aw,jV,jW,jX,jY,jZ,jA,reduceIte,reduceCtorEq,jB,jC,jD,jE,jF,jG,RA,decide_true,decide_false,decide_eq_false hz];exact al hb rfl rfl RC ⟨rfl,rfl⟩
 rw[JO k n l ln h1 h2 h3 h4];simp -dsimp only[aw,jV,jW,jX,jY,jZ,jA,reduceIte,reduceCtorEq,jB,jC,jD,jE,jF,jG,decide_eq_false h1,decide_eq_false h2,decide_eq_false h3,decide_eq_false h4];exact al hb rfl rfl RC ⟨rfl,rfl⟩
theorem G9(t:Tok):t=⟨t.kind,t.num,bs t.text.data.toList,t.line⟩:=by rw[fl]
theorem wc(t:Tok)(σ:LLV):Fun G 255 [eN t] σ (aA (.d (.lit (.bool (bl t)))) σ):=by
 rw[G9 t];exact ud _ _ _ _ _
theorem wF(t:Tok)(σ:LLV):Fun G 30 [eN t] σ (aA (.d (.lit (.bool (bl t)))) σ):=by
 rw[G9 t];exact uX _ _ _ _ _
theorem AD(t:Tok):eN t=.agg [.d (ab t.kind),.d (ab t.num),.d (ae t.text),.d (ab t.line)]:=rfl
def mP(ts:List Tok):V:=if ts.all bl=true then .tup [.d (ae (bs (cR ts))),.d (ab 0)]else .tup [.d (ae ⟨#[]⟩),.d (ab 1)]
theorem rK:∀(l:List Tok) (t:Tok),cR (l++[t])=if l=[]then t.text.data.toList else cR l++32::t.text.data.toList
 | [],t=>rfl
 | [a],t=>rfl
 | a::b::r,t=>by
  have:=rK (b::r) t;simp only[RR,cR]at this ⊢;rw[this];simp
theorem nV(n:Nat):∀(l:List Tok),(∀t,t∈l->t.text.size≤n)->(cR l).length≤(n+1)*l.length
 | [],_=>by simp[cR]
 | [a],h=>by have:=h a (by simp);rw[Lib.size_eq]at this;simp only[cR,RE,RF];omega
 | a::b::r,h=>by
  have h1:=h a (by simp);have h2:=nV n (b::r) fun t ht=>h t (by simp at ht ⊢;exact .inr ht);rw[Lib.size_eq]at h1;have e:(n+1)*(a::b::r).length=(n+1)*(b::r).length+(n+1):=by rw[RE (a:=a),Nat.mul_succ]
  rw[e];simp only[cR,RG,RE]at h2 ⊢;omega
theorem An:∀ts:List Tok,Lib.join (ts.map fun t=>t.text.data.toList) [32]=cR ts
 | []=>rfl
 | [t]=>by simp[cR,Lib.join_one]
 | t::u::r=>by
  have:=An (u::r);simp only[List.map_cons]at this ⊢;rw[Lib.join_cons]at this ⊢;simp only[cR,<-this];simp[Lib.joinTail]
theorem xS(ts:List Tok)(hl:ts.length≤20000)(ht:∀t,t∈ts->t.text.size≤1000)(σ:LLV):Fun G 10 [.d (.sl (ts.map dF))] σ (aA (mP ts) σ):=by
 refine ai Tryz.func10 k10 rfl fun hb hw=>?_;unfold c10;simp -dsimp only[aw,jV,jW,jX,jY,jZ,jA,reduceIte,reduceCtorEq,jB,jC,jD,jE,jF,jG];refine bj [0,4,5] (R:=fun(j:Nat) ρ σ'=>ρ=[(0,.d (.sl (ts.map dF))),(4,.d (ae (bs (cR (ts.take j))))),(5,aL .i64 j)]/\σ'=σ/\(ts.take j).all bl=true) ts.length ⟨rfl,rfl,rfl⟩ ?_ _;rintro j ρ' σ' hj ⟨rfl,rfl,hv⟩;by_cases hlt:j<ts.length
 .have htk:ts.take (j+1)=ts.take j++[ts[j]]:=by rw[RO,RD hlt];rfl
  have hsn:=rK (ts.take j) ts[j];rw[<-htk]at hsn;have hjl:=nV 1000 (ts.take j) fun t h=>ht t (List.mem_of_mem_take h);rw[RL]at hjl;have hmin:min j ts.length≤20000:=by omega
  have hjl2:(cR (ts.take j)).length≤1001*20000:=R0 hjl (RY _ hmin);have htx:=ht _ (RM hlt);have hall:(ts.take (j+1)).all bl=bl ts[j]:=by rw[htk,RS,hv];simp
  obtain⟨tx,htxe⟩:∃l,ts[j].text=bs l:=⟨_,(fl _).symm⟩
  rw[htxe]at htx hsn;rw[ay]at htx;rw[aV]at hsn;simp -dsimp only[aw,jV,jW,jX,jY,jZ,jA,reduceIte,reduceCtorEq,jB,jC,jD,jE,jF,jG,RB,hlt,decide_true,RD hlt,dF];rw[<-AD];refine ac (wF ts[j] _) ?_;cases hvj:bl ts[j]with
  | false=>
   simp -dsimp only[aw,jV,jW,jX,jY,jZ,jA,reduceIte,reduceCtorEq,jB,jC,jD,jE,jF,jG]
   have:ts.all bl=false:=by
    rw[RQ];exact⟨_,RM hlt,by rw[hvj];decide⟩
   unfold mP;rw[if_neg (by rw[this];decide)];first|exact au hb rfl rfl|exact av hb rfl rfl
  | true=>
   rw[hvj]at hall;have e32:(⟨#[32]⟩:ByteArray)=bs [32]:=rfl;by_cases hj0:0<j
   .have hj0':(0:Int)<(j:Nat):=by omega
    have hne:¬ts.take j=[]:=fun h=>by
     have h1:=congrArg List.length h;rw[RL,RF]at h1;omega
    rw[if_neg hne]at hsn;have hs1:(cR (ts.take j)).length+([32]:Bs).length≤9223372036854775807:=by simp only[RE,RF];omega
    have hs2:(cR (ts.take j)++[32]).length+tx.length≤9223372036854775807:=by simp only[RG,RE,RF];omega
    have a1:aQ .add (V.d (ae (bs (cR (ts.take j))))) (V.d (ae ⟨#[32]⟩))=some (V.d (ae (bs (cR (ts.take j)++[32])))):=by
     rw[e32,rH,ay,ay,if_pos hs1,eB]
    have a2:aQ .add (V.d (ae (bs (cR (ts.take j)++[32])))) (V.d (ae (bs tx)))=some (V.d (ae (bs (cR (ts.take (j+1)))))):=by
     rw[rH,ay,ay,if_pos hs2,eB,hsn,RP];rfl
    generalize cR (ts.take (j+1))=J2 at *;generalize cR (ts.take j)++[32]=J1 at *;generalize cR (ts.take j)=J0 at *;simp -dsimp only[aw,jV,jW,jX,jY,jZ,jA,reduceIte,reduceCtorEq,jB,jC,jD,jE,jF,jG,decide_eq_true hj0',a1,RD hlt,dF,htxe,a2,ba hlt (show ts.length≤9223372036854775807 by omega)];exact⟨hlt,Nxt.same (RX _) hb rfl ⟨rfl,rfl,hall⟩⟩
   .have hj0':¬(0:Int)<(j:Nat):=by omega
    have hje:ts.take j=[]:=by rw[show j=0 by omega];rfl
    rw[if_pos hje]at hsn;have hs2:([]:Bs).length+tx.length≤9223372036854775807:=by simp only[RF];omega
    have a2:aQ .add (V.d (ae (bs (cR (ts.take j))))) (V.d (ae (bs tx)))=some (V.d (ae (bs (cR (ts.take (j+1)))))):=by
     rw[hje,hsn,show cR []=[]from rfl,rH,ay,ay,if_pos hs2,eB];rfl
    generalize cR (ts.take (j+1))=J2 at *;generalize cR (ts.take j)=J0 at *;simp -dsimp only[aw,jV,jW,jX,jY,jZ,jA,reduceIte,reduceCtorEq,jB,jC,jD,jE,jF,jG,decide_eq_false hj0',RD hlt,dF,htxe,a2,ba hlt (show ts.length≤9223372036854775807 by omega)];exact⟨hlt,Nxt.same (RX _) hb rfl ⟨rfl,rfl,hall⟩⟩
 .simp -dsimp only[aw,jV,jW,jX,jY,jZ,jA,reduceIte,reduceCtorEq,jB,jC,jD,jE,jF,jG,RB,hlt,decide_false];rw[RN (by omega)]at hv ⊢;unfold mP;rw[if_pos hv];first|exact au hb rfl rfl|exact av hb rfl rfl
theorem zr(ts:List Tok)(hl:ts.length≤1000)(ht:∀t,t∈ts->t.text.size≤1000)(σ:LLV):Fun G 254 [.d (.sl (ts.map dF))] σ (aA (mP ts) σ):=by
 refine ai Tryz.func254 PW rfl fun hb hw=>?_;unfold Mx;simp -dsimp only[aw,jV,jW,jX,jY,jZ,jA,reduceIte,reduceCtorEq,jB,jC,jD,jE,jF,jG];refine bQ (by first|omega|(simp only[RJ];omega)) ?_;simp -dsimp only[aw,jV,jW,jX,jY,jZ,jA,reduceIte,reduceCtorEq,jB,jC,jD,jE,jF,jG];refine bj [4,10,11,12] (R:=fun(j:Nat) ρ σ'=>ρ=[(4,.own 9 1 ((ts.take j).map fun t=>[ae t.text])),(10,.d (.sl (ts.map dF))),(11,aL .i64 ts.length),(12,aL .i64 j)]/\σ'=σ/\(ts.take j).all bl=true) ts.length ⟨by simp[RJ];rfl,rfl,rfl⟩ ?_ _;rintro j ρ' σ' hj ⟨rfl,rfl,hv⟩;by_cases hlt:j<ts.length
 .have htk:ts.take (j+1)=ts.take j++[ts[j]]:=by rw[RO,RD hlt];rfl
  have hall:(ts.take (j+1)).all bl=bl ts[j]:=by rw[htk,RS,hv];simp
  simp -dsimp only[aw,jV,jW,jX,jY,jZ,jA,reduceIte,reduceCtorEq,jB,jC,jD,jE,jF,jG,RB,hlt,decide_true,RD hlt,dF];rw[<-AD];refine ac (wc ts[j] _) ?_;cases hvj:bl ts[j]with
  | false=>
   simp -dsimp only[aw,jV,jW,jX,jY,jZ,jA,reduceIte,reduceCtorEq,jB,jC,jD,jE,jF,jG]
   have:ts.all bl=false:=by
    rw[RQ];exact⟨_,RM hlt,by rw[hvj];decide⟩
   unfold mP;rw[if_neg (by rw[this];decide)];exact fX hb rfl rfl
  | true=>
   rw[hvj]at hall;simp -dsimp only[aw,jV,jW,jX,jY,jZ,jA,reduceIte,reduceCtorEq,jB,jC,jD,jE,jF,jG];refine bQ (by first|omega|(simp only[RJ,RL];omega)) ?_;simp -dsimp only[aw,jV,jW,jX,jY,jZ,jA,reduceIte,reduceCtorEq,jB,jC,jD,jE,jF,jG,ba hlt (show ts.length≤9223372036854775807 by omega)];refine⟨hlt,Nxt.drop (RX _) hb rfl ⟨?_,rfl,hall⟩⟩;rw[htk,List.map_append];rfl
 .simp -dsimp only[aw,jV,jW,jX,jY,jZ,jA,reduceIte,reduceCtorEq,jB,jC,jD,jE,jF,jG,RB,hlt,decide_false];rw[RN (by omega)]at hv ⊢;have hd:V.d (.sl (ts.map fun t=>[ae t.text]))=V.d (dw (ts.map Tok.text)):=by unfold dw;rw[RW];rfl
  have hjl:=nV 1000 ts ht;have hjl2:(cR ts).length≤1001*1000:=R0 hjl (RY _ hl);have hjq:Lib.join ((ts.map Tok.text).map (·.data.toList)) [32]=cR ts:=by rw[<-An,RW];rfl
  rw[hd];refine ac (EG (ts.map Tok.text) (by rw[RJ];omega) (by rw[hjq];omega) _) ?_;rw[hjq];simp -dsimp only[aw,jV,jW,jX,jY,jZ,jA,reduceIte,reduceCtorEq,jB,jC,jD,jE,jF,jG];unfold mP;rw[if_pos hv];first|exact au hb rfl rfl|exact av hb rfl rfl
theorem Nxt.to{n0:Nat}{R:ah->LLV->Prop}{ρ:ah}{S:LLV}(τ l:LLV)(h:S=τ++l)(hn:n0≤τ.length)(hb:aj τ.length τ=true)(hs:ao τ.length ρ=true)(hR:R ρ τ):Nxt n0 R ρ S .mk:=by
 subst h;exact Nxt.drop hn hb hs hR
theorem bX(a b:Bs)(h:a.length+b.length≤9223372036854775807):aQ .add (V.d (ae (bs a))) (V.d (ae (bs b)))=some (V.d (ae (bs (a++b)))):=by
 rw[rH,ay,ay,if_pos h,eB]
theorem FU{n:Int}(h:0≤n):Lib.itoa n=Lib.decDigits n.toNat:=by
 unfold Lib.itoa;rw[if_neg (by omega)]
theorem Gf(k:Nat):∀u:Nat,u<10^(k+1)->(Lib.decDigits u).length≤k+1:=by
 induction k with
 | zero=>intro u h;rw[Lib.decDigits,dif_pos (by simpa using h)];simp
 | succ k ih=>
  intro u h;rw[Lib.decDigits];split
  .simp
  .have:=ih (u/10) (by rw[RZ]at h;omega);simp only[RG,RE,RF];omega
theorem Aj{u:Nat}(h:u≤9223372036854775808):(Lib.decDigits u).length≤19:=Gf 18 u (by omega)
theorem Gx{n:Int}(h0 : -9223372036854775808≤n)(h1:n≤9223372036854775807):(Lib.itoa n).length≤20:=by
 unfold Lib.itoa;split
 .have:=Aj (u:=n.natAbs) (by omega);simp only[RE];omega
 .have:=Aj (u:=n.toNat) (by omega);omega
theorem rU(n:Int)(h0 : -9223372036854775808≤n)(h1:n≤9223372036854775807)(σ:LLV):Fun G 135 [.d (ab n)] σ (aA (.d (ae (bs (Lib.itoa n)))) σ):=by
 have h5:=Gx h0 h1;refine ai Tryz.func135 PO rfl fun hb hw=>?_;unfold N8;simp -dsimp only[aw,jV,jW,jX,jY,jZ,jA,reduceIte,reduceCtorEq,jB,jC,jD,jE,jF,jG];refine ac (qZ n h0 h1 (by unfold maxLen;omega) _) ?_;simp -dsimp only[aw,jV,jW,jX,jY,jZ,jA,reduceIte,reduceCtorEq,jB,jC,jD,jE,jF,jG];first|exact au hb rfl rfl|exact av hb rfl rfl
theorem gP(n:Int)(h0:0≤n)(h1:n≤65535)(σ:LLV):Fun G 135 [.d (ab n)] σ (aA (.d (ae (bs (Lib.decDigits n.toNat)))) σ):=by
 rw[<-FU h0];exact rU n (by omega) (by omega) σ
def jb(l:List (ByteArray×Int×Nat)):LLD:=l.map fun b=>[ae b.1,ab b.2.1,ab b.2.2]
theorem me(σ:LLV):Fun G 165 [] σ (aA (.d (.sl (jb ci))) σ):=by
 refine ai Tryz.func165 PL rfl fun hb hw=>?_;unfold MS;simp -dsimp only[aw,jV,jW,jX,jY,jZ,jA,reduceIte,reduceCtorEq,jB,jC,jD,jE,jF,jG];exact al hb rfl rfl RK ⟨rfl,rfl⟩
def oZ(l:List (ByteArray×Int×Nat))(o:Int):V:=match l.find? fun b=>decide (b.2.1=o)with
 | some b=>.tup [.agg [.d (ae b.1),.d (ab b.2.1),.d (ab b.2.2)],aq true]
 | none=>.tup [.agg [.d (ae ⟨#[]⟩),.d (ab 0),.d (ab 0)],aq false]
theorem wP(o:Int)(σ:LLV):Fun G 132 [.d (ab o)] σ (aA (oZ ci o) σ):=by
 refine ai Tryz.func132 Rh rfl fun hb hw=>?_;unfold OA;have h15:ci.length≤100:=by decide
 simp -dsimp only[aw,jV,jW,jX,jY,jZ,jA,reduceIte,reduceCtorEq,jB,jC,jD,jE,jF,jG];refine ac (me _) ?_;generalize ci=l at *;simp -dsimp only[aw,jV,jW,jX,jY,jZ,jA,reduceIte,reduceCtorEq,jB,jC,jD,jE,jF,jG,jb];refine bj [0,2,6,7,8] (R:=fun(j:Nat) ρ σ'=>ρ=[(0,.d (ab o)),(2,.ptr σ.length 0),(6,.d (.sl (jb l))),(7,aL .i64 l.length),(8,aL .i64 j)]/\σ'=σ++[[.d (ae ⟨#[]⟩),.d (ab 0),.d (ab 0)]]/\oZ l o=oZ (l.drop j) o) l.length ⟨rfl,rfl,rfl⟩ ?_ _;rintro j ρ' σ' hj ⟨rfl,rfl,hr⟩;by_cases hlt:j<l.length
 .have hd:oZ (l.drop j) o=if l[j].2.1=o then .tup [.agg [.d (ae l[j].1),.d (ab l[j].2.1),.d (ab l[j].2.2)],aq true]else oZ (l.drop (j+1)) o:=by
   rw[RH hlt];unfold oZ;rw[List.find?_cons];by_cases h:l[j].2.1=o
   .simp[h]
   .simp[h]
  by_cases he:l[j].2.1=o
  .rw[hd,if_pos he]at hr;rw[hr];simp -dsimp only[aw,jV,jW,jX,jY,jZ,jA,reduceIte,reduceCtorEq,jB,jC,jD,jE,jF,jG,jb,RB,hlt,decide_true,RD hlt,decide_eq_true he];exact al (v:=.tup [.agg [.d (ae l[j].1),.d (ab l[j].2.1),.d (ab l[j].2.2)],aq true]) hb (by simp[Gy,aU,cY,bq,aw,jV,jW,jX,jY,jZ,jA,reduceIte,reduceCtorEq,jB,jC,jD,jE,jF,jG]) rfl RC ⟨rfl,rfl⟩
  .rw[hd,if_neg he]at hr;simp -dsimp only[aw,jV,jW,jX,jY,jZ,jA,reduceIte,reduceCtorEq,jB,jC,jD,jE,jF,jG,jb,RB,hlt,decide_true,RD hlt,decide_eq_false he,ba hlt (show l.length≤9223372036854775807 by omega)];exact Nxt.to (σ++[[.d (ae ⟨#[]⟩),.d (ab 0),.d (ab 0)]]) [[.d (ae l[j].1),.d (ab l[j].2.1),.d (ab l[j].2.2)]] (by simp) (by simp) (aE hb rfl) (by simp[ao,V.under]) ⟨rfl,rfl,hr⟩
 .rw[RI (by omega)]at hr;rw[hr];simp -dsimp only[aw,jV,jW,jX,jY,jZ,jA,reduceIte,reduceCtorEq,jB,jC,jD,jE,jF,jG,RB,hlt,decide_false];exact al (v:=.tup [.agg [.d (ae ⟨#[]⟩),.d (ab 0),.d (ab 0)],aq false]) hb (by simp[Gy,aU,cY,bq,aw,jV,jW,jX,jY,jZ,jA,reduceIte,reduceCtorEq,jB,jC,jD,jE,jF,jG]) rfl RC ⟨rfl,rfl⟩
theorem di(o:Int)(σ:LLV):Fun G 134 [.d (ab o)] σ (aA (.d (ae (bs (iz o)))) σ):=by
 refine ai Tryz.func134 QJ rfl fun hb hw=>?_;unfold Oa iz;by_cases h4:o=4
 .rw[if_pos h4];simp -dsimp only[aw,jV,jW,jX,jY,jZ,jA,reduceIte,reduceCtorEq,jB,jC,jD,jE,jF,jG,decide_eq_true h4];first|exact au hb rfl rfl|exact av hb rfl rfl
 by_cases h5:o=5
 .rw[if_neg h4,if_pos h5];simp -dsimp only[aw,jV,jW,jX,jY,jZ,jA,reduceIte,reduceCtorEq,jB,jC,jD,jE,jF,jG,decide_eq_false h4,decide_eq_true h5];first|exact au hb rfl rfl|exact av hb rfl rfl
 by_cases h6:o=6
 .rw[if_neg h4,if_neg h5,if_pos h6];simp -dsimp only[aw,jV,jW,jX,jY,jZ,jA,reduceIte,reduceCtorEq,jB,jC,jD,jE,jF,jG,decide_eq_false h4,decide_eq_false h5,decide_eq_true h6];first|exact au hb rfl rfl|exact av hb rfl rfl
 rw[if_neg h4,if_neg h5,if_neg h6];simp -dsimp only[aw,jV,jW,jX,jY,jZ,jA,reduceIte,reduceCtorEq,jB,jC,jD,jE,jF,jG,decide_eq_false h4,decide_eq_false h5,decide_eq_false h6];first|exact au hb rfl rfl|exact av hb rfl rfl
theorem vH(o:Int):oZ ci o=match gZ o with
 | some (m,l)=>.tup [.agg [.d (ae m),.d (ab o),.d (ab l)],aq true]
 | none=>.tup [.agg [.d (ae ⟨#[]⟩),.d (ab 0),.d (ab 0)],aq false]:=by
 unfold oZ gZ;cases h:ci.find? fun b=>decide (b.2.1=o)with
 | none=>rfl
 | some b=>
  have:=List.find?_some h;simp only[decide_eq_true_eq]at this;simp only[Option.map_some,this]
theorem uK(o:Int):iz o=[]↔¬(o=4\/o=5\/o=6):=by
 unfold iz;repeat' split
 all_goals simp_all
theorem C8(e:Ex)(σ:LLV):Fun G 166 [vex e] σ (aA (.d (ab (kQ e.op))) σ):=by
 refine ai Tryz.func166 Pp (by simp only[ak];rfl) fun hb hw=>?_;unfold N1;simp -dsimp only[aw,jV,jW,jX,jY,jZ,jA,reduceIte,reduceCtorEq,jB,jC,jD,jE,jF,jG,ak];refine ac (wP e.op _) ?_;rw[vH];unfold kQ;cases h:gZ e.op with
 | some p=>
  obtain⟨m,l⟩:=p;simp -dsimp only[aw,jV,jW,jX,jY,jZ,jA,reduceIte,reduceCtorEq,jB,jC,jD,jE,jF,jG];first|exact au hb rfl rfl|exact av hb rfl rfl
 | none=>
  simp only;by_cases h22:e.op=22
  .rw[if_pos h22];simp -dsimp only[aw,jV,jW,jX,jY,jZ,jA,reduceIte,reduceCtorEq,jB,jC,jD,jE,jF,jG,decide_eq_true h22];first|exact au hb rfl rfl|exact av hb rfl rfl
  by_cases h23:e.op=23
  .rw[if_neg h22,if_pos h23];simp -dsimp only[aw,jV,jW,jX,jY,jZ,jA,reduceIte,reduceCtorEq,jB,jC,jD,jE,jF,jG,decide_eq_false h22,decide_eq_true h23];first|exact au hb rfl rfl|exact av hb rfl rfl
  simp -dsimp only[aw,jV,jW,jX,jY,jZ,jA,reduceIte,reduceCtorEq,jB,jC,jD,jE,jF,jG,decide_eq_false h22,decide_eq_false h23];refine ac (di e.op _) ?_;rw[if_neg h22,if_neg h23];by_cases hp:e.op=4\/e.op=5\/e.op=6
  .have:¬iz e.op=[]:=fun hn=>(uK _).1 hn hp;have hd:decide (bs (iz e.op)=(⟨#[]⟩:ByteArray))=false:=by rw[decide_eq_false_iff_not];intro hh;exact this (oz.1 (hh:_=bs []))
   rw[if_pos hp];simp -dsimp only[aw,jV,jW,jX,jY,jZ,jA,reduceIte,reduceCtorEq,jB,jC,jD,jE,jF,jG,hd];first|exact au hb rfl rfl|exact av hb rfl rfl
  .have:iz e.op=[]:=(uK _).2 hp;rw[if_neg hp,this];simp -dsimp only[aw,jV,jW,jX,jY,jZ,jA,reduceIte,reduceCtorEq,jB,jC,jD,jE,jF,jG,gh];first|exact au hb rfl rfl|exact av hb rfl rfl
theorem sJ(sep:Bs)(l:List ByteArray)(hn:l.length≤140737488355328)(hlen:(Lib.join (l.map (·.data.toList)) sep).length≤140737488355328)(σ:LLV):
 Fun G 88 [.d (dw l),.d (ae (bs sep))] σ (aA (.d (ae (bs (Lib.join (l.map (·.data.toList)) sep)))) σ):=
 pU Tryz.func88 (by kernel_rfl) (by kernel_rfl) (by show(bs _).size≤maxLen;rw[ay];unfold maxLen;omega) fun M bm pr w v v' hG hM h1 h2=>by
  cases eK h2;obtain⟨p,cap,rfl,g1,g2,g3⟩:=j9 hM h1;by_cases h0:l=[]
  .subst h0;exact jO (Tryz.strings_Join_none p cap (bs sep) w)
  .have hp:0<l.length:=List.length_pos_iff.2 h0;obtain⟨b,off,rfl,g4⟩:=g3 0 (l[0]'hp) (RD hp)
   have h:=Tryz.strings_Join b off cap l (bs sep) w (fun j x hj=>by
    obtain⟨b',off',e,g5⟩:=g3 j x hj;cases e;exact g5) (Lib.lt_of_cell g4) hn g1 (by rw[aV];exact hlen)
   rw[aV]at h;exact h
theorem zh(d:Bs)(hl:d.length≤1000000)(σ:LLV):Fun G 222 [.d (ae (bs (d++[93]))),.d (ae ⟨#[93]⟩)] σ (aA (aq true) σ):=by
 refine ai Tryz.func222 Px rfl fun hb hw=>?_;unfold LN;have hn:(d++[93]).length=d.length+1:=by simp
 have h1:((⟨#[93]⟩:ByteArray).size:Int)=1:=rfl;have hle:(1:Int)≤(((d++[93]).length:Nat):Int):=by rw[hn];omega
 have hw1:IntKind.i64.wrap ((((d++[93]).length:Nat):Int)-1)=((d.length:Nat):Int):=by rw[hn,aJ (by omega) (by omega)];omega
 have hs:=xI (d++[93]) d.length (by rw[hn];omega);rw[RU]at hs;have he:decide (bs [93]=(⟨#[93]⟩:ByteArray))=true:=by rw[decide_eq_true_eq];rfl
 generalize d++[93]=dt at *;simp -dsimp only[aw,jV,jW,jX,jY,jZ,jA,reduceIte,reduceCtorEq,jB,jC,jD,jE,jF,jG,ay,h1,decide_eq_true hle,hw1,hs,he];first|exact au hb rfl rfl|exact av hb rfl rfl
theorem Cb(d:Bs)(hl:d.length≤1000000)(σ:LLV):Fun G 197 [.d (ae (bs (d++[93]))),.d (ae ⟨#[93]⟩)] σ (aA (.d (ae (bs d))) σ):=by
 refine ai Tryz.func197 Qk rfl fun hb hw=>?_;unfold LA;have hn:(d++[93]).length=d.length+1:=by simp
 have h1:((⟨#[93]⟩:ByteArray).size:Int)=1:=rfl;have hw1:IntKind.i64.wrap ((((d++[93]).length:Nat):Int)-1)=((d.length:Nat):Int):=by rw[hn,aJ (by omega) (by omega)];omega
 have hs:=zW (d++[93]) d.length (by rw[hn];omega);rw[RC]at hs;have hf:=zh d hl;generalize d++[93]=dt at *;simp -dsimp only[aw,jV,jW,jX,jY,jZ,jA,reduceIte,reduceCtorEq,jB,jC,jD,jE,jF,jG];refine ac (hf _) ?_;simp -dsimp only[aw,jV,jW,jX,jY,jZ,jA,reduceIte,reduceCtorEq,jB,jC,jD,jE,jF,jG,ay,h1,hw1,hs];first|exact au hb rfl rfl|exact av hb rfl rfl
theorem F8(d:Bs)(hl:d.length≤1000000)(σ:LLV):Fun G 168 [.d (ae (bs (d++[93]))),.d (ae ⟨#[93]⟩)] σ (aA (.d (ae (bs d))) σ):=by
 refine ai Tryz.func168 Q4 rfl fun hb hw=>?_;unfold c168;simp -dsimp only[aw,jV,jW,jX,jY,jZ,jA,reduceIte,reduceCtorEq,jB,jC,jD,jE,jF,jG];refine ac (Cb d hl _) ?_;simp -dsimp only[aw,jV,jW,jX,jY,jZ,jA,reduceIte,reduceCtorEq,jB,jC,jD,jE,jF,jG];first|exact au hb rfl rfl|exact av hb rfl rfl
theorem xl:∀(x q:Bs),(∀c,c∈x->c≠91)->Lib.indexByte (x++91::q) 91=(x.length:Nat)
 | [],q,_=>rfl
 | a::x,q,h=>by
  have ih:=xl x q fun c hc=>h c (by simp[hc]);have ha:(a==(91:UInt8))=false:=beq_eq_false_iff_ne.2 (h a (by simp));simp only[RR,Lib.indexByte,ha,ih,Ru,if_false];rw[if_neg (by simp;try omega)];simp
theorem qF:∀(x:Bs),(∀c,c∈x->c≠91)->Lib.indexByte x 91 = -1
 | [],_=>rfl
 | a::x,h=>by
  have ih:=qF x fun c hc=>h c (by simp[hc]);have ha:(a==(91:UInt8))=false:=beq_eq_false_iff_ne.2 (h a (by simp));simp only[Lib.indexByte,ha,ih,Ru,if_false];rfl
theorem l8(l:Bs)(hl:l.length≤1000000)(σ:LLV):Fun G 167 [.d (ae (bs l)),.d (.lit (.int .u8 91))] σ (aA (.d (ab (Lib.indexByte l 91))) σ):=
 mS Tryz.func167 (by kernel_rfl) (by kernel_rfl) (by
  have h1:=Lib.indexByte_ge l 91
  have h2:Lib.indexByte l 91≤l.length:=by
   clear h1 hl
   induction l with
   | nil=>simp[Lib.indexByte]
   | cons a r ih=>simp only[Lib.indexByte,RE];repeat' split
                  all_goals omega
  simp only[dQ,IntKind.min,IntKind.max,IntKind.signed,IntKind.bits];simp;omega) fun pr w _=>by
  have:=jO (Tryz.strings_IndexByte (bs l) 91 w);rw[aV]at this;exact this
theorem tr{l:Bs}(h:iM l=true):∀c,c∈l->c≠91:=by
 intro c hc;cases l with
 | nil=>cases hc
 | cons a r=>
  simp only[iM,Rv]at h;have:=List.all_eq_true.1 h.2 c hc;rintro rfl;revert this;decide
theorem sY{s:ByteArray}(h:cf s=true):iM s.data.toList=true:=by
 simp only[cf,Rv]at h;exact h.1.1
theorem C0(s:ByteArray)(h:gD s=true)(σ:LLV):Fun G 136 [.d (ae s)] σ (aA (.d (ae (bs (br (.mk 2 0 s []))))) σ):=by
 rw[w8];unfold gD at h;rw[Bool.or_eq_true]at h;refine ai Tryz.func136 Pu rfl fun hb hw=>?_;unfold Mg;by_cases hel:j0 s=true
 .rw[if_pos hel];obtain⟨g1,g2,g3,g4⟩:=lF hel;have hw1:=sY g1;have hl:=gY g1;have h91:=tr hw1;have h5:=nf (dY s).toNat (by omega)
  have hsb:s.data.toList=(j5 s 91).data.toList++91::(Lib.decDigits (dY s).toNat++[93]):=by
   have:=congrArg (fun s:ByteArray=>s.data.toList) g4;simp only[od,uk]at this;rw[<-this];simp[aa]
  generalize (j5 s 91).data.toList=x at *;generalize Lib.decDigits (dY s).toNat=d at *;have hss:s=bs (x++91::(d++[93])):=by rw[<-hsb,fl]
  rw[hss];have hix:=xl x (d++[93]) h91;have hlen:(x++91::(d++[93])).length=x.length+(d.length+2):=by simp
  have s1:=zW (x++91::(d++[93])) x.length (by rw[hlen];omega);rw[RC]at s1;have s2:=xI (x++91::(d++[93])) (x.length+1) (by rw[hlen];omega)
  have hdr:(x++91::(d++[93])).drop (x.length+1)=d++[93]:=by
   rw[<-List.drop_drop,RU];rfl
  rw[hdr]at s2;have a1:aQ .add (V.d (ae (bs x))) (V.d (ae ⟨#[64]⟩))=some (V.d (ae (bs (x++[64])))):=bX x [64] (by simp;omega)
  have a2:aQ .add (V.d (ae (bs (x++[64])))) (V.d (ae (bs d)))=some (V.d (ae (bs (x++64::d)))):=by
   have:=bX (x++[64]) d (by simp;omega);rw[this,RP];rfl
  have hw2:IntKind.i64.wrap (((x.length:Nat):Int)+1)=((x.length+1:Nat):Int):=by rw[aJ (by omega) (by omega)];omega
  have hif:=l8 (x++91::(d++[93])) (by rw[hlen];omega);rw[hix]at hif;generalize x++91::(d++[93])=T at *;simp -dsimp only[aw,jV,jW,jX,jY,jZ,jA,reduceIte,reduceCtorEq,jB,jC,jD,jE,jF,jG];refine ac (hif _) ?_;simp -dsimp only[aw,jV,jW,jX,jY,jZ,jA,reduceIte,reduceCtorEq,jB,jC,jD,jE,jF,jG,decide_eq_true (show(0:Int)≤((x.length:Nat):Int)by omega),s1,a1,hw2,s2];refine bd (F8 d (by omega) _) ?_;simp -dsimp only[aw,jV,jW,jX,jY,jZ,jA,reduceIte,reduceCtorEq,jB,jC,jD,jE,jF,jG,a2];first|exact au hb rfl rfl|exact av hb rfl rfl
 .rw[if_neg hel];have hn:=h.resolve_left hel;have hix:=qF s.data.toList (tr (sY hn));have hif:=l8 s.data.toList (by have:=gY hn;omega);rw[hix,fl]at hif;simp -dsimp only[aw,jV,jW,jX,jY,jZ,jA,reduceIte,reduceCtorEq,jB,jC,jD,jE,jF,jG];refine ac (hif _) ?_;simp -dsimp only[aw,jV,jW,jX,jY,jZ,jA,reduceIte,reduceCtorEq,jB,jC,jD,jE,jF,jG,Int.reduceLE,decide_false];rw[fl];first|exact au hb rfl rfl|exact av hb rfl rfl
end Go.Proofs.YthekkgfmagliiaaGreatDoor
