import Derived.Test.YthoebpnbhgmoiaaGreatDoorIe3
import Derived.Test.YthoebpnbhgmoiaaGreatDoorIs3
import Derived.Test.YthoebpnbhgmoiaaGreatDoorClo
import Derived.Test.YthoebpnbhgmoiaaGreatDoorK3
import Derived.Test.YthoebpnbhgmoiaaGreatDoorBrief
set_option linter.unusedVariables false
set_option linter.unusedSimpArgs false
set_option linter.unusedSectionVars false
open Int renaming ofNat_lt→JH
open List renaming take_left→JI,drop_eq_getElem_cons→JJ,getElem?_eq_getElem→JK,drop_eq_nil_of_le→JL,getElem_mem→JM
open Nat renaming reduceEqDiff→JO,reduceLT→JP,reduceBEq→JQ,reduceLeDiff→JR,reduceAdd→JS
namespace Go.Proofs.YthoebpnbhgmoiaaGreatDoor
open Go.RowKit
set_option maxHeartbeats 4000000 in
theorem wq:∀l:List It,bu l≤1048576→∀(n:Int),0≤n→n≤70→∀σ,Fun G 33 [.d (de l),.d (ah n)] σ (aO (.d (ah (cnL l l.length n))) σ):=by
 refine fe fun l ih hs n hn0 hn σ=>?_;have hln:=eV l;refine ao Tryz.func33 k33 rfl fun hb hw=>?_;delta c33 oM oV kI kS kT kF
 have hout:∀(m:Int) ρ S,cnL l l.length n=m→ρ=[(4,V.d (ah m))]→(∃L,S=σ++L)→fin σ.length G8 (aO (.d (ah (cnL l l.length n))) σ) .ret ρ S:=fun m ρ S e1 e2 ⟨L,e3⟩=>by
  subst e2 e3;rw[e1];exact ac hb rfl rfl JI ⟨rfl,rfl⟩
 simp -dsimp -implicitDefEqProofs only[aw,aj,V.copy,eq_self,reduceIte,reduceCtorEq,JQ,JP,JO];refine bC (R:=fun(j:Nat) ρ σ'=>∃k:Int,0≤k∧k≤1000000000∧cnL l l.length n=cnL (l.drop j) k n∧ρ=[(0,.d (de l)),(1,.d (ah n)),(5,.d (ah k)),(6,aL .i64 j)]∧σ'=σ) l.length ⟨l.length,by omega,by omega,rfl,rfl,rfl⟩ ?_ _;rintro j ρ' σ' hj ⟨k,hk0,hkB,hr,rfl,rfl⟩;by_cases hlt:j<l.length
 case neg=>
  rw[JL (by omega),cnL]at hr;simp -dsimp -implicitDefEqProofs only[aw,V.copy,eq_self,reduceIte,reduceCtorEq,JQ,JP,JO,JH,hlt,decide_false];exact hout _ _ _ hr rfl ⟨[],by simp⟩
 rw[JJ hlt,cnL]at hr;by_cases hkn:k≤n
 case neg=>
  rw[if_pos (by omega)]at hr;simp -dsimp -implicitDefEqProofs only[aw,V.copy,cond_true,eq_self,reduceIte,reduceCtorEq,JQ,JP,JO,JH,hlt,decide_true,decide_eq_false hkn];exact hout _ _ _ hr rfl ⟨[],by simp⟩
 rw[if_neg (by omega)]at hr;obtain⟨i1,i2⟩:=ih _ (JM hlt);have hm:=cm (JM hlt);have hxx:l[j]? = some l[j]:=JK hlt;have wj:=aH hlt (show l.length≤9223372036854775807 by omega);generalize l[j]=x at hr i1 i2 hm hxx;have hbx:=bI x;have hfw:=fun σ=>pD x.ex 60 (by omega) (by omega) σ;simp only[am]at hfw;have wn:IntKind.i64.wrap (n+1)=n+1:=wrap_i64 (by omega) (by omega);have bad:gr x=false→cnL l l.length n=n+1:=fun h=>by rw[if_pos h]at hr;exact hr
 simp -dsimp -implicitDefEqProofs only[aw,V.copy,V.lend,V.lend1,V.cells,V.boxable,over,JR,cond_true,eq_self,reduceIte,reduceCtorEq,JQ,JP,JO,JS,JH,hlt,decide_true,decide_eq_true hkn,hxx,cr x];refine ae (hfw _) ?_;by_cases t1:cnt x.ex 60≤60
 case neg=>
  simp -dsimp -implicitDefEqProofs only[aw,V.copy,eq_self,reduceIte,reduceCtorEq,JQ,JP,JO,decide_eq_false t1,wn];exact hout _ _ _ (bad (by unfold gr;rw[decide_eq_false t1];rfl)) rfl ⟨_,rfl⟩
 by_cases t2:(20:Int)<(x.ws.length:Int)
 ·simp -dsimp -implicitDefEqProofs only[aw,V.copy,JR,cond_false,eq_self,reduceIte,reduceCtorEq,JQ,JP,JO,JS,decide_eq_true t1,decide_eq_true t2,wn];exact hout _ _ _ (bad (by unfold gr;rw[decide_eq_false (show ¬x.ws.length≤20 by omega)];simp)) rfl ⟨_,rfl⟩
 by_cases t3:(20:Int)<(x.bef.length:Int)
 ·simp -dsimp -implicitDefEqProofs only[aw,V.copy,JR,cond_false,eq_self,reduceIte,reduceCtorEq,JQ,JP,JO,JS,decide_eq_true t1,decide_eq_false t2,decide_eq_true t3,wn];exact hout _ _ _ (bad (by unfold gr;rw[decide_eq_false (show ¬x.bef.length≤20 by omega)];simp)) rfl ⟨_,rfl⟩
 by_cases t4:(20:Int)<(x.aft.length:Int)
 ·simp -dsimp -implicitDefEqProofs only[aw,V.copy,JR,cond_false,eq_self,reduceIte,reduceCtorEq,JQ,JP,JO,JS,decide_eq_true t1,decide_eq_false t2,decide_eq_false t3,decide_eq_true t4,wn];exact hout _ _ _ (bad (by unfold gr;rw[decide_eq_false (show ¬x.aft.length≤20 by omega)];simp)) rfl ⟨_,rfl⟩
 by_cases t5:(40:Int)<(x.name.size:Int)
 ·simp -dsimp -implicitDefEqProofs only[aw,V.copy,JR,cond_false,eq_self,reduceIte,reduceCtorEq,JQ,JP,JO,JS,decide_eq_true t1,decide_eq_false t2,decide_eq_false t3,decide_eq_false t4,decide_eq_true t5,wn];exact hout _ _ _ (bad (by unfold gr;rw[decide_eq_false (show ¬x.name.size≤40 by omega)];simp)) rfl ⟨_,rfl⟩
 by_cases t6:(40:Int)<(x.idx.size:Int)
 ·simp -dsimp -implicitDefEqProofs only[aw,V.copy,JR,cond_false,eq_self,reduceIte,reduceCtorEq,JQ,JP,JO,JS,decide_eq_true t1,decide_eq_false t2,decide_eq_false t3,decide_eq_false t4,decide_eq_false t5,decide_eq_true t6,wn];exact hout _ _ _ (bad (by unfold gr;rw[decide_eq_false (show ¬x.idx.size≤40 by omega)];simp)) rfl ⟨_,rfl⟩
 have ht:gr x=true:=by
  unfold gr;rw[decide_eq_true t1,decide_eq_true (show x.ws.length≤20 by omega),decide_eq_true (show x.bef.length≤20 by omega),decide_eq_true (show x.aft.length≤20 by omega),decide_eq_true (show x.name.size≤40 by omega),decide_eq_true (show x.idx.size≤40 by omega)];rfl
 rw[if_neg (by simp[ht]),iG]at hr;have z1:=jX x.items;have z2:=jX x.els;have l1:=zW x.items x.items.length (n-k) (by omega) (by omega);have l2:=zW x.els x.els.length (n-k) (by omega) (by omega);have g1:=jC x.items x.items.length (n-k) (by omega);have g2:=jC x.els x.els.length (n-k) (by omega);have c1:=fun σ=>i1 (by omega) (n-k) (by omega) (by omega) σ;have c2:=fun σ=>i2 (by omega) (n-k) (by omega) (by omega) σ;generalize cnL x.items x.items.length (n-k)=A at hr l1 g1 c1;generalize cnL x.els x.els.length (n-k)=B at hr l2 g2 c2;have wk:IntKind.i64.wrap (n-k)=n-k:=wrap_i64 (by omega) (by omega);have wA:IntKind.i64.wrap (k+A)=k+A:=wrap_i64 (by omega) (by omega);have wB:IntKind.i64.wrap (k+A+B)=k+A+B:=wrap_i64 (by omega) (by omega)
 simp -dsimp -implicitDefEqProofs only[aw,V.copy,V.lend,JR,cond_false,eq_self,reduceIte,reduceCtorEq,JQ,JP,JO,JS,decide_eq_true t1,decide_eq_false t2,decide_eq_false t3,decide_eq_false t4,decide_eq_false t5,decide_eq_false t6,wk];refine aZ (c1 _) ?_;simp -dsimp -implicitDefEqProofs only[aw,V.copy,V.lend,JR,eq_self,reduceIte,reduceCtorEq,JP,JO,JS,wk,wA];refine aZ (c2 _) ?_;simp -dsimp -implicitDefEqProofs only[aw,V.copy,eq_self,reduceIte,reduceCtorEq,JQ,JP,JO,wB,wj];exact⟨hlt,Nxt.drop (by simp) hb (by simp[aq,V.under]) ⟨k+A+B,by omega,by omega,by rw[hr];congr 1;omega,rfl,rfl⟩⟩
def yO(l:List It):Bool:=decide (cnL l l.length 70≤70)
theorem uA(l:List It)(hl:bu l≤1048576)(σ:List (List V)):Fun G 9 [.d (de l)] σ (aO (az (yO l)) σ):=by
 refine ao Tryz.func9 k9 rfl fun hb hw=>?_;delta c9 oM oV kI kS kT kF;unfold yO;simp -dsimp -implicitDefEqProofs only[aw,aj,V.copy,V.lend,eq_self,reduceIte,reduceCtorEq,JQ,JP];refine ae (wq l hl 70 (by omega) (by omega) _) ?_;simp -dsimp -implicitDefEqProofs only[aw,V.copy,eq_self,reduceIte,reduceCtorEq,JQ,JP,JO];first|exact ac hb rfl rfl List.take_length ⟨rfl,rfl⟩|exact ac hb rfl rfl JI ⟨rfl,rfl⟩
theorem ux{l:List It}(h:yO l=true):bu l≤14000:=by
 have h:=of_decide_eq_true h;have:=Cp (fun e he=>by have:=Au (n:=60) (e:=e) (by omega) he;omega) l l.length 70 (by omega) h;omega
set_option maxHeartbeats 2000000 in
theorem li(c:Cl)(hc:c.fields.length≤1048576)(σ:List (List V)):Fun G 10 [vcl c] σ (aO (az (smB c)) σ):=by
 refine ao Tryz.func10 k10 rfl fun hb hw=>?_;delta c10 oM oV kI kS kT kF
 have hout:∀(b:Bool) ρ S,smB c=b→ρ=[(2,az b)]→(∃L,S=σ++L)→fin σ.length Eq (aO (az (smB c)) σ) .ret ρ S:=fun b ρ S e1 e2 ⟨L,e3⟩=>by
  subst e2 e3;rw[e1];exact ac hb rfl rfl JI ⟨rfl,rfl⟩
 by_cases h20:(20:Int)<(c.fields.length:Int)
 ·simp -dsimp -implicitDefEqProofs only[aw,aj,V.copy,V.cells,V.boxable,JR,eq_self,reduceIte,reduceCtorEq,JQ,JP,JO,JS,decide_eq_true h20];exact hout false _ _ (by unfold smB;rw[decide_eq_false (by omega)];rfl) rfl ⟨_,rfl⟩
 have hsm:smB c=smL [] c.fields:=by unfold smB;rw[decide_eq_true (by omega)];rfl
 rw[hsm]at hout ⊢;simp -dsimp -implicitDefEqProofs only[aw,aj,V.copy,V.cells,V.boxable,JR,eq_self,reduceIte,reduceCtorEq,JQ,JP,JO,JS,decide_eq_false h20];refine bC (R:=fun(j:Nat) ρ σ'=>ρ=[(1,.ptr σ.length 0),(3,aL .i64 j)]∧σ'=σ++[em c]∧smL [] c.fields=smL (c.fields.take j) (c.fields.drop j)) c.fields.length ⟨rfl,rfl,by simp⟩ ?_ _;rintro j ρ' σ' hj ⟨rfl,rfl,hr⟩;by_cases hlt:j<c.fields.length
 case neg=>
  rw[JL (by omega),smL]at hr;simp -dsimp -implicitDefEqProofs only[aw,V.copy,JR,eq_self,reduceIte,JQ,JP,JO,JS,JH,hlt,decide_false];exact hout true _ _ hr rfl ⟨_,rfl⟩
 have hxx:c.fields[j]? = some c.fields[j]:=JK hlt;have htk:c.fields.take (j+1)=c.fields.take j++[c.fields[j]]:=by rw[List.take_add_one,hxx];rfl
 rw[JJ hlt,smL,←htk]at hr;generalize c.fields[j]=f at hxx hr;have hd:dfd f=[al f.name,ah f.width,ah f.size,ah f.mode,ah f.init]:=rfl;have wj:=aH hlt (show c.fields.length≤9223372036854775807 by omega);by_cases s1:f.size<0
 ·simp -dsimp -implicitDefEqProofs only[aw,V.copy,JR,eq_self,reduceIte,JQ,JP,JO,JS,JH,hlt,decide_true,hxx,hd,decide_eq_true s1];exact hout false _ _ (by rw[hr,decide_eq_false (by omega)];rfl) rfl ⟨_,rfl⟩
 by_cases s2:8<f.size
 ·simp -dsimp -implicitDefEqProofs only[aw,V.copy,JR,cond_false,eq_self,reduceIte,JQ,JP,JO,JS,JH,hlt,decide_true,hxx,hd,decide_eq_false s1,decide_eq_true s2];exact hout false _ _ (by rw[hr,decide_eq_false (show ¬f.size≤8 by omega)];simp) rfl ⟨_,rfl⟩
 simp -dsimp -implicitDefEqProofs only[aw,V.copy,V.lend,JR,cond_false,eq_self,reduceIte,JQ,JP,JO,JS,JH,hlt,decide_true,hxx,hd,decide_eq_false s1,decide_eq_false s2];refine ae (gS f.name _) ?_;cases hnm:bH f.name with
 | false=>
  simp -dsimp -implicitDefEqProofs only[aw,V.copy,cond_false,eq_self,reduceIte,JQ,JP,JO];exact hout false _ _ (by rw[hr,hnm];simp) rfl ⟨_,rfl⟩
 | true=>
 rw[decide_eq_true (show 0≤f.size by omega),decide_eq_true (show f.size≤8 by omega),hnm]at hr;simp only[Bool.true_and]at hr;simp -dsimp -implicitDefEqProofs only[aw,V.copy,cond_false,eq_self,reduceIte,JQ,JP,JO];refine bC (R:=fun(i:Nat) ρ σ'=>ρ=[(1,.ptr σ.length 0),(3,aL .i64 j),(4,aL .i64 i)]∧σ'=σ++[em c]∧(c.fields.take j).all (fun g=>!decide (g.name=f.name))=((c.fields.take j).drop i).all (fun g=>!decide (g.name=f.name))) j ⟨rfl,rfl,by simp⟩ ?_ _;rintro i ρ' σ' hi ⟨rfl,rfl,hq⟩;have hjl:(c.fields.take j).length=j:=by rw[List.length_take];omega
 by_cases hit:i<j
 ·have hyy:c.fields[i]? = some c.fields[i]:=JK (by omega);rw[JJ (by omega),List.all_cons,List.getElem_take]at hq;generalize c.fields[i]=g at hyy hq;have hdg:dfd g=[al g.name,ah g.width,ah g.size,ah g.mode,ah g.init]:=rfl;have wi:=aH hit (show j≤9223372036854775807 by omega);by_cases e:g.name=f.name
  ·simp -dsimp -implicitDefEqProofs only[aw,V.copy,JR,eq_self,reduceIte,JQ,JP,JO,JS,JH,hit,decide_true,hyy,hdg,hxx,hd,decide_eq_true e];exact hout false _ _ (by rw[hr,hq,decide_eq_true e];rfl) rfl ⟨_,rfl⟩
  ·rw[decide_eq_false e,Bool.not_false,Bool.true_and]at hq;simp -dsimp -implicitDefEqProofs only[aw,V.copy,JR,eq_self,reduceIte,JQ,JP,JO,JS,JH,hit,decide_true,hyy,hdg,hxx,hd,decide_eq_false e,wi];exact Nxt.same (by simp) (an hb rfl) (by simp[aq,V.under]) ⟨rfl,rfl,hq⟩
 ·rw[JL (by omega),List.all_nil]at hq;rw[hq,Bool.true_and]at hr;simp -dsimp -implicitDefEqProofs only[aw,V.copy,eq_self,reduceIte,reduceCtorEq,JQ,JP,JO,JH,hit,decide_false,wj];exact⟨hlt,Nxt.same (by simp) (an hb rfl) (by simp[aq,V.under]) ⟨rfl,rfl,hr⟩⟩
def ik:Cl:=⟨⟨#[112]⟩,⟨#[]⟩,[⟨⟨#[97]⟩,2,0,1,0⟩,⟨⟨#[100]⟩,3,2,1,0⟩],.sl []⟩
theorem zI(σ:List (List V)):Fun G 35 [] σ (aO (vcl ik) σ):=by
 refine ao Tryz.func35 k35 rfl fun hb hw=>?_;delta c35 oM oV kI kS kT kF;simp -dsimp -implicitDefEqProofs only[aw,aj,V.copy,V.cells,V.boxable,over,bc,aC,aF,V.plain,JR,eq_self,reduceIte,reduceCtorEq,JQ,JP,JO,JS];exact ac (v:=vcl ik) hb (by simp[GC,cG,cS,ik,dfd,aw,V.copy,V.lend,V.lend1,eq_self,reduceIte,JS]) rfl JI ⟨rfl,rfl⟩
def yZ(e:Ex):Ex:=.mk 17 0 ⟨#[]⟩ [e,.mk 1 3 ⟨#[]⟩ []]
def awI:List It:=[.mk 5 (.mk 0 0 ⟨#[]⟩ []) ⟨#[100]⟩ ⟨#[105]⟩ [] [itE 1 (yZ (.mk 3 0 ⟨#[100]⟩ [.mk 2 0 ⟨#[105]⟩ []]))] [] [] []]
def awO:List It:=[itE 1 (yZ (.mk 3 0 ⟨#[100]⟩ [.mk 1 0 ⟨#[]⟩ []])),itE 1 (yZ (.mk 3 0 ⟨#[100]⟩ [.mk 1 1 ⟨#[]⟩ []]))]
def awE:Ex:=.mk 24 0 ⟨#[100]⟩ []
def awS:Ex:=.mk 7 0 ⟨#[]⟩ [.mk 2 0 ⟨#[100,91,48,93]⟩ [],.mk 2 0 ⟨#[100,91,49,93]⟩ []]
theorem mZ:SmallF (au ik):=(qw (show smB ik=true by kernel_rfl)).2
theorem Db:mh aM (au ik) awI=(awO,0):=by kernel_rfl
theorem Eg:gP aM (au ik) awI=0:=by kernel_rfl
theorem GZ:be aM (au ik) awE=(awS,0):=by kernel_rfl
theorem CJ:bN awI=2:=by kernel_rfl
theorem D7:de awI=.sl [[ah 5,ah 0,ah 0,al ⟨#[]⟩,.sl [],al ⟨#[100]⟩,al ⟨#[105]⟩,.sl [],.sl [[ah 1,ah 17,ah 0,al ⟨#[]⟩,.sl [[ah 3,ah 0,al ⟨#[100]⟩,.sl [[ah 2,ah 0,al ⟨#[105]⟩,.sl []]]],[ah 1,ah 3,al ⟨#[]⟩,.sl []]],al ⟨#[]⟩,al ⟨#[]⟩,.sl [],.sl [],.sl [],.sl [],.sl []]],.sl [],.sl [],.sl []]]:=by kernel_rfl
theorem Cj:de awO=.sl [[ah 1,ah 17,ah 0,al ⟨#[]⟩,.sl [[ah 3,ah 0,al ⟨#[100]⟩,.sl [[ah 1,ah 0,al ⟨#[]⟩,.sl []]]],[ah 1,ah 3,al ⟨#[]⟩,.sl []]],al ⟨#[]⟩,al ⟨#[]⟩,.sl [],.sl [],.sl [],.sl [],.sl []],[ah 1,ah 17,ah 0,al ⟨#[]⟩,.sl [[ah 3,ah 0,al ⟨#[100]⟩,.sl [[ah 1,ah 1,al ⟨#[]⟩,.sl []]]],[ah 1,ah 3,al ⟨#[]⟩,.sl []]],al ⟨#[]⟩,al ⟨#[]⟩,.sl [],.sl [],.sl [],.sl [],.sl []]]:=by kernel_rfl
theorem GT:vcl ik=.agg [.d (al ⟨#[112]⟩),.d (al ⟨#[]⟩),.d (.sl [[al ⟨#[97]⟩,ah 2,ah 0,ah 1,ah 0],[al ⟨#[100]⟩,ah 3,ah 2,ah 1,ah 0]]),.d (.sl [])]:=rfl
theorem Fn:vex awE=.agg [.d (ah 24),.d (ah 0),.d (al ⟨#[100]⟩),.d (.sl [])]:=by rw[am];rfl
theorem E4:vex awS=.agg [.d (ah 7),.d (ah 0),.d (al ⟨#[]⟩),.d (.sl [[ah 2,ah 0,al ⟨#[100,91,48,93]⟩,.sl []],[ah 2,ah 0,al ⟨#[100,91,49,93]⟩,.sl []]])]:=by rw[am];kernel_rfl
set_option maxHeartbeats 4000000 in
theorem cB(σ:List (List V)):Fun G 11 [] σ (aO (az true) σ):=by
 refine ao Tryz.func11 k11 rfl fun hb hw=>?_;delta c11 oM oV kI kS kT kF;have hfl:=fun σ=>zI σ;have hex:=fun σ=>rB awI ik (by decide +kernel) mZ (by decide) σ;have hsc:=fun σ=>iQ awE ik (by decide +kernel) mZ (by decide) σ;have hch:=fun σ=>jr awI ik (by decide +kernel) mZ (by decide) σ;have hsz:=fun σ=>ld awI (by rw[CJ];omega) σ;rw[Db]at hex;rw[GZ]at hsc;rw[Eg]at hch;rw[CJ]at hsz;simp only[D7,Cj,GT,Fn,E4]at hfl hex hsc hch hsz;simp -dsimp -implicitDefEqProofs only[aw,aj,V.copy,V.lend,V.cells,V.boxable,over,bc,aC,aF,V.plain,JR,eq_self,reduceIte,JQ,JP,JO,JS];refine ae (hfl _) ?_;simp -dsimp -implicitDefEqProofs only[aw,V.lend,V.lend1,eq_self,reduceIte,JP,JO];refine ae (hex _) ?_
 simp -dsimp -implicitDefEqProofs only[aw,V.copy,V.lend,V.cells,over,bc,JR,eq_self,reduceIte,JQ,JP,JO,JS];refine ae (hfl _) ?_;simp -dsimp -implicitDefEqProofs only[aw,V.lend,V.lend1,eq_self,reduceIte,JP,JO];refine ae (hsc _) ?_;simp -dsimp -implicitDefEqProofs only[aw,V.copy,V.lend,V.cells,V.boxable,over,JR,eq_self,reduceIte,JQ,JP,JO,JS];refine ae (hfl _) ?_;simp -dsimp -implicitDefEqProofs only[aw,V.lend,V.lend1,eq_self,reduceIte,JP,JO];refine ae (hch _) ?_
 have i1:∀a0 a1 a2 a3 a4 a5 a6 a7 a8 a9 a10 a11 b0 b1 b2 b3 b4 b5 b6 b7 b8 b9 b10 b11:D,iaV 12 (V.d (.sl [[a0,a1,a2,a3,a4,a5,a6,a7,a8,a9,a10,a11],[b0,b1,b2,b3,b4,b5,b6,b7,b8,b9,b10,b11]])) (V.d (D.lit (Value.int IntKind.i64 1)))=some (.row [b0,b1,b2,b3,b4,b5,b6,b7,b8,b9,b10,b11] 0):=fun _ _ _ _ _ _ _ _ _ _ _ _ _ _ _ _ _ _ _ _ _ _ _ _=>rfl;have n2:((2:Nat):Int)=2:=rfl;simp -dsimp -implicitDefEqProofs only[aw,V.copy,V.lend,JR,cond_true,eq_self,reduceIte,JP,JO,JS,decide_true,i1,n2];refine ae (hsz _) ?_;simp -dsimp -implicitDefEqProofs only[aw,V.copy,cond_true,eq_self,reduceIte,reduceCtorEq,JQ,JP,JO,decide_true,n2];exact ac hb rfl rfl JI ⟨rfl,rfl⟩
end Go.Proofs.YthoebpnbhgmoiaaGreatDoor
