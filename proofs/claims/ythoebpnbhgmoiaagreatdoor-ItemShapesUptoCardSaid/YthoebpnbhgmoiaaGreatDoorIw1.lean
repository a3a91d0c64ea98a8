import Derived.Test.YthoebpnbhgmoiaaGreatDoorBrief
import Derived.Test.YthoebpnbhgmoiaaGreatDoorK
import Derived.Test.YthoebpnbhgmoiaaGreatDoorItv
import Derived.Test.YthoebpnbhgmoiaaGreatDoorK3
set_option linter.unusedVariables false
set_option linter.unusedSimpArgs false
set_option linter.unusedSectionVars false
open Bool renaming eq_iff_iff→JH,not_false→JI,false_and→JJ,and_false→JK,true_and→JL,not_true→JM
open Int renaming ofNat_lt→JO
open List renaming length_map→JP,take_length→JQ,take_left→JR,getElem?_eq_getElem→JS,take_succ_cons→JT,take_of_length_le→JU,getElem_mem→JV
open Nat renaming reduceLeDiff→JW,reduceEqDiff→JX,reduceSub→JY,reduceMul→JZ,reduceBEq→J0,reduceAdd→J1,reduceLT→J2,le_refl→J3,le_trans→J4
namespace Go.Proofs.YthoebpnbhgmoiaaGreatDoor
open Go.RowKit
theorem Ex.ind3{P:Ex→Prop}(h:∀e:Ex,(∀a,a∈e.args→P a)→P e):∀e,P e:=Ex.ind fun o n s l ih=>h (.mk o n s l) ih
theorem gp{e a:Ex}(h:a∈e.args):aA a≤aA e:=by
 cases e with
 | mk o n s l=>
 have H:∀(l:List Ex),a∈l→aA a≤aG l:=by
  intro l
  induction l with
  | nil=>intro h;cases h
  | cons x r ih=>
   intro h;simp only[aG];rcases List.mem_cons.1 h with rfl|h
   ·omega
   ·have:=ih h;omega
 have:=H l h;simp only[aA];omega
theorem fe{P:List It→Prop}(h:∀l,(∀a,a∈l→P a.items∧P a.els)→P l):∀l,P l:=by
 have H:∀n l,bN l≤n→P l:=by
  intro n
  induction n with
  | zero=>
   intro l hl;refine h l fun a ha=>?_;have:=mL ha;have:=me a;omega
  | succ n ih=>
   intro l hl;refine h l fun a ha=>?_;have h1:=mL ha;have h2:=hU a;exact⟨ih _ (by omega),ih _ (by omega)⟩
 exact fun l=>H _ l (J3 _)
theorem xN(f:List It→Nat)(g:It→Nat)(h0:f []=0)(hc:∀a r,f (a::r)=g a+f r)(l:List It){j:Nat}(h:j<l.length):f (l.take (j+1))=f (l.take j)+g l[j]:=by
 induction l generalizing j with
 | nil=>simp at h
 | cons a r ih=>
  cases j with
  | zero=>simp only[JT,List.take_zero,hc,h0,List.getElem_cons_zero];omega
  | succ j=>simp only[JT,hc,List.getElem_cons_succ];rw[ih (by simpa using h)];omega
theorem o9(l:List It){j:Nat}(h:j<l.length):bN (l.take (j+1))=bN (l.take j)+isz l[j]:=xN bN isz rfl (fun _ _=>rfl) l h
theorem j0(l:List It)(j:Nat):bN (l.take j)≤bN l:=by
 induction l generalizing j with
 | nil=>simp
 | cons a r ih=>cases j with
  | zero=>simp[bN]
  | succ j=>rw[JT,bN,bN];have:=ih j;omega
theorem wn(a:Nat)(h:a≤9223372036854775807):IntKind.i64.wrap ((a:Nat):Int)=(a:Int):=wrap_i64 (by omega) (by omega)
theorem ld:∀l:List It,bN l≤1000000→∀σ,Fun G 26 [.d (de l)] σ (aO (.d (ah (bN l:Nat))) σ):=by
 refine fe fun l ih hs σ=>?_;refine ao Tryz.func26 k26 rfl fun hb hw=>?_;delta c26 oM oV kI kS kT kF;have hln:=mU l;simp -dsimp -implicitDefEqProofs only[aw,aj,V.copy,V.lend,V.lend1,V.cells,V.boxable,over,bc,bk,aC,aF,V.plain,JW,cond_true,cond_false,implies_true,eq_self,ne_eq,reduceIte,reduceCtorEq,J0,J2,JX,J1,JY,JZ,JP];refine cU [3,6,7,8] (fun(j:Nat) ρ σ'=>ρ=[(3,aL .i64 (bN (l.take j):Nat)),(6,.d (de l)),(7,aL .i64 l.length),(8,aL .i64 j)]∧σ'=σ) l.length ⟨rfl,rfl⟩ ?_ _;rintro j ρ' σ' hj ⟨rfl,rfl⟩;by_cases hlt:j<l.length
 ·have ht:=o9 l hlt;have hle:=j0 l (j+1);have he:=hU l[j];have w1:IntKind.i64.wrap (1+((bN l[j].items:Nat):Int))=((1+bN l[j].items:Nat):Int):=by rw[wrap_i64 (by omega) (by omega)];omega
  have w2:IntKind.i64.wrap (((1+bN l[j].items:Nat):Int)+((bN l[j].els:Nat):Int))=((isz l[j]:Nat):Int):=by rw[wrap_i64 (by omega) (by omega)];omega
  have w3:IntKind.i64.wrap (((bN (l.take j):Nat):Int)+((isz l[j]:Nat):Int))=((bN (l.take (j+1)):Nat):Int):=by rw[wrap_i64 (by omega) (by omega)];omega
  obtain⟨i1,i2⟩:=ih _ (JV hlt);simp -dsimp -implicitDefEqProofs only[aw,aj,V.copy,V.lend,V.lend1,V.cells,V.boxable,over,bc,bk,aC,aF,V.plain,JW,cond_true,cond_false,implies_true,eq_self,ne_eq,reduceIte,reduceCtorEq,J0,J2,JX,J1,JY,JZ,JO,hlt,decide_true,JS hlt,cr l[j]];refine aZ (i1 (by omega) _) ?_;simp -dsimp -implicitDefEqProofs only[aw,aj,V.copy,V.lend,V.lend1,V.cells,V.boxable,over,bc,bk,aC,aF,V.plain,JW,cond_true,cond_false,implies_true,eq_self,ne_eq,reduceIte,reduceCtorEq,J0,J2,JX,J1,JY,JZ];refine aZ (i2 (by omega) _) ?_
  simp -dsimp -implicitDefEqProofs only[aw,aj,V.copy,V.lend,V.lend1,V.cells,V.boxable,over,bc,bk,aC,aF,V.plain,JW,cond_true,cond_false,implies_true,eq_self,ne_eq,reduceIte,reduceCtorEq,J0,J2,JX,J1,JY,JZ,w1,w2,w3,aH hlt (show l.length≤9223372036854775807 by omega)];exact⟨hlt,Nxt.drop (J3 _) hb rfl ⟨rfl,rfl⟩⟩
 ·simp -dsimp -implicitDefEqProofs only[aw,aj,V.copy,V.lend,V.lend1,V.cells,V.boxable,over,bc,bk,aC,aF,V.plain,JW,cond_true,cond_false,implies_true,eq_self,ne_eq,reduceIte,reduceCtorEq,J0,J2,JX,J1,JY,JZ,JO,hlt,decide_false];rw[JU (by omega)];first|exact ac hb rfl rfl JQ ⟨rfl,rfl⟩|exact ac hb rfl rfl JR ⟨rfl,rfl⟩
theorem ng:∀l:List It,bN l≤1000000→∀σ,Fun G 27 [.d (de l)] σ (aO (.d (ah (bN l:Nat))) σ):=by
 refine fe fun l ih hs σ=>?_;refine ao Tryz.func27 k27 rfl fun hb hw=>?_;delta c27 oM oV kI kS kT kF;have hln:=mU l;simp -dsimp -implicitDefEqProofs only[aw,aj,V.copy,V.lend,V.lend1,V.cells,V.boxable,over,bc,bk,aC,aF,V.plain,JW,cond_true,cond_false,implies_true,eq_self,ne_eq,reduceIte,reduceCtorEq,J0,J2,JX,J1,JY,JZ,JP];refine cU [0,3,4] (fun(j:Nat) ρ σ'=>∃m:Nat,ρ=[(0,.d (de l)),(3,aL .i64 (m:Nat)),(4,aL .i64 j)]∧m+j=l.length+bN (l.take j)∧σ'=σ) l.length ⟨l.length,rfl,by simp[bN],rfl⟩ ?_ _;rintro j ρ' σ' hj ⟨m,rfl,hm,rfl⟩;by_cases hlt:j<l.length
 ·have ht:=o9 l hlt;have hle:=j0 l (j+1);have he:=hU l[j];have w1:IntKind.i64.wrap (((m:Nat):Int)+((bN l[j].items:Nat):Int))=((m+bN l[j].items:Nat):Int):=by rw[wrap_i64 (by omega) (by omega)];omega
  have w2:IntKind.i64.wrap (((m+bN l[j].items:Nat):Int)+((bN l[j].els:Nat):Int))=((m+bN l[j].items+bN l[j].els:Nat):Int):=by rw[wrap_i64 (by omega) (by omega)];omega
  obtain⟨i1,i2⟩:=ih _ (JV hlt);simp -dsimp -implicitDefEqProofs only[aw,aj,V.copy,V.lend,V.lend1,V.cells,V.boxable,over,bc,bk,aC,aF,V.plain,JW,cond_true,cond_false,implies_true,eq_self,ne_eq,reduceIte,reduceCtorEq,J0,J2,JX,J1,JY,JZ,JO,hlt,decide_true,JS hlt,cr l[j],JP];refine aZ (i1 (by omega) _) ?_;simp -dsimp -implicitDefEqProofs only[aw,aj,V.copy,V.lend,V.lend1,V.cells,V.boxable,over,bc,bk,aC,aF,V.plain,JW,cond_true,cond_false,implies_true,eq_self,ne_eq,reduceIte,reduceCtorEq,J0,J2,JX,J1,JY,JZ,JO,hlt,decide_true,JS hlt,cr l[j],JP];refine aZ (i2 (by omega) _) ?_
  simp -dsimp -implicitDefEqProofs only[aw,aj,V.copy,V.lend,V.lend1,V.cells,V.boxable,over,bc,bk,aC,aF,V.plain,JW,cond_true,cond_false,implies_true,eq_self,ne_eq,reduceIte,reduceCtorEq,J0,J2,JX,J1,JY,JZ,w1,w2,aH hlt (show l.length≤9223372036854775807 by omega)];exact⟨hlt,Nxt.same (J3 _) hb rfl ⟨_,rfl,by omega,rfl⟩⟩
 ·simp -dsimp -implicitDefEqProofs only[aw,aj,V.copy,V.lend,V.lend1,V.cells,V.boxable,over,bc,bk,aC,aF,V.plain,JW,cond_true,cond_false,implies_true,eq_self,ne_eq,reduceIte,reduceCtorEq,J0,J2,JX,J1,JY,JZ,JO,hlt,decide_false,JP];have:m=bN l:=by rw[JU (by omega)]at hm;omega
  subst this;first|exact ac hb rfl rfl JQ ⟨rfl,rfl⟩|exact ac hb rfl rfl JR ⟨rfl,rfl⟩
theorem ow(s:ByteArray)(σ:List (List V)):Fun G 106 [.d (al s)] σ (aO (.d (.lit (.bool (bH s)))) σ):=
 kg Tryz.func106 (by kernel_rfl) (by kernel_rfl) trivial fun M bm w v hG hM hr=>by
  cases hr with
  | d hr=>cases hr with
   | lit _ hf=>exact fP s w (by simpa[cR,maxLen]using hf) (ul hG hM)
theorem ew(l:List ByteArray)(s:ByteArray)(σ:List (List V)):Fun G 60 [.d (aQ l),.d (al s)] σ (aO (.d (.lit (.bool (inB s l)))) σ):=
 ud Tryz.func60 (by kernel_rfl) (by kernel_rfl) trivial fun M bm w v v' hG hM h1 h2=>by
  cases h2 with
  | d h2=>cases h2 with
   | lit _ hf=>exact(jO l s v w (gR hM h1)).mono fun e w' ⟨h3,h4⟩=>⟨h3,h4▸Ext.refl w⟩
theorem AH(s:ByteArray)(σ:List (List V)):Fun G 123 [.d (al s),.d (al ⟨#[91]⟩)] σ (aO (.tup [.d (al (fo s 91)),.d (al (dx s 91)),.d (.lit (.bool (ga s 91)))]) σ):=
 fJ Tryz.func123 (by kernel_rfl) (by kernel_rfl) (fun _ _ _ h=>by cases h) fun M bm w vs hG hM hl hr=>match vs,hl with
  | [v,v'],_=>by
   have h1:Rep M bm (.d (al s)) v:=hr 0 (by simp) (by simp);have h2:Rep M bm (.d (al ⟨#[91]⟩)) v':=hr 1 (by simp) (by simp);cases h1 with|d h1=>cases h1 with|lit _ hf=>cases h2 with|d h2=>cases h2 with|lit _ _=>
   have hf:s.size≤maxLen:=hf;refine(uC s 91 w (by simpa[maxLen]using hf)).mono fun en w' ⟨g1,g2⟩=>⟨_,g1,g2,?_⟩
   refine .tup (vs:=[.string (fo s 91),.string (dx s 91),.bool (ga s 91)]) rfl fun i g g'=>?_
   match i,g with
   | 0,_=>exact .d (.lit _ (J4 (ue s 91) hf))
   | 1,_=>exact .d (.lit _ (J4 (ug s 91) hf))
   | 2,_=>exact .d (.lit _ trivial)
theorem oS(s:ByteArray)(σ:List (List V)):Fun G 105 [.d (al s)] σ (aO (az (bv s)) σ):=by
 refine ao Tryz.func105 IX rfl fun hb hw=>?_;delta Hi oM oV kI kS kT kF
 have hv:(aX (.mk 2 0 s [])=0)=(bv s=true):=by
  unfold aX
  have h1:ed (.mk 2 0 s [])=if bv s=true then 0 else 7:=by
   rw[ed,gW];unfold aJ;cases hv:bv s<;>simp[hv,cf,cY,eI]
  rw[h1];cases hv:bv s<;>simp[bM,cF,aA,aG]
 simp -dsimp -implicitDefEqProofs only[aw,aj,V.copy,V.lend,V.lend1,V.cells,V.boxable,over,bc,bk,aC,aF,V.plain,JW,cond_true,cond_false,implies_true,eq_self,ne_eq,reduceIte,reduceCtorEq,J0,J2,JX,J1,JY,JZ];refine ae (v:=.d (ah (aX (.mk 2 0 s [])))) (by have:=gD (.mk 2 0 s []) (by simp[aA,aG]) (by simp[bM,cF]) σ;simpa only[am,Ex.op,Ex.num,Ex.name,Ex.args,List.map_nil]using this) ?_;have hd:decide (aX (.mk 2 0 s [])=0)=bv s:=by rw[JH,decide_eq_true_eq,hv]
 simp -dsimp -implicitDefEqProofs only[aw,aj,V.copy,V.lend,V.lend1,V.cells,V.boxable,over,bc,bk,aC,aF,V.plain,JW,cond_true,cond_false,implies_true,eq_self,ne_eq,reduceIte,reduceCtorEq,J0,J2,JX,J1,JY,JZ,hd];first|exact ac hb rfl rfl JQ ⟨rfl,rfl⟩|exact ac hb rfl rfl JR ⟨rfl,rfl⟩
theorem vo(e:Ex)(hl:e.args.length≤1000000)(σ:List (List V)):Fun G 135 [vex e] σ (aO (az (dk e)) σ):=by
 refine ao Tryz.func135 Hw (by simp only[am];rfl) fun hb hw=>?_;delta EH oM oV kI kS kT kF;have hlen:decide (((e.args.length:Nat):Int)=0)=e.args.isEmpty:=by cases e.args<;>simp;omega
 unfold dk;simp -dsimp -implicitDefEqProofs only[aw,aj,V.copy,V.lend,V.lend1,V.cells,V.boxable,over,bc,bk,aC,aF,V.plain,JW,cond_true,cond_false,implies_true,eq_self,ne_eq,reduceIte,reduceCtorEq,J0,J2,JX,J1,JY,JZ,am,JP,hlen];all_goals (repeat' (first|(refine cd (fun h1=>?_) (fun h1=>?_)<;>(simp -dsimp -implicitDefEqProofs only[aw,aj,V.copy,V.lend,V.lend1,V.cells,V.boxable,over,bc,bk,aC,aF,V.plain,JW,cond_true,cond_false,implies_true,eq_self,ne_eq,reduceIte,reduceCtorEq,J0,J2,JX,J1,JY,JZ,h1,JP,hlen];try rw[h1]))))
 all_goals first|exact ac hb rfl rfl JQ ⟨rfl,rfl⟩|exact ac hb rfl rfl JR ⟨rfl,rfl⟩
theorem gu{α:Type}(l:List α):decide (((l.length:Nat):Int)=0)=l.isEmpty:=by cases l<;>simp;omega
theorem sR{α β:Type}(l:List α)(m:List β):decide ((((l.length+m.length:Nat)):Int)=0)=(l.isEmpty&&m.isEmpty):=by cases l<;>cases m<;>simp<;>omega
abbrev Jl(u:List Bool):V:=.agg (u.map az)
def jg(k:Int):List Bool:=if k=1∨k=2 then[true,false,false,false,false,false,false]else if k=3 then[false,true,false,true,false,false,false]else if k=4 then[true,false,false,false,true,true,false]
 else if k=5 then[false,true,true,false,true,false,false]else[false,false,false,false,false,false,true]
set_option maxRecDepth 20000 in
set_option maxHeartbeats 4000000 in
theorem wS(x:It)(hbig:eO x≤1000000)(hk:1≤x.kind∧x.kind≤6)(σ:List (List V)):Fun G 103 [vit x,Jl (jg x.kind)] σ (aO (az (bE x)) σ):=by
 have hb0:=bI x
 have h3:x.ex.args.length≤1000000:=by
  have h2:aG x.ex.args≤aA x.ex:=by cases x.ex;simp only[aA,Ex.args];omega
  have:=hZ x.ex.args;omega
 have w1:IntKind.i64.wrap (((x.bef.length:Nat):Int)+((x.aft.length:Nat):Int))=((x.bef.length+x.aft.length:Nat):Int):=by rw[wrap_i64 (by omega) (by omega)];omega
 have e1:=gu x.ws;have e2:=gu x.items;have e3:=gu x.els;have e4:=sR x.bef x.aft;have hk6:x.kind=1∨x.kind=2∨x.kind=3∨x.kind=4∨x.kind=5∨x.kind=6:=by omega
 refine ao Tryz.func103 I7 (by simp only[aK];rfl) fun hb hw=>?_;delta Fa oM oV kI kS kT kF;have hbl:=fun σ=>vo x.ex h3 σ;simp only[am]at hbl;rcases hk6 with hk|hk|hk|hk|hk|hk
 ·have hp:bE x=(decide (x.name=⟨#[]⟩)&&decide (x.idx=⟨#[]⟩)&&x.ws.isEmpty&&x.items.isEmpty&&x.els.isEmpty&&(x.bef.isEmpty&&x.aft.isEmpty)):=by unfold bE;simp[hk]
  have hu:jg x.kind=[true,false,false,false,false,false,false]:=by unfold jg;simp[hk]
  rw[hp,hu];simp -dsimp -implicitDefEqProofs only[aw,aj,V.copy,V.lend,V.lend1,V.cells,V.boxable,over,bc,bk,aC,aF,V.plain,JW,cond_true,cond_false,implies_true,eq_self,ne_eq,reduceIte,reduceCtorEq,J0,J2,JX,J1,JY,JZ,aK,JP,e1,e2,e3,e4,w1];all_goals (repeat' (first|(refine cd (fun h1=>?_) (fun h1=>?_)<;>(simp -dsimp -implicitDefEqProofs only[aw,aj,V.copy,V.lend,V.lend1,V.cells,V.boxable,over,bc,bk,aC,aF,V.plain,JW,cond_true,cond_false,implies_true,eq_self,ne_eq,reduceIte,reduceCtorEq,J0,J2,JX,J1,JY,JZ,h1,JP,e1,e2,e3,e4,w1];try rw[h1]))))
  all_goals first|exact ac hb rfl rfl JQ ⟨rfl,rfl⟩|exact ac hb rfl rfl JR ⟨rfl,rfl⟩
 ·have hp:bE x=(decide (x.name=⟨#[]⟩)&&decide (x.idx=⟨#[]⟩)&&x.ws.isEmpty&&x.items.isEmpty&&x.els.isEmpty&&(x.bef.isEmpty&&x.aft.isEmpty)):=by unfold bE;simp[hk]
  have hu:jg x.kind=[true,false,false,false,false,false,false]:=by unfold jg;simp[hk]
  rw[hp,hu];simp -dsimp -implicitDefEqProofs only[aw,aj,V.copy,V.lend,V.lend1,V.cells,V.boxable,over,bc,bk,aC,aF,V.plain,JW,cond_true,cond_false,implies_true,eq_self,ne_eq,reduceIte,reduceCtorEq,J0,J2,JX,J1,JY,JZ,aK,JP,e1,e2,e3,e4,w1];all_goals (repeat' (first|(refine cd (fun h1=>?_) (fun h1=>?_)<;>(simp -dsimp -implicitDefEqProofs only[aw,aj,V.copy,V.lend,V.lend1,V.cells,V.boxable,over,bc,bk,aC,aF,V.plain,JW,cond_true,cond_false,implies_true,eq_self,ne_eq,reduceIte,reduceCtorEq,J0,J2,JX,J1,JY,JZ,h1,JP,e1,e2,e3,e4,w1];try rw[h1]))))
  all_goals first|exact ac hb rfl rfl JQ ⟨rfl,rfl⟩|exact ac hb rfl rfl JR ⟨rfl,rfl⟩
 ·have hp:bE x=(dk x.ex&&decide (x.idx=⟨#[]⟩)&&x.items.isEmpty&&x.els.isEmpty&&(x.bef.isEmpty&&x.aft.isEmpty)):=by unfold bE;simp[hk]
  have hu:jg x.kind=[false,true,false,true,false,false,false]:=by unfold jg;simp[hk]
  rw[hp,hu];simp -dsimp -implicitDefEqProofs only[aw,aj,V.copy,V.lend,V.lend1,V.cells,V.boxable,over,bc,bk,aC,aF,V.plain,JW,cond_true,cond_false,implies_true,eq_self,ne_eq,reduceIte,reduceCtorEq,J0,J2,JX,J1,JY,JZ,aK,JP,e1,e2,e3,e4,w1];refine ae (hbl _) ?_;simp -dsimp -implicitDefEqProofs only[aw,aj,V.copy,V.lend,V.lend1,V.cells,V.boxable,over,bc,bk,aC,aF,V.plain,JW,cond_true,cond_false,implies_true,eq_self,ne_eq,reduceIte,reduceCtorEq,J0,J2,JX,J1,JY,JZ,aK,JP,e1,e2,e3,e4,w1]
  all_goals (repeat' (first|(refine cd (fun h1=>?_) (fun h1=>?_)<;>(simp -dsimp -implicitDefEqProofs only[aw,aj,V.copy,V.lend,V.lend1,V.cells,V.boxable,over,bc,bk,aC,aF,V.plain,JW,cond_true,cond_false,implies_true,eq_self,ne_eq,reduceIte,reduceCtorEq,J0,J2,JX,J1,JY,JZ,h1,JP,e1,e2,e3,e4,w1];try rw[h1]))))
  all_goals first|exact ac hb rfl rfl JQ ⟨rfl,rfl⟩|exact ac hb rfl rfl JR ⟨rfl,rfl⟩
 ·have hp:bE x=(decide (x.name=⟨#[]⟩)&&decide (x.idx=⟨#[]⟩)&&x.ws.isEmpty&&(x.bef.isEmpty&&x.aft.isEmpty)):=by unfold bE;simp[hk]
  have hu:jg x.kind=[true,false,false,false,true,true,false]:=by unfold jg;simp[hk]
  rw[hp,hu];simp -dsimp -implicitDefEqProofs only[aw,aj,V.copy,V.lend,V.lend1,V.cells,V.boxable,over,bc,bk,aC,aF,V.plain,JW,cond_true,cond_false,implies_true,eq_self,ne_eq,reduceIte,reduceCtorEq,J0,J2,JX,J1,JY,JZ,aK,JP,e1,e2,e3,e4,w1];all_goals (repeat' (first|(refine cd (fun h1=>?_) (fun h1=>?_)<;>(simp -dsimp -implicitDefEqProofs only[aw,aj,V.copy,V.lend,V.lend1,V.cells,V.boxable,over,bc,bk,aC,aF,V.plain,JW,cond_true,cond_false,implies_true,eq_self,ne_eq,reduceIte,reduceCtorEq,J0,J2,JX,J1,JY,JZ,h1,JP,e1,e2,e3,e4,w1];try rw[h1]))))
  all_goals first|exact ac hb rfl rfl JQ ⟨rfl,rfl⟩|exact ac hb rfl rfl JR ⟨rfl,rfl⟩
 ·have hp:bE x=(dk x.ex&&x.ws.isEmpty&&x.els.isEmpty&&(x.bef.isEmpty&&x.aft.isEmpty)):=by unfold bE;simp[hk]
  have hu:jg x.kind=[false,true,true,false,true,false,false]:=by unfold jg;simp[hk]
  rw[hp,hu];simp -dsimp -implicitDefEqProofs only[aw,aj,V.copy,V.lend,V.lend1,V.cells,V.boxable,over,bc,bk,aC,aF,V.plain,JW,cond_true,cond_false,implies_true,eq_self,ne_eq,reduceIte,reduceCtorEq,J0,J2,JX,J1,JY,JZ,aK,JP,e1,e2,e3,e4,w1];refine ae (hbl _) ?_;simp -dsimp -implicitDefEqProofs only[aw,aj,V.copy,V.lend,V.lend1,V.cells,V.boxable,over,bc,bk,aC,aF,V.plain,JW,cond_true,cond_false,implies_true,eq_self,ne_eq,reduceIte,reduceCtorEq,J0,J2,JX,J1,JY,JZ,aK,JP,e1,e2,e3,e4,w1]
  all_goals (repeat' (first|(refine cd (fun h1=>?_) (fun h1=>?_)<;>(simp -dsimp -implicitDefEqProofs only[aw,aj,V.copy,V.lend,V.lend1,V.cells,V.boxable,over,bc,bk,aC,aF,V.plain,JW,cond_true,cond_false,implies_true,eq_self,ne_eq,reduceIte,reduceCtorEq,J0,J2,JX,J1,JY,JZ,h1,JP,e1,e2,e3,e4,w1];try rw[h1]))))
  all_goals first|exact ac hb rfl rfl JQ ⟨rfl,rfl⟩|exact ac hb rfl rfl JR ⟨rfl,rfl⟩
 ·have hp:bE x=(dk x.ex&&decide (x.name=⟨#[]⟩)&&decide (x.idx=⟨#[]⟩)&&x.ws.isEmpty&&x.items.isEmpty&&x.els.isEmpty):=by unfold bE;simp[hk]
  have hu:jg x.kind=[false,false,false,false,false,false,true]:=by unfold jg;simp[hk]
  rw[hp,hu];simp -dsimp -implicitDefEqProofs only[aw,aj,V.copy,V.lend,V.lend1,V.cells,V.boxable,over,bc,bk,aC,aF,V.plain,JW,cond_true,cond_false,implies_true,eq_self,ne_eq,reduceIte,reduceCtorEq,J0,J2,JX,J1,JY,JZ,aK,JP,e1,e2,e3,e4,w1];refine ae (hbl _) ?_;simp -dsimp -implicitDefEqProofs only[aw,aj,V.copy,V.lend,V.lend1,V.cells,V.boxable,over,bc,bk,aC,aF,V.plain,JW,cond_true,cond_false,implies_true,eq_self,ne_eq,reduceIte,reduceCtorEq,J0,J2,JX,J1,JY,JZ,aK,JP,e1,e2,e3,e4,w1]
  all_goals (repeat' (first|(refine cd (fun h1=>?_) (fun h1=>?_)<;>(simp -dsimp -implicitDefEqProofs only[aw,aj,V.copy,V.lend,V.lend1,V.cells,V.boxable,over,bc,bk,aC,aF,V.plain,JW,cond_true,cond_false,implies_true,eq_self,ne_eq,reduceIte,reduceCtorEq,J0,J2,JX,J1,JY,JZ,h1,JP,e1,e2,e3,e4,w1];try rw[h1]))))
  all_goals first|exact ac hb rfl rfl JQ ⟨rfl,rfl⟩|exact ac hb rfl rfl JR ⟨rfl,rfl⟩
def wE(ws:List Wt):Int:=if ws.length>16 then 2 else if ws=[]then 1 else if ws.all wtB=false then 1 else 0
theorem qz(ws:List Wt)(hl:ws.length≤1000000)(σ:List (List V)):Fun G 104 [.d (.sl (ws.map dwt))] σ (aO (.d (ah (wE ws))) σ):=by
 refine ao Tryz.func104 IR rfl fun hb hw=>?_;delta Et oM oV kI kS kT kF;unfold wE;by_cases h1:ws.length>16
 ·have h1':((16:Int)<((ws.length:Nat):Int)):=by omega
  rw[if_pos h1];simp -dsimp -implicitDefEqProofs only[aw,aj,V.copy,V.lend,V.lend1,V.cells,V.boxable,over,bc,bk,aC,aF,V.plain,JW,cond_true,cond_false,implies_true,eq_self,ne_eq,reduceIte,reduceCtorEq,J0,J2,JX,J1,JY,JZ,JP,decide_eq_true h1'];first|exact ac hb rfl rfl JQ ⟨rfl,rfl⟩|exact ac hb rfl rfl JR ⟨rfl,rfl⟩
 ·have h1':¬((16:Int)<((ws.length:Nat):Int)):=by omega
  rw[if_neg h1];by_cases h2:ws=[]
  ·rw[if_pos h2];subst h2;simp -dsimp -implicitDefEqProofs only[aw,aj,V.copy,V.lend,V.lend1,V.cells,V.boxable,over,bc,bk,aC,aF,V.plain,JW,cond_true,cond_false,implies_true,eq_self,ne_eq,reduceIte,reduceCtorEq,J0,J2,JX,J1,JY,JZ,JP,decide_false,Int.reduceEq,decide_true,Int.ofNat_zero,Int.reduceLT];first|exact ac hb rfl rfl JQ ⟨rfl,rfl⟩|exact ac hb rfl rfl JR ⟨rfl,rfl⟩
  ·rw[if_neg h2];have h2':¬(((ws.length:Nat):Int)=0):=by have:=List.length_pos_iff.2 h2;omega
   simp -dsimp -implicitDefEqProofs only[aw,aj,V.copy,V.lend,V.lend1,V.cells,V.boxable,over,bc,bk,aC,aF,V.plain,JW,cond_true,cond_false,implies_true,eq_self,ne_eq,reduceIte,reduceCtorEq,J0,J2,JX,J1,JY,JZ,JP,decide_eq_false h1',decide_eq_false h2'];refine cU [13,14,15] (fun(j:Nat) ρ σ'=>ρ=[(13,.d (.sl (ws.map dwt))),(14,aL .i64 ws.length),(15,aL .i64 j)]∧σ'=σ∧ws.all wtB=(ws.drop j).all wtB) ws.length ⟨rfl,rfl,rfl⟩ ?_ _;rintro j ρ' σ' hj ⟨rfl,rfl,hr⟩;by_cases hlt:j<ws.length
   ·rw[List.drop_eq_getElem_cons hlt,List.all_cons]at hr;have hd:dwt ws[j]=[ah ws[j].lo,ah ws[j].hi,ah ws[j].w,dbl ws[j].each]:=rfl;have hwt:wtB ws[j]=(!decide (ws[j].lo<0) && !decide (ws[j].hi<ws[j].lo) && !decide (65535<ws[j].hi) && !decide (ws[j].w<0) && !decide (1000<ws[j].w)):=by unfold wtB;rw[JH];simp
    rw[hwt]at hr;simp -dsimp -implicitDefEqProofs only[aw,aj,V.copy,V.lend,V.lend1,V.cells,V.boxable,over,bc,bk,aC,aF,V.plain,JW,cond_true,cond_false,implies_true,eq_self,ne_eq,reduceIte,reduceCtorEq,J0,J2,JX,J1,JY,JZ,JO,hlt,decide_true,JS hlt,hd,aH hlt (show ws.length≤9223372036854775807 by omega)];all_goals (repeat' (first|(refine cd (fun h1=>?_) (fun h1=>?_)<;>(simp -dsimp -implicitDefEqProofs only[aw,aj,V.copy,V.lend,V.lend1,V.cells,V.boxable,over,bc,bk,aC,aF,V.plain,JW,cond_true,cond_false,implies_true,eq_self,ne_eq,reduceIte,reduceCtorEq,J0,J2,JX,J1,JY,JZ,h1,aH hlt (show ws.length≤9223372036854775807 by omega)];try rw[h1]))))
    all_goals first|exact ac hb rfl rfl JR ⟨by rw[hr];simp only[*,JM,JI,JK,JJ,JL,if_true];rfl,rfl⟩|exact⟨hlt,Nxt.drop (J3 _) hb rfl ⟨rfl,rfl,by rw[hr];simp only[*,JM,JI,JK,JJ,JL]⟩⟩|(trace_state;fail)
   ·simp -dsimp -implicitDefEqProofs only[aw,aj,V.copy,V.lend,V.lend1,V.cells,V.boxable,over,bc,bk,aC,aF,V.plain,JW,cond_true,cond_false,implies_true,eq_self,ne_eq,reduceIte,reduceCtorEq,J0,J2,JX,J1,JY,JZ,JO,hlt,decide_false];rw[List.drop_eq_nil_of_le (by omega)]at hr;rw[hr];first|exact ac hb rfl rfl JQ ⟨rfl,rfl⟩|exact ac hb rfl rfl JR ⟨rfl,rfl⟩
end Go.Proofs.YthoebpnbhgmoiaaGreatDoor
