import Derived.Test.YthoebpnbhgmoiaaGreatDoorIw2
import Derived.Test.YthoebpnbhgmoiaaGreatDoorClo
set_option linter.unusedVariables false
set_option linter.unusedSimpArgs false
set_option linter.unusedSectionVars false
open List renaming append_nil→JH,length_append→JI,take_left→JJ,length_cons→JK,getElem_mem→JL,length_nil→JM,getElem?_eq_getElem→JO,append_assoc→JP
open Nat renaming reduceEqDiff→JQ,reduceBEq→JR,reduceLT→JS,reduceLeDiff→JT,reduceAdd→JU,le_refl→JV,reduceSub→JW
namespace Go.Proofs.YthoebpnbhgmoiaaGreatDoor
open Go.RowKit
def A8(vf:V)(args:List V)(σ:List (List V))(Q:Out→List (List V)→Prop):Prop:=
 match vf with
 | .fn f cap=>Fun G f (args++cap) σ Q
 | .bnd f first=>Fun G f (first++args) σ Q
 | _=>False
structure Vst{S:Type}(step:S→It→Nat→List ByteArray→Int×S)(P:It→Nat→List ByteArray→Prop)(vf:V)(J:S→List (List V)→Prop)(N:Nat):Prop where
 len:∀s τ,J s τ→τ.length=N
 bb:∀s τ,J s τ→ay N τ=true
 und:V.under N vf=true
 val:(∃f c,vf=.fn f c)∨(∃f c,vf=.bnd f c)
 call:∀s τ x d bd,J s τ→P x d bd→∀l,A8 vf [vit x,mu d bd] (τ++l) (fun o σ'=>∃τ',J (step s x d bd).2 τ'∧σ'=τ'++l∧o=.ret (.d (ah (step s x d bd).1)))
theorem Vst.app{S:Type}{step:S→It→Nat→List ByteArray→Int×S}{P:It→Nat→List ByteArray→Prop}{vf:V}{J:S→List (List V)→Prop}{N:Nat}(h:Vst step P vf J N)(L:List (List V))(hL:L.all (fun cs=>V.unders (N+L.length) cs)=true):
 Vst step P vf (fun s σ=>∃τ,J s τ∧σ=τ++L) (N+L.length) where
 len:=fun s σ ⟨τ,h1,e⟩=>by rw[e,JI,h.len s τ h1]
 bb:=fun s σ ⟨τ,h1,e⟩=>by
  have h2:=h.bb s τ h1;have h3:=h.len s τ h1;rw[←h3]at h2 hL ⊢;rw[e,←JI];exact an h2 (by rw[JI];exact hL)
 und:=V.under_mono (by omega) _ h.und
 val:=h.val
 call:=fun s σ x d bd ⟨τ,h1,e⟩ hp l=>by
  subst e;have:=h.call s τ x d bd h1 hp (L++l);rw[JP]
  have hm:∀o σ',(∃τ',J (step s x d bd).2 τ'∧σ'=τ'++(L++l)∧o=Out.ret (.d (ah (step s x d bd).1)))→∃τ',(∃τ2,J (step s x d bd).2 τ2∧τ'=τ2++L)∧σ'=τ'++l∧o=Out.ret (.d (ah (step s x d bd).1)):=fun o σ' ⟨τ',g1,g2,g3⟩=>
   ⟨τ'++L,⟨τ',g1,rfl⟩,by rw[g2,JP],g3⟩
  unfold A8 at this ⊢;cases vf<;>first|exact this.elim|exact this.mono hm
def BU(P:It→Nat→List ByteArray→Prop):Prop:=∀x d bd,P x d bd→(∀y,y∈x.items→P y (dep x d) (bnd x bd))∧(∀y,y∈x.els→P y (dep x d) bd)
def EN{S:Type}(step:S→It→Nat→List ByteArray→Int×S)(J:S→List (List V)→Prop)(l:List It)(d:Nat)(bd:List ByteArray)(s:S)(L:List (List V)):Out→List (List V)→Prop:=
 fun o σ'=>∃τ',J (wks step l d bd s).2 τ'∧σ'=τ'++L∧o=.ret (.d (ah (wks step l d bd s).1))
theorem Ax{S:Type}(step:S→It→Nat→List ByteArray→Int×S)(x:It)(r:List It)(d:Nat)(bd:List ByteArray)(s:S):wks step (x::r) d bd s=
 if(step s x d bd).1=0 then(if(wks step x.items (dep x d) (bnd x bd) (step s x d bd).2).1=0 then
  (if(wks step x.els (dep x d) bd (wks step x.items (dep x d) (bnd x bd) (step s x d bd).2).2).1=0 then wks step r d bd (wks step x.els (dep x d) bd (wks step x.items (dep x d) (bnd x bd) (step s x d bd).2).2).2
    else wks step x.els (dep x d) bd (wks step x.items (dep x d) (bnd x bd) (step s x d bd).2).2)
  else wks step x.items (dep x d) (bnd x bd) (step s x d bd).2)else step s x d bd:=by
 rw[wks,ya];by_cases h1:(step s x d bd).1=0
 ·rw[if_pos h1,if_pos h1];by_cases h2:(wks step x.items (dep x d) (bnd x bd) (step s x d bd).2).1=0
  ·rw[if_pos h2,if_pos h2]
  ·rw[if_neg h2,if_neg h2,if_neg h2]
 ·rw[if_neg h1,if_neg h1,if_neg h1]
theorem Ha{vf:V}{args:List V}{σ:List (List V)}{Q:Out→List (List V)→Prop}(h:A8 vf args σ Q){K P:V→List (List V)→Prop}{s:Tag K}{t:Tag P}{tg:Tag _}(hk:∀o σ',Q o σ'→yt K P o σ'):A2 vf args (fun f a=>xp G f a σ K P s t) tg:=by
 unfold A8 at h;cases vf<;>first|exact h.elim|exact h.mono hk
theorem fr{n0 k:Nat}{σ' τ:List (List V)}{ρ:ai}{rs:List RV}{Q:Out→List (List V)→Prop}(hk:n0≤k)(ht:σ'.take k=τ)(hb:ay k τ=true){v:V}(h:cG σ' ρ rs=some v)(hv:V.under k v=true)(hq:Q (.ret v) τ):fin n0 rs Q .ret ρ σ':=
 ⟨ρ,σ',.refl _ _ _,v,h,k,hk,by rw[ht];exact hb,hv,by rw[ht];exact hq⟩
theorem ce{K P:V→List (List V)→Prop}{v:V}{σ:List (List V)}:yt K P (.ret v) σ=K v σ:=rfl
theorem Nxt.drop3{n0:Nat}{R:ai→List (List V)→Prop}{ρ:ai}{σ:List (List V)}{a b c d:List V}(hn:n0≤σ.length)(hb:ay (σ++[a]).length (σ++[a])=true)(hs:aq (σ++[a]).length ρ=true)(hR:R ρ (σ++[a])):Nxt n0 R ρ (σ++[a,b,c,d]) .mk:=by
 have e:σ++[a,b,c,d]=(σ++[a])++[b,c,d]:=by simp
 rw[e];exact Nxt.drop (by rw[JI];omega) hb hs hR
set_option maxHeartbeats 4000000 in
theorem nk{S:Type}(step:S→It→Nat→List ByteArray→Int×S)(P:It→Nat→List ByteArray→Prop)(hP:BU P)(vf:V):∀l:List It,bu l≤1000000→∀(d:Nat) (bd:List ByteArray) (J:S→List (List V)→Prop) (N:Nat),Vst step P vf J N→(∀x,x∈l→P x d bd)→d+bu l≤1000000→bd.length+bu l≤1000000→
 ∀s τ,J s τ→Fun G 36 [.d (de l),mu d bd,vf] τ (EN step J l d bd s []):=by
 refine fe fun l ih hs d bd J N hV hl hd hbd s τ hJ=>?_;have hln:=eV l;have hN:=hV.len s τ hJ;refine ao Tryz.func36 k36 (by rcases hV.val with⟨f,c,rfl⟩|⟨f,c,rfl⟩<;>rfl) fun hb hw=>?_;have hlend:vf.lend=vf:=by rcases hV.val with⟨f,c,rfl⟩|⟨f,c,rfl⟩<;>rfl
 have hcopy:vf.copy=vf:=by rcases hV.val with⟨f,c,rfl⟩|⟨f,c,rfl⟩<;>rfl
 have hcm:=hcopy;unfold V.copy at hcm;have hlm:=hlend;unfold V.lend at hlm;delta c36 oM oV kI kS kT kF;simp -dsimp -implicitDefEqProofs only[aw,aj,V.copy,V.cells,V.boxable,eq_self,reduceIte,reduceCtorEq,JR,JS,JQ,JU];refine cU [2,4,14,15,16] (R:=fun(j:Nat) ρ σ'=>∃s' τ',ρ=[(2,vf),(4,.ptr N 0),(14,.d (de l)),(15,aL .i64 l.length),(16,aL .i64 j)]∧J s' τ'∧σ'=τ'++[[.d (ah d),.d (.sl (bd.map fun s=>[al s]))]]∧wks step l d bd s=wks step (l.drop j) d bd s') l.length ⟨s,τ,by rw[hN];rfl,hJ,rfl,rfl⟩ ?_ _;rintro j ρ' σ' hj ⟨s',τ',rfl,hJ',rfl,hr⟩;have hN':=hV.len s' τ' hJ';by_cases hlt:j<l.length
 ·have e:τ.length=τ'.length:=by rw[hN,hN']
  rw[e];subst hN';have hp:=hl _ (JL hlt);obtain⟨p1,p2⟩:=hP _ d bd hp;obtain⟨i1,i2⟩:=ih _ (JL hlt);have hbig:=bI l[j];have hm:=cm (JL hlt);rw[List.drop_eq_getElem_cons hlt,Ax]at hr;obtain⟨x,hx⟩:∃x,l[j]? = some x:=⟨_,JO hlt⟩
  have hx':l[j]=x:=by rw[JO hlt]at hx;exact Option.some.inj hx
  rw[hx']at hp p1 p2 i1 i2 hbig hm hr;have hc:=fun l=>hV.call s' τ' x d bd hJ' hp l;simp only[aK]at hc;simp -dsimp -implicitDefEqProofs only[aw,V.copy,V.lend,V.lend1,V.cells,V.boxable,over,JT,eq_self,reduceIte,JR,JS,JQ,JU,Int.ofNat_lt,hlt,decide_true,hx,cr x,hcm];refine Ha (hc _) ?_;rintro o σ' ⟨τ2,hJ2,rfl,rfl⟩;have hN2:=hV.len _ τ2 hJ2;rw[←hN2];by_cases s1:(step s' x d bd).1=0
  case neg=>
   rw[if_neg s1]at hr;rw[ce];simp -dsimp -implicitDefEqProofs only[aw,V.copy,eq_self,reduceIte,JR,JS,JQ,decide_eq_false s1];refine fr (v:=.d (ah (step s' x d bd).1)) (k:=τ2.length) (τ:=τ2) (JV _) JJ (by rw[hN2];exact hV.bb _ τ2 hJ2) rfl rfl ⟨τ2,by rw[hr];exact hJ2,(JH _).symm,by rw[hr]⟩
  rw[if_pos s1]at hr;rw[ce];have w1:IntKind.i64.wrap ((d:Int)+1)=((d+1:Nat):Int):=by rw[wrap_i64 (by omega) (by omega)];omega
  have w1:IntKind.i64.wrap ((d:Int)+1)=((d+1:Nat):Int):=by rw[wrap_i64 (by omega) (by omega)];omega
  have w1:IntKind.i64.wrap ((d:Int)+1)=((d+1:Nat):Int):=by rw[wrap_i64 (by omega) (by omega)];omega
  have w1:IntKind.i64.wrap ((d:Int)+1)=((d+1:Nat):Int):=by rw[wrap_i64 (by omega) (by omega)];omega
  by_cases k4:x.kind=4
  case pos=>
   have hd1:dep x d=d+1:=if_pos (.inl k4);have hb1:bnd x bd=bd:=if_neg (by omega);rw[hd1,hb1]at hr p1;rw[hd1]at p2;simp -dsimp -implicitDefEqProofs only[aw,V.copy,V.lend,V.lend1,V.cells,V.boxable,over,bc,JT,eq_self,reduceIte,JR,JS,JQ,JU,hcm,hlm,s1,decide_true,k4,Int.reduceEq,decide_false,w1];have hA:=hV.app [[V.d (ah d),V.d (.sl (bd.map fun s=>[al s]))],[.d (ah 4),.d (ah x.ex.op),.d (ah x.ex.num),.d (al x.ex.name),.d (.sl (x.ex.args.map dex)),.d (al x.name),.d (al x.idx),.d (.sl (x.ws.map dwt)),.d (.sl (x.items.map dit)),.d (.sl (x.els.map dit)),.d (.sl (x.bef.map fun s=>[al s])),.d (.sl (x.aft.map fun s=>[al s]))],[.d (ah (d+1:Nat)),(.d (.sl (bd.map fun s=>[al s])))],[.d (ah (d+1:Nat)),(.d (.sl (bd.map fun s=>[al s])))]] (by simp[V.unders,V.under])
   have g1:=i1 (by omega) (d+1) (bd) _ _ hA p1 (by omega) (by first|omega|(simp only[JI,JK,JM];omega)) _ _ ⟨τ2,hJ2,rfl⟩;have g2:=fun s τ hJ=>i2 (by omega) (d+1) bd _ _ hA p2 (by omega) (by omega) s _ ⟨τ,hJ,rfl⟩;try simp only[mu]at g1
   refine ck g1 ?_;rintro o σ' ⟨_,⟨τ3,hJ3,rfl⟩,rfl,rfl⟩;have hN3:=hV.len _ τ3 hJ3;rw[ce,JH,hN2.trans hN3.symm];by_cases s2:(wks step x.items (d+1) (bd) (step s' x d bd).2).1=0
   case neg=>
    rw[if_neg s2]at hr;simp -dsimp -implicitDefEqProofs only[aw,V.copy,eq_self,reduceIte,JR,JS,JQ,decide_eq_false s2];refine fr (v:=.d (ah (wks step x.items (d+1) (bd) (step s' x d bd).2).1)) (k:=τ3.length) (τ:=τ3) (JV _) JJ (by rw[hN3];exact hV.bb _ τ3 hJ3) rfl rfl ⟨τ3,by rw[hr];exact hJ3,(JH _).symm,by rw[hr]⟩
   rw[if_pos s2]at hr;simp -dsimp -implicitDefEqProofs only[aw,V.copy,V.lend,V.lend1,JT,eq_self,reduceIte,JR,JS,JQ,JU,hcm,hlm,s2,decide_true];refine ck (g2 _ τ3 hJ3) ?_;rintro o σ' ⟨_,⟨τ4,hJ4,rfl⟩,rfl,rfl⟩;have hN4:=hV.len _ τ4 hJ4;rw[ce,JH,hN3.trans hN4.symm];by_cases s3:(wks step x.els (d+1) bd (wks step x.items (d+1) (bd) (step s' x d bd).2).2).1=0
   case neg=>
    rw[if_neg s3]at hr;simp -dsimp -implicitDefEqProofs only[aw,V.copy,eq_self,reduceIte,JR,JS,JQ,decide_eq_false s3];refine fr (v:=.d (ah (wks step x.els (d+1) bd (wks step x.items (d+1) (bd) (step s' x d bd).2).2).1)) (k:=τ4.length) (τ:=τ4) (JV _) JJ (by rw[hN4];exact hV.bb _ τ4 hJ4) rfl rfl ⟨τ4,by rw[hr];exact hJ4,(JH _).symm,by rw[hr]⟩
   rw[if_pos s3]at hr;simp -dsimp -implicitDefEqProofs only[aw,V.copy,eq_self,reduceIte,JR,JS,JQ,s3,decide_true,aH hlt (show l.length≤9223372036854775807 by omega)];have hb4:ay (τ4++[[V.d (ah d),V.d (.sl (bd.map fun s=>[al s]))]]).length (τ4++[[V.d (ah d),V.d (.sl (bd.map fun s=>[al s]))]])=true:=an (by rw[hN4];exact hV.bb _ τ4 hJ4) (by simp[V.unders,V.under]);exact⟨hlt,Nxt.drop3 (by simp) hb4 (by simp[aq,V.under];exact V.under_mono (by omega) _ hV.und) ⟨_,τ4,by rw[hN4],hJ4,rfl,hr⟩⟩
  by_cases k5:x.kind=5
  case pos=>
   have hd1:dep x d=d+1:=if_pos (.inr k5);have hb1:bnd x bd=bd++[x.idx]:=if_pos k5;rw[hd1,hb1]at hr p1;rw[hd1]at p2;simp -dsimp -implicitDefEqProofs only[aw,V.copy,V.lend,V.cells,V.boxable,over,bc,JT,cond_false,eq_self,reduceIte,JR,JS,JQ,JU,JW,s1,decide_true,k5,Int.reduceEq,decide_false,w1];refine gH (ve bd (by omega) _) ?_ ?_
   ·simp -dsimp -implicitDefEqProofs only[aw]
   simp -dsimp -implicitDefEqProofs only[aw,V.copy,V.cells,aC,aF,V.plain,JT,eq_self,reduceIte,JR,JS,JQ,JU,JW];refine bt (by omega) ?_;simp -dsimp -implicitDefEqProofs only[aw,V.copy,V.lend,V.lend1,over,JT,eq_self,reduceIte,JR,JS,JQ,JU,hcm,hlm];have hA:=hV.app [[V.d (ah d),V.d (.sl (bd.map fun s=>[al s]))],[.d (ah 5),.d (ah x.ex.op),.d (ah x.ex.num),.d (al x.ex.name),.d (.sl (x.ex.args.map dex)),.d (al x.name),.d (al x.idx),.d (.sl (x.ws.map dwt)),.d (.sl (x.items.map dit)),.d (.sl (x.els.map dit)),.d (.sl (x.bef.map fun s=>[al s])),.d (.sl (x.aft.map fun s=>[al s]))],[.d (ah (d+1:Nat)),.own 9 1 ((bd.map fun s=>[al s])++[[al x.idx]])],[.d (ah (d+1:Nat)),(.d (.sl (bd.map fun s=>[al s])))]] (by simp[V.unders,V.under])
   have g1:=i1 (by omega) (d+1) (bd++[x.idx]) _ _ hA p1 (by omega) (by first|omega|(simp only[JI,JK,JM];omega)) _ _ ⟨τ2,hJ2,rfl⟩;have g2:=fun s τ hJ=>i2 (by omega) (d+1) bd _ _ hA p2 (by omega) (by omega) s _ ⟨τ,hJ,rfl⟩;try simp only[mu,List.map_append,List.map_cons,List.map_nil]at g1
   refine ck g1 ?_;rintro o σ' ⟨_,⟨τ3,hJ3,rfl⟩,rfl,rfl⟩;have hN3:=hV.len _ τ3 hJ3;rw[ce,JH,hN2.trans hN3.symm];by_cases s2:(wks step x.items (d+1) (bd++[x.idx]) (step s' x d bd).2).1=0
   case neg=>
    rw[if_neg s2]at hr;simp -dsimp -implicitDefEqProofs only[aw,V.copy,eq_self,reduceIte,JR,JS,JQ,decide_eq_false s2];refine fr (v:=.d (ah (wks step x.items (d+1) (bd++[x.idx]) (step s' x d bd).2).1)) (k:=τ3.length) (τ:=τ3) (JV _) JJ (by rw[hN3];exact hV.bb _ τ3 hJ3) rfl rfl ⟨τ3,by rw[hr];exact hJ3,(JH _).symm,by rw[hr]⟩
   rw[if_pos s2]at hr;simp -dsimp -implicitDefEqProofs only[aw,V.copy,V.lend,V.lend1,JT,eq_self,reduceIte,JR,JS,JQ,JU,hcm,hlm,s2,decide_true];refine ck (g2 _ τ3 hJ3) ?_;rintro o σ' ⟨_,⟨τ4,hJ4,rfl⟩,rfl,rfl⟩;have hN4:=hV.len _ τ4 hJ4;rw[ce,JH,hN3.trans hN4.symm];by_cases s3:(wks step x.els (d+1) bd (wks step x.items (d+1) (bd++[x.idx]) (step s' x d bd).2).2).1=0
   case neg=>
    rw[if_neg s3]at hr;simp -dsimp -implicitDefEqProofs only[aw,V.copy,eq_self,reduceIte,JR,JS,JQ,decide_eq_false s3];refine fr (v:=.d (ah (wks step x.els (d+1) bd (wks step x.items (d+1) (bd++[x.idx]) (step s' x d bd).2).2).1)) (k:=τ4.length) (τ:=τ4) (JV _) JJ (by rw[hN4];exact hV.bb _ τ4 hJ4) rfl rfl ⟨τ4,by rw[hr];exact hJ4,(JH _).symm,by rw[hr]⟩
   rw[if_pos s3]at hr;simp -dsimp -implicitDefEqProofs only[aw,V.copy,eq_self,reduceIte,JR,JS,JQ,s3,decide_true,aH hlt (show l.length≤9223372036854775807 by omega)];have hb4:ay (τ4++[[V.d (ah d),V.d (.sl (bd.map fun s=>[al s]))]]).length (τ4++[[V.d (ah d),V.d (.sl (bd.map fun s=>[al s]))]])=true:=an (by rw[hN4];exact hV.bb _ τ4 hJ4) (by simp[V.unders,V.under]);exact⟨hlt,Nxt.drop3 (by simp) hb4 (by simp[aq,V.under];exact V.under_mono (by omega) _ hV.und) ⟨_,τ4,by rw[hN4],hJ4,rfl,hr⟩⟩
  have hd1:dep x d=d:=if_neg (by omega);have hb1:bnd x bd=bd:=if_neg (by omega);rw[hd1,hb1]at hr p1;rw[hd1]at p2;simp -dsimp -implicitDefEqProofs only[aw,V.copy,V.lend,V.lend1,V.cells,V.boxable,over,bc,JT,cond_false,eq_self,reduceIte,JR,JS,JQ,JU,hcm,hlm,s1,decide_true,decide_eq_false k4,decide_eq_false k5];have hA:=hV.app [[V.d (ah d),V.d (.sl (bd.map fun s=>[al s]))],[.d (ah x.kind),.d (ah x.ex.op),.d (ah x.ex.num),.d (al x.ex.name),.d (.sl (x.ex.args.map dex)),.d (al x.name),.d (al x.idx),.d (.sl (x.ws.map dwt)),.d (.sl (x.items.map dit)),.d (.sl (x.els.map dit)),.d (.sl (x.bef.map fun s=>[al s])),.d (.sl (x.aft.map fun s=>[al s]))],[.d (ah d),(.d (.sl (bd.map fun s=>[al s])))],[.d (ah d),(.d (.sl (bd.map fun s=>[al s])))]] (by simp[V.unders,V.under])
  have g1:=i1 (by omega) (d) (bd) _ _ hA p1 (by omega) (by first|omega|(simp only[JI,JK,JM];omega)) _ _ ⟨τ2,hJ2,rfl⟩;have g2:=fun s τ hJ=>i2 (by omega) (d) bd _ _ hA p2 (by omega) (by omega) s _ ⟨τ,hJ,rfl⟩;try simp only[mu]at g1
  refine ck g1 ?_;rintro o σ' ⟨_,⟨τ3,hJ3,rfl⟩,rfl,rfl⟩;have hN3:=hV.len _ τ3 hJ3;rw[ce,JH,hN2.trans hN3.symm];by_cases s2:(wks step x.items (d) (bd) (step s' x d bd).2).1=0
  case neg=>
   rw[if_neg s2]at hr;simp -dsimp -implicitDefEqProofs only[aw,V.copy,eq_self,reduceIte,JR,JS,JQ,decide_eq_false s2];refine fr (v:=.d (ah (wks step x.items (d) (bd) (step s' x d bd).2).1)) (k:=τ3.length) (τ:=τ3) (JV _) JJ (by rw[hN3];exact hV.bb _ τ3 hJ3) rfl rfl ⟨τ3,by rw[hr];exact hJ3,(JH _).symm,by rw[hr]⟩
  rw[if_pos s2]at hr;simp -dsimp -implicitDefEqProofs only[aw,V.copy,V.lend,V.lend1,JT,eq_self,reduceIte,JR,JS,JQ,JU,hcm,hlm,s2,decide_true];refine ck (g2 _ τ3 hJ3) ?_;rintro o σ' ⟨_,⟨τ4,hJ4,rfl⟩,rfl,rfl⟩;have hN4:=hV.len _ τ4 hJ4;rw[ce,JH,hN3.trans hN4.symm];by_cases s3:(wks step x.els (d) bd (wks step x.items (d) (bd) (step s' x d bd).2).2).1=0
  case neg=>
   rw[if_neg s3]at hr;simp -dsimp -implicitDefEqProofs only[aw,V.copy,eq_self,reduceIte,JR,JS,JQ,decide_eq_false s3];refine fr (v:=.d (ah (wks step x.els (d) bd (wks step x.items (d) (bd) (step s' x d bd).2).2).1)) (k:=τ4.length) (τ:=τ4) (JV _) JJ (by rw[hN4];exact hV.bb _ τ4 hJ4) rfl rfl ⟨τ4,by rw[hr];exact hJ4,(JH _).symm,by rw[hr]⟩
  rw[if_pos s3]at hr;simp -dsimp -implicitDefEqProofs only[aw,V.copy,eq_self,reduceIte,JR,JS,JQ,s3,decide_true,aH hlt (show l.length≤9223372036854775807 by omega)];have hb4:ay (τ4++[[V.d (ah d),V.d (.sl (bd.map fun s=>[al s]))]]).length (τ4++[[V.d (ah d),V.d (.sl (bd.map fun s=>[al s]))]])=true:=an (by rw[hN4];exact hV.bb _ τ4 hJ4) (by simp[V.unders,V.under]);exact⟨hlt,Nxt.drop3 (by simp) hb4 (by simp[aq,V.under];exact V.under_mono (by omega) _ hV.und) ⟨_,τ4,by rw[hN4],hJ4,rfl,hr⟩⟩
 ·simp -dsimp -implicitDefEqProofs only[aw,V.copy,eq_self,reduceIte,JR,JS,JQ,Int.ofNat_lt,hlt,decide_false];rw[List.drop_eq_nil_of_le (by omega)]at hr;refine fr (k:=N) (τ:=τ') (by omega) (by rw[←hN'];exact JJ) (hV.bb s' τ' hJ') rfl rfl ⟨τ',by rw[hr];exact hJ',(JH _).symm,by rw[hr];rfl⟩
end Go.Proofs.YthoebpnbhgmoiaaGreatDoor
