import Derived.Test.YtnhphlmblenapaaGreatDoorIw2
set_option linter.unusedVariables false
set_option linter.unusedSimpArgs false
set_option linter.unusedSectionVars false
set_option maxHeartbeats 4000000
open Int renaming reduceEq->Sq,ofNat_lt->Ss
open List renaming append_nil->Su,length_append->Sv,getElem?_append_right->Sw,getElem?_eq_getElem->Sx,take_left->Sy,getElem_mem->SA,length_map->SB,getElem?_append_left->SC,map_cons->SD,map_nil->SE,append_assoc->SF,length_cons->SG,map_append->SH,length_nil->SI,drop_eq_getElem_cons->SJ,drop_eq_nil_of_le->SK,take_length->SL,take->SM,map->SN
open Nat renaming le_refl->SO,sub_self->SP
open Ne renaming symm->SQ
namespace Go.Proofs.YtnhphlmblenapaaGreatDoor
open Go.RowKit
open Nat renaming reduceLeDiff -> jA, reduceBEq -> jB, reduceLT -> jC, reduceEqDiff -> jD, reduceAdd -> jE, reduceSub -> jF, reduceMul -> jG
open V renaming copy -> jV, lend -> jW, lend1 -> jX, cells -> jY, boxable -> jZ
def Ge(vf:V)(args:List V)(σ:LLV)(Q:Out->LLV->Prop):Prop:=
 match vf with
 | .fn f cap=>Fun G f (args++cap) σ Q
 | .bnd f first=>Fun G f (first++args) σ Q
 | _=>False
structure Vst{S:Type}(step:S->It->Nat->List ByteArray->Int×S)(P:It->Nat->List ByteArray->Prop)(vf:V)(J:S->LLV->Prop)(N:Nat):Prop where
 len:∀s τ,J s τ->τ.length=N
 bb:∀s τ,J s τ->ak N τ=true
 und:V.under N vf=true
 val:(∃f c,vf=.fn f c)\/(∃f c,vf=.bnd f c)
 call:∀s τ x d bd,J s τ->P x d bd->∀l,Ge vf [vit x,BE d bd] (τ++l) (fun o σ'=>∃τ',J (step s x d bd).2 τ'/\σ'=τ'++l/\o=.ret (.d (ab (step s x d bd).1)))
theorem Vst.app{S:Type}{step:S->It->Nat->List ByteArray->Int×S}{P:It->Nat->List ByteArray->Prop}{vf:V}{J:S->LLV->Prop}{N:Nat}(h:Vst step P vf J N)(L:LLV)(hL:L.all (fun cs=>V.unders (N+L.length) cs)=true):
 Vst step P vf (fun s σ=>∃τ,J s τ/\σ=τ++L) (N+L.length) where
 len:=fun s σ ⟨τ,h1,e⟩=>by rw[e,Sv,h.len s τ h1]
 bb:=fun s σ ⟨τ,h1,e⟩=>by
  have h2:=h.bb s τ h1;have h3:=h.len s τ h1;rw[<-h3]at h2 hL ⊢;rw[e,<-Sv];exact aq h2 (by rw[Sv];exact hL)
 und:=V.under_mono (by omega) _ h.und
 val:=h.val
 call:=fun s σ x d bd ⟨τ,h1,e⟩ hp l=>by
  subst e;have:=h.call s τ x d bd h1 hp (L++l);rw[SF]
  have hm:∀o σ',(∃τ',J (step s x d bd).2 τ'/\σ'=τ'++(L++l)/\o=Out.ret (.d (ab (step s x d bd).1)))->∃τ',(∃τ2,J (step s x d bd).2 τ2/\τ'=τ2++L)/\σ'=τ'++l/\o=Out.ret (.d (ab (step s x d bd).1)):=fun o σ' ⟨τ',g1,g2,g3⟩=>
   ⟨τ'++L,⟨τ',g1,rfl⟩,by rw[g2,SF],g3⟩
  unfold Ge at this ⊢;cases vf<;>first|exact this.elim|exact this.mono hm
def MW(P:It->Nat->List ByteArray->Prop):Prop:=∀x d bd,P x d bd->(∀y,y∈x.items->P y (dep x d) (bnd x bd))/\(∀y,y∈x.els->P y (dep x d) bd)
def MV{S:Type}(step:S->It->Nat->List ByteArray->Int×S)(J:S->LLV->Prop)(l:List It)(d:Nat)(bd:List ByteArray)(s:S)(L:LLV):Out->LLV->Prop:=
 fun o σ'=>∃τ',J (wks step l d bd s).2 τ'/\σ'=τ'++L/\o=.ret (.d (ab (wks step l d bd s).1))
theorem CT{S:Type}(step:S->It->Nat->List ByteArray->Int×S)(x:It)(r:List It)(d:Nat)(bd:List ByteArray)(s:S):wks step (x::r) d bd s=
 if(step s x d bd).1=0 then(if(wks step x.items (dep x d) (bnd x bd) (step s x d bd).2).1=0 then
  (if(wks step x.els (dep x d) bd (wks step x.items (dep x d) (bnd x bd) (step s x d bd).2).2).1=0 then wks step r d bd (wks step x.els (dep x d) bd (wks step x.items (dep x d) (bnd x bd) (step s x d bd).2).2).2
    else wks step x.els (dep x d) bd (wks step x.items (dep x d) (bnd x bd) (step s x d bd).2).2)
  else wks step x.items (dep x d) (bnd x bd) (step s x d bd).2)else step s x d bd:=by
 rw[wks,Im];by_cases h1:(step s x d bd).1=0
 .rw[if_pos h1,if_pos h1];by_cases h2:(wks step x.items (dep x d) (bnd x bd) (step s x d bd).2).1=0
  .rw[if_pos h2,if_pos h2]
  .rw[if_neg h2,if_neg h2,if_neg h2]
 .rw[if_neg h1,if_neg h1,if_neg h1]
theorem KZ{vf:V}{args:List V}{σ:LLV}{Q:Out->LLV->Prop}(h:Ge vf args σ Q){K P:V->LLV->Prop}{s:Tag K}{t:Tag P}{tg:Tag _}(hk:∀o σ',Q o σ'->DU K P o σ'):GS vf args (fun f a=>e8 G f a σ K P s t) tg:=by
 unfold Ge at h;cases vf<;>first|exact h.elim|exact h.mono hk
theorem kr{n0 k:Nat}{σ' τ:LLV}{ρ:ai}{rs:List RV}{Q:Out->LLV->Prop}(hk:n0≤k)(ht:σ'.take k=τ)(hb:ak k τ=true){v:V}(h:aC σ' ρ rs=some v)(hv:V.under k v=true)(hq:Q (.ret v) τ):fin n0 rs Q .ret ρ σ':=
 ⟨ρ,σ',.refl _ _ _,v,h,k,hk,by rw[ht];exact hb,hv,by rw[ht];exact hq⟩
theorem Nxt.drop3{n0:Nat}{R:ai->LLV->Prop}{ρ:ai}{σ:LLV}{a b c d:List V}(hn:n0≤σ.length)(hb:ak (σ++[a]).length (σ++[a])=true)(hs:au (σ++[a]).length ρ=true)(hR:R ρ (σ++[a])):Nxt n0 R ρ (σ++[a,b,c,d]) .mk:=by
 have e:σ++[a,b,c,d]=(σ++[a])++[b,c,d]:=by simp
 rw[e];exact Nxt.drop (by rw[Sv];omega) hb hs hR
theorem Dd{S:Type}(step:S->It->Nat->List ByteArray->Int×S)(P:It->Nat->List ByteArray->Prop)(hP:MW P)(vf:V):∀l:List It,bi l≤1200000->∀(d:Nat) (bd:List ByteArray) (J:S->LLV->Prop) (N:Nat),Vst step P vf J N->(∀x,x∈l->P x d bd)->d+bi l≤1200000->bd.length+bi l≤1200000->
 ∀s τ,J s τ->Fun G 67 [.d (gR l),BE d bd,vf] τ (MV step J l d bd s []):=by
 refine jR fun l ih hs d bd J N hV hl hd hbd s τ hJ=>?_;have hln:=nJ l;have hN:=hV.len s τ hJ;refine ae Tryz.func67 k67 (by rcases hV.val with⟨f,c,rfl⟩|⟨f,c,rfl⟩<;>rfl) fun hb hw=>?_;have hlend:vf.lend=vf:=by rcases hV.val with⟨f,c,rfl⟩|⟨f,c,rfl⟩<;>rfl
 have hcopy:vf.copy=vf:=by rcases hV.val with⟨f,c,rfl⟩|⟨f,c,rfl⟩<;>rfl
 have hcm:=hcopy;unfold V.copy at hcm;have hlm:=hlend;unfold V.lend at hlm;unfold c67;simp -dsimp only[aw,jW,jV,jX,jY,jZ,reduceIte,jA,reduceCtorEq,jB,jC,jD,jE,jF,jG,SB,hcm];refine aS [2,4,14,15,16] (R:=fun(j:Nat) ρ σ'=>∃s' τ',ρ=[(2,vf),(4,.ptr N 0),(14,.d (gR l)),(15,aK .i64 l.length),(16,aK .i64 j)]/\J s' τ'/\σ'=τ'++[[.d (ab d),.d (.sl (bd.map fun s=>[aj s]))]]/\wks step l d bd s=wks step (l.drop j) d bd s') l.length ⟨s,τ,by rw[hN];rfl,hJ,rfl,rfl⟩ ?_ _;rintro j ρ' σ' hj ⟨s',τ',rfl,hJ',rfl,hr⟩;have hN':=hV.len s' τ' hJ';by_cases hlt:j<l.length
 .have e:τ.length=τ'.length:=by rw[hN,hN']
  rw[e];subst hN';have hp:=hl _ (SA hlt);obtain⟨p1,p2⟩:=hP _ d bd hp;obtain⟨i1,i2⟩:=ih _ (SA hlt);have hbig:=ep l[j];have hm:=gV (SA hlt);rw[SJ hlt,CT]at hr;obtain⟨x,hx⟩:∃x,l[j]? = some x:=⟨_,Sx hlt⟩
  have hx':l[j]=x:=by rw[Sx hlt]at hx;exact Option.some.inj hx
  rw[hx']at hp p1 p2 i1 i2 hbig hm hr;have hc:=fun l=>hV.call s' τ' x d bd hJ' hp l;simp only[aJ]at hc;simp -dsimp only[aw,jW,jV,jX,jY,jZ,reduceIte,jA,reduceCtorEq,jB,jC,jD,jE,jF,jG,Ss,hlt,decide_true,hx,dq x,hcm];refine KZ (hc _) ?_;rintro o σ' ⟨τ2,hJ2,rfl,rfl⟩;have hN2:=hV.len _ τ2 hJ2;rw[<-hN2];by_cases s1:(step s' x d bd).1=0
  case neg=>
   rw[if_neg s1]at hr;rw[aP];simp -dsimp only[aw,jW,jV,jX,jY,jZ,reduceIte,jA,reduceCtorEq,jB,jC,jD,jE,jF,jG,decide_eq_false s1];refine kr (v:=.d (ab (step s' x d bd).1)) (k:=τ2.length) (τ:=τ2) (SO _) Sy (by rw[hN2];exact hV.bb _ τ2 hJ2) rfl rfl ⟨τ2,by rw[hr];exact hJ2,(Su _).symm,by rw[hr]⟩
  rw[if_pos s1]at hr;rw[aP];have w1:IntKind.i64.wrap ((d:Int)+1)=((d+1:Nat):Int):=by rw[aA (by omega) (by omega)];omega
  have w1:IntKind.i64.wrap ((d:Int)+1)=((d+1:Nat):Int):=by rw[aA (by omega) (by omega)];omega
  have w1:IntKind.i64.wrap ((d:Int)+1)=((d+1:Nat):Int):=by rw[aA (by omega) (by omega)];omega
  have w1:IntKind.i64.wrap ((d:Int)+1)=((d+1:Nat):Int):=by rw[aA (by omega) (by omega)];omega
  by_cases k4:x.kind=4
  case pos=>
   have hd1:dep x d=d+1:=if_pos (.inl k4);have hb1:bnd x bd=bd:=if_neg (by omega);rw[hd1,hb1]at hr p1;rw[hd1]at p2;simp -dsimp only[aw,jW,jV,jX,jY,jZ,reduceIte,jA,reduceCtorEq,jB,jC,jD,jE,jF,jG,hcm,hlm,s1,decide_true,k4,Sq,decide_false,w1];have hA:=hV.app [[V.d (ab d),V.d (.sl (bd.map fun s=>[aj s]))],[.d (ab 4),.d (ab x.ex.op),.d (ab x.ex.num),.d (aj x.ex.name),.d (.sl (x.ex.args.map dex)),.d (aj x.name),.d (aj x.idx),.d (.sl (x.ws.map dwt)),.d (.sl (x.items.map dit)),.d (.sl (x.els.map dit)),.d (.sl (x.bef.map fun s=>[aj s])),.d (.sl (x.aft.map fun s=>[aj s]))],[.d (ab (d+1:Nat)),(.d (.sl (bd.map fun s=>[aj s])))],[.d (ab (d+1:Nat)),(.d (.sl (bd.map fun s=>[aj s])))]] (by simp[V.unders,V.under])
   have g1:=i1 (by omega) (d+1) (bd) _ _ hA p1 (by omega) (by first|omega|(simp only[Sv,SG,SI];omega)) _ _ ⟨τ2,hJ2,rfl⟩;have g2:=fun s τ hJ=>i2 (by omega) (d+1) bd _ _ hA p2 (by omega) (by omega) s _ ⟨τ,hJ,rfl⟩;try simp only[BE,SH,SD,SE]at g1
   refine aB g1 ?_;rintro o σ' ⟨_,⟨τ3,hJ3,rfl⟩,rfl,rfl⟩;have hN3:=hV.len _ τ3 hJ3;rw[aP,Su,hN2.trans hN3.symm];by_cases s2:(wks step x.items (d+1) (bd) (step s' x d bd).2).1=0
   case neg=>
    rw[if_neg s2]at hr;simp -dsimp only[aw,jW,jV,jX,jY,jZ,reduceIte,jA,reduceCtorEq,jB,jC,jD,jE,jF,jG,decide_eq_false s2];refine kr (v:=.d (ab (wks step x.items (d+1) (bd) (step s' x d bd).2).1)) (k:=τ3.length) (τ:=τ3) (SO _) Sy (by rw[hN3];exact hV.bb _ τ3 hJ3) rfl rfl ⟨τ3,by rw[hr];exact hJ3,(Su _).symm,by rw[hr]⟩
   rw[if_pos s2]at hr;simp -dsimp only[aw,jW,jV,jX,jY,jZ,reduceIte,jA,reduceCtorEq,jB,jC,jD,jE,jF,jG,hcm,hlm,s2,decide_true];refine aB (g2 _ τ3 hJ3) ?_;rintro o σ' ⟨_,⟨τ4,hJ4,rfl⟩,rfl,rfl⟩;have hN4:=hV.len _ τ4 hJ4;rw[aP,Su,hN3.trans hN4.symm];by_cases s3:(wks step x.els (d+1) bd (wks step x.items (d+1) (bd) (step s' x d bd).2).2).1=0
   case neg=>
    rw[if_neg s3]at hr;simp -dsimp only[aw,jW,jV,jX,jY,jZ,reduceIte,jA,reduceCtorEq,jB,jC,jD,jE,jF,jG,decide_eq_false s3];refine kr (v:=.d (ab (wks step x.els (d+1) bd (wks step x.items (d+1) (bd) (step s' x d bd).2).2).1)) (k:=τ4.length) (τ:=τ4) (SO _) Sy (by rw[hN4];exact hV.bb _ τ4 hJ4) rfl rfl ⟨τ4,by rw[hr];exact hJ4,(Su _).symm,by rw[hr]⟩
   rw[if_pos s3]at hr;simp -dsimp only[aw,jW,jV,jX,jY,jZ,reduceIte,jA,reduceCtorEq,jB,jC,jD,jE,jF,jG,hcm,hlm,s3,decide_true,aT hlt (show l.length≤9223372036854775807 by omega)];have hb4:ak (τ4++[[V.d (ab d),V.d (.sl (bd.map fun s=>[aj s]))]]).length (τ4++[[V.d (ab d),V.d (.sl (bd.map fun s=>[aj s]))]])=true:=aq (by rw[hN4];exact hV.bb _ τ4 hJ4) (by simp[V.unders,V.under]);exact⟨hlt,Nxt.drop3 (by simp) hb4 (by simp[au,V.under];exact V.under_mono (by omega) _ hV.und) ⟨_,τ4,by rw[hN4],hJ4,rfl,hr⟩⟩
  by_cases k5:x.kind=5
  case pos=>
   have hd1:dep x d=d+1:=if_pos (.inr k5);have hb1:bnd x bd=bd++[x.idx]:=if_pos k5;rw[hd1,hb1]at hr p1;rw[hd1]at p2;simp -dsimp only[aw,jW,jV,jX,jY,jZ,reduceIte,jA,reduceCtorEq,jB,jC,jD,jE,jF,jG,hcm,hlm,s1,decide_true,k5,Sq,decide_false,w1];refine vu (Cy bd (by omega) _) ?_ ?_
   .simp -dsimp only[aw,jW,jV,jX,jY,jZ,reduceIte,jA,reduceCtorEq,jB,jC,jD,jE,jF,jG]
   simp -dsimp only[aw,jW,jV,jX,jY,jZ,reduceIte,jA,reduceCtorEq,jB,jC,jD,jE,jF,jG,hcm,hlm,k5];refine bh (by omega) ?_;simp -dsimp only[aw,jW,jV,jX,jY,jZ,reduceIte,jA,reduceCtorEq,jB,jC,jD,jE,jF,jG,hcm,hlm,k5];have hA:=hV.app [[V.d (ab d),V.d (.sl (bd.map fun s=>[aj s]))],[.d (ab 5),.d (ab x.ex.op),.d (ab x.ex.num),.d (aj x.ex.name),.d (.sl (x.ex.args.map dex)),.d (aj x.name),.d (aj x.idx),.d (.sl (x.ws.map dwt)),.d (.sl (x.items.map dit)),.d (.sl (x.els.map dit)),.d (.sl (x.bef.map fun s=>[aj s])),.d (.sl (x.aft.map fun s=>[aj s]))],[.d (ab (d+1:Nat)),.own 9 1 ((bd.map fun s=>[aj s])++[[aj x.idx]])],[.d (ab (d+1:Nat)),(.d (.sl (bd.map fun s=>[aj s])))]] (by simp[V.unders,V.under]);have g1:=i1 (by omega) (d+1) (bd++[x.idx]) _ _ hA p1 (by omega) (by first|omega|(simp only[Sv,SG,SI];omega)) _ _ ⟨τ2,hJ2,rfl⟩
   have g2:=fun s τ hJ=>i2 (by omega) (d+1) bd _ _ hA p2 (by omega) (by omega) s _ ⟨τ,hJ,rfl⟩;try simp only[BE,SH,SD,SE]at g1
   refine aB g1 ?_;rintro o σ' ⟨_,⟨τ3,hJ3,rfl⟩,rfl,rfl⟩;have hN3:=hV.len _ τ3 hJ3;rw[aP,Su,hN2.trans hN3.symm];by_cases s2:(wks step x.items (d+1) (bd++[x.idx]) (step s' x d bd).2).1=0
   case neg=>
    rw[if_neg s2]at hr;simp -dsimp only[aw,jW,jV,jX,jY,jZ,reduceIte,jA,reduceCtorEq,jB,jC,jD,jE,jF,jG,decide_eq_false s2];refine kr (v:=.d (ab (wks step x.items (d+1) (bd++[x.idx]) (step s' x d bd).2).1)) (k:=τ3.length) (τ:=τ3) (SO _) Sy (by rw[hN3];exact hV.bb _ τ3 hJ3) rfl rfl ⟨τ3,by rw[hr];exact hJ3,(Su _).symm,by rw[hr]⟩
   rw[if_pos s2]at hr;simp -dsimp only[aw,jW,jV,jX,jY,jZ,reduceIte,jA,reduceCtorEq,jB,jC,jD,jE,jF,jG,hcm,hlm,s2,decide_true];refine aB (g2 _ τ3 hJ3) ?_;rintro o σ' ⟨_,⟨τ4,hJ4,rfl⟩,rfl,rfl⟩;have hN4:=hV.len _ τ4 hJ4;rw[aP,Su,hN3.trans hN4.symm];by_cases s3:(wks step x.els (d+1) bd (wks step x.items (d+1) (bd++[x.idx]) (step s' x d bd).2).2).1=0
   case neg=>
    rw[if_neg s3]at hr;simp -dsimp only[aw,jW,jV,jX,jY,jZ,reduceIte,jA,reduceCtorEq,jB,jC,jD,jE,jF,jG,decide_eq_false s3];refine kr (v:=.d (ab (wks step x.els (d+1) bd (wks step x.items (d+1) (bd++[x.idx]) (step s' x d bd).2).2).1)) (k:=τ4.length) (τ:=τ4) (SO _) Sy (by rw[hN4];exact hV.bb _ τ4 hJ4) rfl rfl ⟨τ4,by rw[hr];exact hJ4,(Su _).symm,by rw[hr]⟩
   rw[if_pos s3]at hr;simp -dsimp only[aw,jW,jV,jX,jY,jZ,reduceIte,jA,reduceCtorEq,jB,jC,jD,jE,jF,jG,hcm,hlm,s3,decide_true,aT hlt (show l.length≤9223372036854775807 by omega)];have hb4:ak (τ4++[[V.d (ab d),V.d (.sl (bd.map fun s=>[aj s]))]]).length (τ4++[[V.d (ab d),V.d (.sl (bd.map fun s=>[aj s]))]])=true:=aq (by rw[hN4];exact hV.bb _ τ4 hJ4) (by simp[V.unders,V.under]);exact⟨hlt,Nxt.drop3 (by simp) hb4 (by simp[au,V.under];exact V.under_mono (by omega) _ hV.und) ⟨_,τ4,by rw[hN4],hJ4,rfl,hr⟩⟩
  have hd1:dep x d=d:=if_neg (by omega);have hb1:bnd x bd=bd:=if_neg (by omega);rw[hd1,hb1]at hr p1;rw[hd1]at p2;simp -dsimp only[aw,jW,jV,jX,jY,jZ,reduceIte,jA,reduceCtorEq,jB,jC,jD,jE,jF,jG,hcm,hlm,s1,decide_true,decide_eq_false k4,decide_eq_false k5,Sq,decide_false];have hA:=hV.app [[V.d (ab d),V.d (.sl (bd.map fun s=>[aj s]))],[.d (ab x.kind),.d (ab x.ex.op),.d (ab x.ex.num),.d (aj x.ex.name),.d (.sl (x.ex.args.map dex)),.d (aj x.name),.d (aj x.idx),.d (.sl (x.ws.map dwt)),.d (.sl (x.items.map dit)),.d (.sl (x.els.map dit)),.d (.sl (x.bef.map fun s=>[aj s])),.d (.sl (x.aft.map fun s=>[aj s]))],[.d (ab d),(.d (.sl (bd.map fun s=>[aj s])))],[.d (ab d),(.d (.sl (bd.map fun s=>[aj s])))]] (by simp[V.unders,V.under])
  have g1:=i1 (by omega) (d) (bd) _ _ hA p1 (by omega) (by first|omega|(simp only[Sv,SG,SI];omega)) _ _ ⟨τ2,hJ2,rfl⟩;have g2:=fun s τ hJ=>i2 (by omega) (d) bd _ _ hA p2 (by omega) (by omega) s _ ⟨τ,hJ,rfl⟩;try simp only[BE,SH,SD,SE]at g1
  refine aB g1 ?_;rintro o σ' ⟨_,⟨τ3,hJ3,rfl⟩,rfl,rfl⟩;have hN3:=hV.len _ τ3 hJ3;rw[aP,Su,hN2.trans hN3.symm];by_cases s2:(wks step x.items (d) (bd) (step s' x d bd).2).1=0
  case neg=>
   rw[if_neg s2]at hr;simp -dsimp only[aw,jW,jV,jX,jY,jZ,reduceIte,jA,reduceCtorEq,jB,jC,jD,jE,jF,jG,decide_eq_false s2];refine kr (v:=.d (ab (wks step x.items (d) (bd) (step s' x d bd).2).1)) (k:=τ3.length) (τ:=τ3) (SO _) Sy (by rw[hN3];exact hV.bb _ τ3 hJ3) rfl rfl ⟨τ3,by rw[hr];exact hJ3,(Su _).symm,by rw[hr]⟩
  rw[if_pos s2]at hr;simp -dsimp only[aw,jW,jV,jX,jY,jZ,reduceIte,jA,reduceCtorEq,jB,jC,jD,jE,jF,jG,hcm,hlm,s2,decide_true];refine aB (g2 _ τ3 hJ3) ?_;rintro o σ' ⟨_,⟨τ4,hJ4,rfl⟩,rfl,rfl⟩;have hN4:=hV.len _ τ4 hJ4;rw[aP,Su,hN3.trans hN4.symm];by_cases s3:(wks step x.els (d) bd (wks step x.items (d) (bd) (step s' x d bd).2).2).1=0
  case neg=>
   rw[if_neg s3]at hr;simp -dsimp only[aw,jW,jV,jX,jY,jZ,reduceIte,jA,reduceCtorEq,jB,jC,jD,jE,jF,jG,decide_eq_false s3];refine kr (v:=.d (ab (wks step x.els (d) bd (wks step x.items (d) (bd) (step s' x d bd).2).2).1)) (k:=τ4.length) (τ:=τ4) (SO _) Sy (by rw[hN4];exact hV.bb _ τ4 hJ4) rfl rfl ⟨τ4,by rw[hr];exact hJ4,(Su _).symm,by rw[hr]⟩
  rw[if_pos s3]at hr;simp -dsimp only[aw,jW,jV,jX,jY,jZ,reduceIte,jA,reduceCtorEq,jB,jC,jD,jE,jF,jG,hcm,hlm,s3,decide_true,aT hlt (show l.length≤9223372036854775807 by omega)];have hb4:ak (τ4++[[V.d (ab d),V.d (.sl (bd.map fun s=>[aj s]))]]).length (τ4++[[V.d (ab d),V.d (.sl (bd.map fun s=>[aj s]))]])=true:=aq (by rw[hN4];exact hV.bb _ τ4 hJ4) (by simp[V.unders,V.under]);exact⟨hlt,Nxt.drop3 (by simp) hb4 (by simp[au,V.under];exact V.under_mono (by omega) _ hV.und) ⟨_,τ4,by rw[hN4],hJ4,rfl,hr⟩⟩
 .simp -dsimp only[aw,jW,jV,jX,jY,jZ,reduceIte,jA,reduceCtorEq,jB,jC,jD,jE,jF,jG,Ss,hlt,decide_false];rw[SK (by omega)]at hr;refine kr (k:=N) (τ:=τ') (by omega) (by rw[<-hN'];exact Sy) (hV.bb s' τ' hJ') rfl rfl ⟨τ',by rw[hr];exact hJ',(Su _).symm,by rw[hr];rfl⟩
theorem Inv.readd{M:av}{bm:List Nat}{σ:LLV}{tk:bv}{pr:Nat->Prop}{w:World}(h:Inv M bm σ tk pr w){b:Nat}{cs:List V}{vs:Array Value}{T:TypeId}(hb:w.heap[b]? = some (.cells vs T (0,0)))(hl:vs.size=cs.length)
 (hc:∀j (h:j<cs.length) (h':j<vs.size),Rep M bm cs[j] vs[j]/\vs[j].oneCell'=true/\∀T k rows,cs[j]≠.own T k rows)(hf:(∀o,M b o=none)/\¬pr b)(hn:b∉bm)(ht:∀i j g,tk i j=some g->g≠b):Inv M (bm++[b]) (σ++[cs]) tk pr w:=by
 have hpre:∀i c:Nat,bm[i]? = some c->(bm++[b])[i]? = some c:=mC ⟨_,rfl⟩;refine⟨h.facts,by simp[h.len],fun i c cs' hi hc'=>?_,fun c hcm=>?_,?_,fun i j g hg=>?_,h.inj,h.prlt⟩
 .by_cases hlt:i<bm.length
  .rw[SC hlt]at hi;rw[SC (by rw[<-h.len];exact hlt)]at hc';rcases h.box i c cs' hi hc' with⟨vs',T',g1,g2,g3⟩|g1;case inr=>exact .inr (g1.mono (av.le.refl _) hpre rfl)
   exact .inl ⟨vs',T',g1,g2,fun j hj hj'=>⟨⟨(g3 j hj hj').1.rep.mono (av.le.refl _) hpre,(g3 j hj hj').1.own⟩,(g3 j hj hj').2⟩⟩
  .rw[Sw (by omega)]at hi;rw[Sw (by rw[<-h.len];omega)]at hc'
   have hi0:i-bm.length=0:=by
    have:=(List.getElem?_eq_some_iff.1 hi).1;simp at this;omega
   rw[<-h.len]at hc';rw[hi0]at hi hc';simp at hi hc';subst hi;subst hc';exact .inl ⟨vs,T,hb,hl,fun j hj hj'=>⟨⟨(hc j hj hj').1.mono (av.le.refl _) hpre,fun T k rows hT=>absurd hT ((hc j hj hj').2.2 T k rows)⟩,(hc j hj hj').2.1⟩⟩
 .rcases List.mem_append.1 hcm with hcm|hcm
  .exact h.free c hcm
  .simp at hcm;subst hcm;exact hf
 .rw[List.nodup_append];exact⟨h.bmnd,by simp,fun a ha c hc=>by simp at hc;subst hc;exact fun e=>hn (e▸ha)⟩
 .obtain⟨t1,t2,t3⟩:=h.tok i j g hg;refine⟨t1,fun hm=>?_,t3⟩;rcases List.mem_append.1 hm with hm|hm
  .exact t2 hm
  .simp at hm;exact ht i j g hg hm
theorem SRel.repick{M:av}{bm:List Nat}{tk:bv}{pr:Prot}{ρ ρ':ai}{σ:LLV}{n:Nat}{a:Act}{w:World}(h:SRel M bm tk pr ρ σ n a w){k i:Nat}{cs:List V}(hb:ak k (σ.take k)=true)(hi:σ[i]? = some cs)(hk:k≤i)
 (hlit:∀v∈cs,∃d,v=.d d)(hnm:cy cs=true)(hs:∀t,(get ρ' t=get ρ t/\V.under k (get ρ t)=true)\/(get ρ t=.ptr i 0/\get ρ' t=.ptr k 0)\/get ρ' t=.junk):
 ∃b,SRel M (bm.take k++[b]) tk pr ρ' (σ.take k++[cs]) n a w:=by
 have hlen:=h.inv.len;have hil:i<σ.length:=(List.getElem?_eq_some_iff.1 hi).1;have hbi:bm[i]? = some (bm[i]'(by omega)):=Sx (by omega);generalize hbd:bm[i]'(by omega)=b at hbi;obtain⟨vs,T,h1,h2,h3⟩:=h.inv.cells hbi hi hnm;have hmem:b∈bm:=List.mem_of_getElem? hbi
 have hnot:b∉bm.take k:=fun hm=>by
  obtain⟨j,hj,e⟩:=List.getElem_of_mem hm;have hjk:j<k:=by simp at hj;omega
  rw[List.getElem_take]at e;have:j=i:=(List.getElem_inj (h₀:=by omega) (h₁:=by omega) h.inv.bmnd).1 (by rw[e,hbd]);omega
 have hdr:=h.inv.drop hb;refine⟨b,⟨hdr.readd h1 h2 (fun j g1 g2=>⟨?_,(h3 j g1 g2).2,fun T k rows e=>?_⟩) (h.inv.free b hmem) hnot (fun i j g hg e=>(h.inv.tok i j g hg).2.1 (e▸hmem)),h.defers,h.size,fun t=>?_⟩⟩
 .obtain⟨d,hd⟩:=hlit cs[j] (SA g1);exact(h3 j g1 g2).1.rep.drop (by rw[hd];rfl)
 .obtain⟨d,hd⟩:=hlit cs[j] (SA g1);rw[hd]at e;cases e
 .have hl2:(bm.take k).length=k:=by rw[List.length_take];omega
  rcases hs t with⟨e1,e2⟩|⟨e1,e2⟩|e
  .rw[e1];exact⟨((h.slots t).rep.drop e2).mono (av.le.refl _) (mC ⟨_,rfl⟩),(h.slots t).own⟩
  .have hr:=(h.slots t).rep;rw[e1]at hr;rw[e2];generalize a.tmps.getD t undef=v at hr ⊢;cases hr with
   | ptr hb2=>
    rw[hbi]at hb2;cases hb2;exact⟨.ptr (by rw[Sw (by omega),hl2];simp),fun T k rows e=>by cases e⟩
  .rw[e];exact⟨.junk _,fun T k rows e=>by cases e⟩
abbrev F7:List V:=[.d (.lit (.bool false)),.d (.lit (.bool false)),.d (.lit (.bool false)),.d (.lit (.bool false)),.d (.lit (.bool false)),.d (.lit (.bool false)),.d (.lit (.bool false))]
abbrev xG(f:FuncId)(T:TypeId):List O:=[⟨some 11,.call f [],none⟩,⟨some 12,.fa 0 (.t 2),none⟩,⟨some 13,.load 1 false (.t 12),none⟩,⟨some 14,.mlk false true (.agg F7) (.t 11) (.t 13),none⟩,⟨some 10,.mv (.t 14),none⟩,⟨some 15,.ext (.t 10) 0,none⟩,⟨some 16,.ext (.t 10) 1,none⟩,⟨some 5,.new T F7,none⟩,⟨none,.sto 7 (.t 5) (.t 15),none⟩,⟨some 6,.mv (.t 16),none⟩]
abbrev zh:List (List Nat):=[[],[],[1],[0,2],[3],[4],[4],[],[7,5,0,0,1,2,3,4,5,7],[6,8,0,1,2,3,4,5,6,7,8]]
def fF(ρ0:ai)(bx:Nat)(kd:Int)(U:V)(kn:Bool)(S:Nat->Bool)(pm pu:Nat)(t:Nat):V:=
 if t=11 then(if S 0 then .mp pm else get ρ0 11)else if t=12 then(if S 1 then .ptr bx 0 else get ρ0 12)else if t=13 then(if S 2 then .d (.lit (.int .i64 kd))else get ρ0 13)else
 if t=14 then(if S 3 then .tup [U,an kn]else get ρ0 14)else if t=10 then(if S 4 then .tup [U,an kn]else get ρ0 10)else if t=15 then(if S 5 then U else get ρ0 15)else
 if t=16 then(if S 6 then an kn else get ρ0 16)else if t=5 then(if S 7 then .ptr pu 0 else get ρ0 5)else if t=6 then(if S 9 then an kn else get ρ0 6)else get ρ0 t
def ES(σ0:LLV)(mb:List V)(fin:List V)(S:Nat->Bool)(pm pu:Nat)(σ:LLV):Prop:=
 (S 0=false/\S 7=false/\σ=σ0)\/(S 0=true/\S 7=false/\pm=σ0.length/\σ=σ0++[mb])\/(S 0=false/\S 7=true/\pu=σ0.length/\σ=σ0++[if S 8 then fin else F7])\/
 (S 0=true/\S 7=true/\pm=σ0.length/\pu=σ0.length+1/\σ=σ0++[mb,if S 8 then fin else F7])\/(S 0=true/\S 7=true/\pu=σ0.length/\pm=σ0.length+1/\σ=σ0++[if S 8 then fin else F7,mb])
def oU(ρ0:ai)(σ0:LLV)(bx:Nat)(kd:Int)(u:List Bool)(kn:Bool)(mb:List V)(S:Nat->Bool)(ρ:ai)(σ:LLV):Prop:=
 ∃pm pu,ES σ0 mb (u.map an) S pm pu σ/\∀t,get ρ t=fF ρ0 bx kd (.agg (u.map an)) kn S pm pu t
theorem FC(ρ:ai)(d t:Nat)(v:V):get (put ρ d v) t=if d=t then v else get ρ t:=by
 rw[cM];by_cases e:d=t
 .subst e;simp
 .rw[if_neg e,if_neg];exact fun h=>e h.symm
section
variable {C : Cx} {n0 : Nat}
theorem ed{ρ0 ρ:ai}{σ0 σ':LLV}{bx pm pu pm' pu':Nat}{kd:Int}{u:List Bool}{kn:Bool}{mb:List V}{S:Nat->Bool}{i d:Nat}{v:V}(hS:ES σ0 mb (u.map an) (fun j=>j==i||S j) pm' pu' σ')
 (hv:∀t,get ρ t=fF ρ0 bx kd (.agg (u.map an)) kn S pm pu t)(h1:∀t,t≠d->fF ρ0 bx kd (.agg (u.map an)) kn (fun j=>j==i||S j) pm' pu' t=fF ρ0 bx kd (.agg (u.map an)) kn S pm pu t)
 (h2:fF ρ0 bx kd (.agg (u.map an)) kn (fun j=>j==i||S j) pm' pu' d=v):oU ρ0 σ0 bx kd u kn mb (fun j=>j==i||S j) (put ρ d v) σ':=by
 refine⟨pm',pu',hS,fun t=>?_⟩;rw[FC];by_cases e:d=t
 .subst e;rw[if_pos rfl,h2]
 .rw[if_neg e,hv t,h1 t (SQ e)]
theorem qS{f:FuncId}{T:TypeId}{ρ0:ai}{σ0:LLV}{Q:bX}{bx:Nat}{kd:Int}{cs:List V}{u:List Bool}{kn:Bool}{kv:List (Key×V)}
 (hn0:n0≤σ0.length)(hf:∀σ,Fun C f [] σ fun o σ'=>o=.ret (.mp σ.length)/\σ'=σ++[[.mapc false kv]])
 (h2:get ρ0 2=.ptr bx 0)(hbx:σ0[bx]? = some (.d (.lit (.int .i64 kd))::cs))(hu:u.length=7)
 (hm:qo true (.agg F7) (lv (.i kd) kv)=.tup [.agg (u.map an),an kn])(hb:ak σ0.length σ0=true)(h3:V.under σ0.length (get ρ0 3)=true)
 (hq:Q .normal [(2,.ptr bx 0),(3,get ρ0 3),(5,.ptr σ0.length 0),(6,an kn)] (σ0++[u.map an])):
 iQ C n0 (xG f T) zh ρ0 σ0 Q:=by
 intro pr M0 bm0 w0 id ops n M bm tk a w hG hbm hok hes hl h;obtain⟨hlen,hget⟩:=iZ hok;have hsz:ops.size=10:=by rw[<-Array.length_toList,<-hlen];rfl
 have hedge:∀(i:Nat) (o:Oper),ops.toList[i]? = some o->zh[i]? = some (aW o):=fun i o ho=>by rw[<-hes,List.getElem?_map,ho];rfl
 have hbl:bx<σ0.length:=(List.getElem?_eq_some_iff.1 hbx).1
 have hin:∀S pm pu σ,ES σ0 [.mapc false kv] (u.map an) S pm pu σ->σ[bx]? = some (.d (.lit (.int .i64 kd))::cs):=by
  intro S pm pu σ hS;rcases hS with⟨-,-,rfl⟩|⟨-,-,-,rfl⟩|⟨-,-,-,rfl⟩|⟨-,-,-,-,rfl⟩|⟨-,-,-,-,rfl⟩
  .exact hbx
  all_goals rw[SC hbl];exact hbx
 have hwant:∀(p:O) (o':Oper),okO C.tab n ops p o'=true->p.g=none->∀a:Act,Region.wanted o' (yielded ops a.tmps)=true:=by
  intro p o' hoo hg a;have hgd:=hoo;unfold okO at hgd;simp only[Bool.and_eq_true]at hgd;replace hgd:=hgd.2;rw[hg]at hgd;split at hgd
  .rename_i hg2;simp[Region.wanted,hg2]
  .rename_i e _;cases e
  .cases hgd
 refine wp_mono (C7 (M:=M) (bm:=bm) (tk:=tk) (Q:=fun x ρ σ=>x=.normal/\oU ρ0 σ0 bx kd u kn [.mapc false kv] (fun _=>true) ρ σ) (oU ρ0 σ0 bx kd u kn [.mapc false kv]) (fun i o ho j hj=>?_) (fun S S' ρ σ hS hR=>?_) hl h ⟨0,0,.inl ⟨rfl,rfl,rfl⟩,fun t=>?_⟩ (fun ρ σ hR=>⟨ρ,⟨rfl,hR⟩,fun t=>rfl⟩) (fun S i o ho hSi hclo hed M bm tk a w ρ σ hl hR h=>?_)) (fun e a w hL=>?_)
 .have he:=hedge i o ho;have hi:i<10:=by have:=(List.getElem?_eq_some_iff.1 ho).1;simp at this;omega
  have key:∀i,i<10->∀l,zh[i]? = some l->∀j∈l,j<i:=by decide
  exact key i hi _ he j hj
 .rw[hsz]at hS;simp only[oU,ES,fF,hS 0 (by omega),hS 1 (by omega),hS 2 (by omega),hS 3 (by omega),hS 4 (by omega),hS 5 (by omega),hS 6 (by omega),hS 7 (by omega),hS 8 (by omega),hS 9 (by omega)]at hR ⊢;exact hR
 .unfold fF;simp only[Bool.false_eq_true,if_false];repeat' split
  all_goals first|rfl|(subst_vars;rfl)
 .have he:=hedge i o ho;have hi:i<10:=by have:=(List.getElem?_eq_some_iff.1 ho).1;simp at this;omega
  have hed:∀l,zh[i]? = some l->∀e∈l,S e=true:=fun l hl e hm=>by rw[hl]at he;cases he;exact hed e hm
  clear he;obtain⟨pm,pu,hS,hv⟩:=hR;have hbx':=hin _ _ _ _ hS
  have go:∀(p:O),(xG f T)[i]? = some p->p.g=none->cS C p.op p.dst ρ σ (oU ρ0 σ0 bx kd u kn [.mapc false kv] fun j=>j==i||S j) (fun _ _ _=>False)->(if Region.wanted o (yielded ops a.tmps)then o.wp C.P a w (oP M bm pr w n (oU ρ0 σ0 bx kd u kn [.mapc false kv] fun j=>j==i||S j)) (bG M bm pr w n fun _ _ _=>False)
   else ∃ρ',oU ρ0 σ0 bx kd u kn [.mapc false kv] (fun j=>j==i||S j) ρ' σ/\SRel M bm tk pr ρ' σ n (a.put o.dst undef) w):=by
   intro p hp hg hr;have hoo:=hget i p o hp ho;rw[if_pos (hwant p o hoo hg a)];exact d9 (hG.mono hl) h hoo hr
  have pure:∀(d:Nat) (op:OP) (v:V),(xG f T)[i]? = some ⟨some d,op,none⟩->(∀K,pv C op ρ σ=some v->K (put ρ d v) σ->cS C op (some d) ρ σ K (fun _ _ _=>False))->pv C op ρ σ=some v->oU ρ0 σ0 bx kd u kn [.mapc false kv] (fun j=>j==i||S j) (put ρ d v) σ->(if Region.wanted o (yielded ops a.tmps)then o.wp C.P a w (oP M bm pr w n (oU ρ0 σ0 bx kd u kn [.mapc false kv] fun j=>j==i||S j)) (bG M bm pr w n fun _ _ _=>False)
   else ∃ρ',oU ρ0 σ0 bx kd u kn [.mapc false kv] (fun j=>j==i||S j) ρ' σ/\SRel M bm tk pr ρ' σ n (a.put o.dst undef) w):=fun d op v h1 h2 h3 h4=>go _ h1 rfl (h2 _ h3 h4)
  have hi':i=0\/i=1\/i=2\/i=3\/i=4\/i=5\/i=6\/i=7\/i=8\/i=9:=by omega
  rcases hi' with rfl|rfl|rfl|rfl|rfl|rfl|rfl|rfl|rfl|rfl
  .refine go _ rfl rfl ?_;refine(hf σ).mono fun o σ' ⟨e1,e2⟩=>?_;subst e1;subst e2;rcases hS with⟨s0,s7,rfl⟩|⟨s0,-,-,rfl⟩|⟨s0,s7,rfl,rfl⟩|⟨s0,-,-,-,rfl⟩|⟨s0,-,-,-,rfl⟩
   .exact ed (pm':=σ.length) (pu':=pu) (.inr (.inl ⟨rfl,s7,rfl,rfl⟩)) hv (fun t ht=>by simp[fF,ht]) rfl
   .rw[s0]at hSi;cases hSi
   .exact ed (pm':=(σ0++[if S 8=true then SN an u else F7]).length) (pu':=σ0.length) (.inr (.inr (.inr (.inr ⟨rfl,s7,rfl,by simp,by simp⟩)))) hv (fun t ht=>by simp[fF,ht]) rfl
   .rw[s0]at hSi;cases hSi
   .rw[s0]at hSi;cases hSi
  .have e:get ρ 2=.ptr bx 0:=by rw[hv 2,<-h2];rfl
   refine pure 12 _ (.ptr bx 0) rfl (fun K h1 h2=>by simp only[cS,h1];exact h2) (by show faV 0 (get ρ 2)=_;rw[e];rfl) ?_;exact ed (pm':=pm) (pu':=pu) hS hv (fun t ht=>by simp[fF,ht]) rfl
  .have e1:=hed _ rfl 1 (by simp);have e:get ρ 12=.ptr bx 0:=by rw[hv 12];simp[fF,e1]
   refine pure 13 _ (.d (.lit (.int .i64 kd))) rfl (fun K h1 h2=>by simp only[cS,h1];exact h2) (by show jJ σ 1 false (get ρ 12)=_;rw[e,qQ,hbx',uM,if_pos ⟨by simp,by cases cs<;>rfl⟩];rfl) ?_;exact ed (pm':=pm) (pu':=pu) hS hv (fun t ht=>by simp[fF,ht]) rfl
  .have e0:=hed _ rfl 0 (by simp);have e1:=hed _ rfl 2 (by simp);have e:get ρ 11=.mp pm:=by rw[hv 11];simp[fF,e0]
   have e':get ρ 13=.d (.lit (.int .i64 kd)):=by rw[hv 13];simp[fF,e1]
   have hmp:σ[pm]? = some [.mapc false kv]:=by
    rcases hS with⟨s0,s7,rfl⟩|⟨s0,-,rfl,rfl⟩|⟨s0,s7,rfl,rfl⟩|⟨s0,-,rfl,-,rfl⟩|⟨s0,-,-,rfl,rfl⟩
    .rw[s0]at e0;cases e0
    .simp
    .rw[s0]at e0;cases e0
    .simp
    .simp
   refine pure 14 _ (.tup [.agg (u.map an),an kn]) rfl (fun K h1 h2=>by simp only[cS,h1];exact h2) (by show yc false true (.agg F7) σ (get ρ 11) (get ρ 13)=_;rw[e,e',Ii,hmp,sr,y6,rQ,hm]) ?_;exact ed (pm':=pm) (pu':=pu) hS hv (fun t ht=>by simp[fF,ht]) rfl
  .have e1:=hed _ rfl 3 (by simp);have e:get ρ 14=.tup [.agg (u.map an),an kn]:=by rw[hv 14];simp[fF,e1]
   refine pure 10 _ (.tup [.agg (u.map an),an kn]) rfl (fun K h1 h2=>by simp only[cS,h1];exact h2) (by show some (get ρ 14).copy=_;rw[e];rfl) ?_;exact ed (pm':=pm) (pu':=pu) hS hv (fun t ht=>by simp[fF,ht]) rfl
  .have e1:=hed _ rfl 4 (by simp);have e:get ρ 10=.tup [.agg (u.map an),an kn]:=by rw[hv 10];simp[fF,e1]
   refine pure 15 _ (.agg (u.map an)) rfl (fun K h1 h2=>by simp only[cS,h1];exact h2) (by show uJ (get ρ 10) 0=_;rw[e];rfl) ?_;exact ed (pm':=pm) (pu':=pu) hS hv (fun t ht=>by simp[fF,ht]) rfl
  .have e1:=hed _ rfl 4 (by simp);have e:get ρ 10=.tup [.agg (u.map an),an kn]:=by rw[hv 10];simp[fF,e1]
   refine pure 16 _ (an kn) rfl (fun K h1 h2=>by simp only[cS,h1];exact h2) (by show uJ (get ρ 10) 1=_;rw[e];rfl) ?_;exact ed (pm':=pm) (pu':=pu) hS hv (fun t ht=>by simp[fF,ht]) rfl
  .refine go _ rfl rfl ?_
   have s8:S 8=false:=by
    have h8:ops.toList[8]? = some (ops.toList[8]'(by rw[<-hlen];show 8<10;omega)):=Sx _;cases hs8:S 8 with
    | false=>rfl
    | true=>
     have:=hclo 8 _ h8 hs8 7 (by have e:[7,5,0,0,1,2,3,4,5,7]=aW _:=Option.some.inj (hedge 8 _ h8);rw[<-e];simp);rw[this]at hSi;cases hSi
   show oU ρ0 σ0 bx kd u kn [.mapc false kv] _ (put ρ 5 (.ptr σ.length 0)) (σ++[F7]);rcases hS with⟨s0,s7,rfl⟩|⟨s0,-,rfl,rfl⟩|⟨s0,s7,rfl,rfl⟩|⟨s0,s7,-,-,rfl⟩|⟨s0,s7,-,-,rfl⟩
   .exact ed (pm':=pm) (pu':=σ.length) (.inr (.inr (.inl ⟨s0,rfl,rfl,by simp[s8]⟩))) hv (fun t ht=>by simp[fF,ht]) rfl
   .exact ed (pm':=σ0.length) (pu':=(σ0++[[V.mapc false kv]]).length) (.inr (.inr (.inr (.inl ⟨s0,rfl,rfl,by simp,by simp[s8]⟩)))) hv (fun t ht=>by simp[fF,ht]) rfl
   .rw[s7]at hSi;cases hSi
   .rw[s7]at hSi;cases hSi
   .rw[s7]at hSi;cases hSi
  .have e7:=hed _ rfl 7 (by simp);have e5:=hed _ rfl 5 (by simp);have e0:=hed _ rfl 0 (by simp);have g5:get ρ 5=.ptr pu 0:=by rw[hv 5];simp[fF,e7]
   have g15:get ρ 15=.agg (u.map an):=by rw[hv 15];simp[fF,e5]
   refine go _ rfl rfl ?_
   have key:∀σ',σ[pu]? = some F7->σ'=σ.set pu (u.map an)->ES σ0 [.mapc false kv] (u.map an) (fun j=>j==8||S j) pm pu σ'->cS C (.sto 7 (.t 5) (.t 15)) none ρ σ (oU ρ0 σ0 bx kd u kn [.mapc false kv] fun j=>j==8||S j) (fun _ _ _=>False):=by
    intro σ' h1 h2 h3;have x5:ev C ρ (.t 5)=.ptr pu 0:=g5;have x15:ev C ρ (.t 15)=.agg (u.map an):=g15;simp only[cS,x5,x15,h1]
    match u,hu,h2,h3,hv with
    | [b1,b2,b3,b4,b5,b6,b7],_,h2,h3,hv=>
     refine⟨⟨rfl,rfl,by simp,rfl⟩,pm,pu,?_,fun t=>?_⟩
     .have:σ'=σ.set pu (over F7 0 (V.agg (SN an [b1,b2,b3,b4,b5,b6,b7])).cells):=h2;rw[<-this];exact h3
     .rw[hv t];simp[fF]
   rcases hS with⟨s0,s7,rfl⟩|⟨s0,s7,-,rfl⟩|⟨s0,s7,rfl,rfl⟩|⟨s0,s7,rfl,rfl,rfl⟩|⟨s0,s7,rfl,rfl,rfl⟩
   .rw[s0]at e0;cases e0
   .rw[s7]at e7;cases e7
   .rw[s0]at e0;cases e0
   .exact key (σ0++[[V.mapc false kv],u.map an]) (by simp[hSi]) (by simp) (.inr (.inr (.inr (.inl ⟨s0,s7,rfl,rfl,rfl⟩))))
   .exact key (σ0++[u.map an,[V.mapc false kv]]) (by simp[hSi]) (by simp) (.inr (.inr (.inr (.inr ⟨s0,s7,rfl,rfl,rfl⟩))))
  .have e1:=hed _ rfl 6 (by simp);have e:get ρ 16=an kn:=by rw[hv 16];simp[fF,e1]
   refine pure 6 _ (an kn) rfl (fun K h1 h2=>by simp only[cS,h1];exact h2) (by show some (get ρ 16).copy=_;rw[e];rfl) ?_;exact ed (pm':=pm) (pu':=pu) hS hv (fun t ht=>by simp[fF,ht]) rfl
 .obtain⟨M',bm',tk',ρ',σ',x,⟨rfl,pm,pu,hS,hv⟩,hx,hs,hlat⟩:=hL
  have fin:∀i,σ'[i]? = some (u.map an)->σ0.length≤i->pu=i->σ'.take σ0.length=σ0->bG M0 bm0 pr w0 n Q e a w:=by
   intro i h1 h2' h3' h4
   have hsl:∀t,(get [(2,.ptr bx 0),(3,get ρ0 3),(5,.ptr σ0.length 0),(6,an kn)] t=get ρ' t/\V.under σ0.length (get ρ' t)=true)\/(get ρ' t=.ptr i 0/\get [(2,.ptr bx 0),(3,get ρ0 3),(5,.ptr σ0.length 0),(6,an kn)] t=.ptr σ0.length 0)\/get [(2,.ptr bx 0),(3,get ρ0 3),(5,.ptr σ0.length 0),(6,an kn)] t=.junk:=by
    intro t;by_cases t2:t=2
    .subst t2;exact .inl ⟨by rw[hv 2,<-h2];rfl,by rw[hv 2];show V.under _ (get ρ0 2)=true;rw[h2];simp[V.under,hbl]⟩
    by_cases t3:t=3
    .subst t3;exact .inl ⟨by rw[hv 3];rfl,by rw[hv 3];exact h3⟩
    by_cases t5:t=5
    .subst t5;exact .inr (.inl ⟨by rw[hv 5,<-h3'];rfl,rfl⟩)
    by_cases t6:t=6
    .subst t6;exact .inl ⟨by rw[hv 6];rfl,by rw[hv 6];rfl⟩
    exact .inr (.inr (by simp[get,SQ t2,SQ t3,SQ t5,SQ t6]))
   obtain⟨b,hr⟩:=hs.repick (ρ':=[(2,.ptr bx 0),(3,get ρ0 3),(5,.ptr σ0.length 0),(6,an kn)]) (k:=σ0.length) (by rw[h4];exact hb) h1 h2' (fun v hv=>by obtain⟨b,-,rfl⟩:=List.mem_map.1 hv;exact⟨_,rfl⟩) (by match u,hu with | [_,_,_,_,_,_,_],_=>rfl) hsl;rw[h4]at hr;cases hx;refine⟨M',bm'.take σ0.length++[b],tk',_,_,.normal,hq,.normal,hr,⟨hlat.le,?_,hlat.keep,hlat.facts,hlat.os,hlat.tape,hlat.output,hlat.size⟩⟩;obtain⟨t,rfl⟩:=hlat.pre;exact⟨t.take (σ0.length-bm0.length)++[b],by rw[List.take_append,List.take_of_length_le (by omega),SF]⟩
  rcases hS with⟨s0,s7,rfl⟩|⟨s0,s7,-,rfl⟩|⟨s0,s7,rfl,rfl⟩|⟨s0,s7,hpm,hpu,rfl⟩|⟨s0,s7,hpu,hpm,rfl⟩
  .cases s0
  .cases s7
  .cases s0
  .exact fin (σ0.length+1) (by simp) (by omega) hpu (by simp)
  .exact fin σ0.length (by simp) (by omega) hpu (by simp)
end
end Go.Proofs.YtnhphlmblenapaaGreatDoor
namespace Go.Proofs.YtnhphlmblenapaaGreatDoor
open Go.RowKit
open Nat renaming reduceLeDiff -> jA, reduceBEq -> jB, reduceLT -> jC, reduceEqDiff -> jD, reduceAdd -> jE, reduceSub -> jF, reduceMul -> jG
open V renaming copy -> jV, lend -> jW, lend1 -> jX, cells -> jY, boxable -> jZ
abbrev vu7(u:List Bool):V:=.agg (u.map an)
def kvK:List (Key×V):=[(.i 1,vu7 [true,false,false,false,false,false,false]),(.i 2,vu7 [true,false,false,false,false,false,false]),(.i 3,vu7 [false,true,false,true,false,false,false]),
 (.i 4,vu7 [true,false,false,false,true,true,false]),(.i 5,vu7 [false,true,true,false,true,false,false]),(.i 6,vu7 [false,false,false,false,false,false,true])]
theorem sQ(σ:LLV):Fun G 124 [] σ (fun o σ'=>o=.ret (.mp σ.length)/\σ'=σ++[[.mapc false kvK]]):=by
 refine ae Tryz.func124 PN rfl fun hb hw=>?_;unfold M8;simp -dsimp only[aw,seval];exact⟨_,_,.refl _ _ _,.mp σ.length,rfl,(σ++[[V.mapc false kvK]]).length,by simp,by show ak _ (SM _ (σ++[[V.mapc false kvK]]))=true;rw[SL];exact aq hb rfl,by simp[V.under],by show Out.ret _=_/\SM _ (σ++[[V.mapc false kvK]])=_;rw[SL];exact⟨rfl,rfl⟩⟩
theorem wu(k:Int):qo true (.agg F7) (lv (.i k) kvK)=.tup [.agg ((if 1≤k/\k≤6 then lz k else[false,false,false,false,false,false,false]).map an),an (decide (1≤k/\k≤6))]:=by
 by_cases h:1≤k/\k≤6
 .rw[if_pos h,decide_eq_true h];have h6:k=1\/k=2\/k=3\/k=4\/k=5\/k=6:=by omega
  rcases h6 with rfl|rfl|rfl|rfl|rfl|rfl<;>rfl
 .rw[if_neg h,decide_eq_false h]
  have:lv (.i k) kvK=none:=by
   have n1:¬k=1:=by omega
   have n2:¬k=2:=by omega
   have n3:¬k=3:=by omega
   have n4:¬k=4:=by omega
   have n5:¬k=5:=by omega
   have n6:¬k=6:=by omega
   simp[lv,kvK,n1,n2,n3,n4,n5,n6,SQ n1,SQ n2,SQ n3,SQ n4,SQ n5,SQ n6]
  rw[this];rfl
theorem sE(l:List ByteArray){j:Nat}(h:j<l.length):(l.drop j).all bK=(bK l[j]&&(l.drop (j+1)).all bK):=by rw[SJ h,List.all_cons]
theorem Iy{C:Cx}{n0:Nat}{l:List O}{es:List (List Nat)}{keep:List Nat}{ρ:ai}{σ:LLV}{Q:bX}{t:Tag Q}(h:iQ C n0 l es ρ σ fun e ρ' σ'=>Q e (aY keep ρ') σ'):eI C n0 (.raw l es keep) ρ σ Q t:=h
theorem GP(k:Int):∃b1 b2 b3 b4 b5 b6 b7,lz k=[b1,b2,b3,b4,b5,b6,b7]:=by
 unfold lz;repeat' split
 all_goals exact⟨_,_,_,_,_,_,_,rfl⟩
theorem Dy(x:It):jH x=if wE x.ws≠0 then wE x.ws else if bK x.name=true then 0 else 7:=by
 unfold jH wE;repeat' split
 all_goals simp_all
theorem Ac(x:It)(d:Nat)(bd:List ByteArray)(hbig:fN x≤1200000)(σ:LLV):Fun G 68 [vit x,BE d bd] σ (aN (.d (ab (bL x d))) σ):=by
 have hb0:=ep x;refine ae Tryz.func68 k68 (by simp only[aJ];rfl) fun hb hw=>?_;unfold c68;simp -dsimp only[aw,seval,aJ];by_cases hk:1≤x.kind/\x.kind≤6
 case neg=>
  have hm:=wu x.kind;rw[if_neg hk,decide_eq_false hk]at hm;have hs:bL x d=1:=by unfold bL;rw[if_pos (.inl hk)]
  rw[hs];refine Iy (qS (bx:=σ.length) (kd:=x.kind) (by simp) sQ rfl (by rw[Sw (SO _),SP];rfl) rfl hm (aq hb rfl) (by simp[get,V.under]) ?_);simp -dsimp only[aw,seval];first|exact al hb rfl rfl|exact am hb rfl rfl
 have hm:=wu x.kind;rw[if_pos hk,decide_eq_true hk]at hm;have hpl:=fun σ=>Ad x hbig hk σ;obtain⟨b1,b2,b3,b4,b5,b6,b7,hu⟩:=GP x.kind;rw[hu]at hm hpl;simp only[aJ,SD,SE]at hpl;refine Iy (qS (bx:=σ.length) (kd:=x.kind) (by simp) sQ rfl (by rw[Sw (SO _),SP];rfl) rfl hm (aq hb rfl) (by simp[get,V.under]) ?_);simp -dsimp only[aw,seval];refine ac (hpl _) ?_;cases hp:bS x with
 | false=>
  have hs:bL x d=1:=by unfold bL;rw[if_pos (.inr (.inl hp))]
  rw[hs];simp -dsimp only[aw,seval];first|exact al hb rfl rfl|exact am hb rfl rfl
 | true=>
 by_cases h4:4<d
 .have hs:bL x d=1:=by unfold bL;rw[if_pos (.inr (.inr (.inl h4)))]
  have h4':(4:Int)<(d:Int):=by omega
  rw[hs];simp -dsimp only[aw,seval,decide_eq_true h4'];first|exact al hb rfl rfl|exact am hb rfl rfl
 have h4':¬(4:Int)<(d:Int):=by omega
 by_cases hd:0<d/\(x.kind=3\/x.kind=6)
 .have hs:bL x d=1:=by unfold bL;rw[if_pos (.inr (.inr (.inr hd)))]
  have h0:(0:Int)<(d:Int):=by omega
  rw[hs];rcases hd.2 with k|k
  all_goals
   simp -dsimp only[aw,seval,decide_eq_false h4',decide_eq_true h0,k,Sq,decide_true,decide_false];first|exact al hb rfl rfl|exact am hb rfl rfl
 have hs:bL x d=if x.kind=3 then jH x else if x.kind=6 then nY x else if x.kind=5 then vm x else bz x.ex:=by
  unfold bL;rw[if_neg];rintro(h|h|h|h)
  .exact h hk
  .rw[hp]at h;cases h
  .exact h4 h
  .exact hd h
 rw[hs];have hv:=fun σ=>nZ x.ex (by omega) (by have:=no x.ex;omega) σ;simp only[ao]at hv;by_cases k3:x.kind=3
 .have h0:¬(0:Int)<(d:Int):=by have:¬0<d:=fun h=>hd ⟨h,.inl k3⟩;omega
  rw[if_pos k3,Dy];simp -dsimp only[aw,seval,decide_eq_false h4',decide_eq_false h0,k3,Sq,decide_true,decide_false];refine ac (u1 x.ws (by omega) _) ?_;by_cases hw0:wE x.ws=0
  .rw[if_neg (by simp[hw0])];simp -dsimp only[aw,seval,hw0,decide_true];refine ac (sF x.name _) ?_;cases hi:bK x.name with
   | true=>simp -dsimp only[aw,seval,Sq,decide_false]
           first|exact al hb rfl rfl|exact am hb rfl rfl
   | false=>simp -dsimp only[aw,seval,Sq,decide_false]
            first|exact al hb rfl rfl|exact am hb rfl rfl
  .rw[if_pos hw0];simp -dsimp only[aw,seval,decide_eq_false hw0];first|exact al hb rfl rfl|exact am hb rfl rfl
 by_cases k6:x.kind=6
 .have h0:¬(0:Int)<(d:Int):=by have:¬0<d:=fun h=>hd ⟨h,.inr k6⟩;omega
  rw[if_neg k3,if_pos k6];unfold nY;by_cases hB:x.bef=[]
  .have e:decide (((x.bef.length:Nat):Int)=0)=true:=by simp[hB]
   rw[if_pos (.inl hB)];simp -dsimp only[aw,seval,decide_eq_false h4',decide_eq_false h0,k6,Sq,decide_true,decide_false,SB,e];first|exact al hb rfl rfl|exact am hb rfl rfl
  have eB:decide (((x.bef.length:Nat):Int)=0)=false:=by have:=List.length_pos_iff.2 hB;simp;omega
  by_cases hA:x.aft=[]
  .have e:decide (((x.aft.length:Nat):Int)=0)=true:=by simp[hA]
   rw[if_pos (.inr hA)];simp -dsimp only[aw,seval,decide_eq_false h4',decide_eq_false h0,k6,Sq,decide_true,decide_false,SB,eB,e];first|exact al hb rfl rfl|exact am hb rfl rfl
  have eA:decide (((x.aft.length:Nat):Int)=0)=false:=by have:=List.length_pos_iff.2 hA;simp;omega
  rw[if_neg (fun h=>h.elim hB hA)];simp -dsimp only[aw,seval,decide_eq_false h4',decide_eq_false h0,k6,Sq,decide_true,decide_false,SB,eB,eA];have hcc:=fun σ=>yf [x.bef,x.aft] (by simp;omega) (by simp) σ;have e2:[x.bef,x.aft].flatten=x.bef++x.aft:=by simp
  rw[e2]at hcc;simp only[SD,SE]at hcc;refine ac (hcc _) ?_;have hL:(x.bef++x.aft).length≤1200000:=by rw[Sv];omega
  generalize x.bef++x.aft=L at hL;simp -dsimp only[aw,seval,SB]
  refine aS [79,80,81] (R:=fun(j:Nat) ρ σ'=>ρ=[(79,.own 9 1 (L.map fun s=>[aj s])),(80,aK .i64 L.length),(81,aK .i64 j)]/\L.all bK=(L.drop j).all bK/\
   σ'=σ++[[.d (ab 6),.d (ab x.ex.op),.d (ab x.ex.num),.d (aj x.ex.name),.d (.sl (x.ex.args.map dex)),.d (aj x.name),.d (aj x.idx),.d (.sl (x.ws.map dwt)),.d (.sl (x.items.map dit)),.d (.sl (x.els.map dit)),.d (.sl (x.bef.map fun s=>[aj s])),.d (.sl (x.aft.map fun s=>[aj s]))],[.d (ab d),.d (.sl (bd.map fun s=>[aj s]))],[an b1,an b2,an b3,an b4,an b5,an b6,an b7]]) L.length ⟨rfl,rfl,rfl⟩ ?_ _
  rintro j ρ' σ' hj ⟨rfl,hr,rfl⟩;by_cases hlt:j<L.length
  .rw[sE L hlt]at hr;simp -dsimp only[aw,seval,Ss,hlt,decide_true,Sx hlt,aT hlt (show L.length≤9223372036854775807 by omega)];refine ac (sF L[j] _) ?_;cases hi:bK L[j]with
   | true=>
    simp -dsimp only[aw,seval,aT hlt (show L.length≤9223372036854775807 by omega)];exact⟨hlt,Nxt.same (by simp) (aq hb rfl) (by simp[au,V.under]) ⟨rfl,by rw[hr,hi,Bool.true_and],rfl⟩⟩
   | false=>
    rw[hr,hi,Bool.false_and,if_neg Bool.false_ne_true];simp -dsimp only[aw,seval];first|exact al hb rfl rfl|exact am hb rfl rfl
  .rw[SK (by omega)]at hr;rw[hr,List.all_nil,if_pos rfl];simp -dsimp only[aw,seval,Ss,hlt,decide_false];first|exact al hb rfl rfl|exact am hb rfl rfl
 rw[if_neg k3,if_neg k6];by_cases k5:x.kind=5
 .rw[if_pos k5];unfold vm;by_cases h0:(0:Int)<(d:Int)
  all_goals
   simp -dsimp only[aw,seval,decide_eq_false h4',h0,k5,Sq,decide_true,decide_false];refine ac (eC x.name _) ?_;cases hn:bH x.name with
   | false=>
    rw[if_neg (by simp)];simp -dsimp only[aw,seval];first|exact al hb rfl rfl|exact am hb rfl rfl
   | true=>
    simp -dsimp only[aw,seval];refine ac (eC x.idx _) ?_;cases hx:bH x.idx with
    | false=>
     rw[if_neg (by simp)];simp -dsimp only[aw,seval];first|exact al hb rfl rfl|exact am hb rfl rfl
    | true=>
     rw[if_pos ⟨rfl,rfl⟩];simp -dsimp only[aw,seval];first|exact al hb rfl rfl|exact am hb rfl rfl
 rw[if_neg k5];by_cases h0:(0:Int)<(d:Int)
 all_goals
  simp -dsimp only[aw,seval,decide_eq_false h4',h0,decide_eq_false k3,decide_eq_false k5,decide_eq_false k6,decide_true,decide_false];refine ac (hv _) ?_;simp -dsimp only[aw,seval];first|exact al hb rfl rfl|exact am hb rfl rfl
theorem FH:MW fun x _ _=>fN x≤1200000:=by
 intro x d bd h;have hb:=ep x;exact⟨fun y hy=>by have:=gV hy;omega,fun y hy=>by have:=gV hy;omega⟩
theorem Aq(σ:LLV)(hb:ak σ.length σ=true):Vst (fun(_:Unit) x d bd=>(yF x d bd,())) (fun x _ _=>fN x≤1200000) (.fn 68 []) (fun _ τ=>τ=σ) σ.length where
 len:=fun s τ h=>by rw[h]
 bb:=fun s τ h=>by rw[h];exact hb
 und:=rfl
 val:=.inl ⟨_,_,rfl⟩
 call:=fun s τ x d bd h hp l=>by
  subst h;exact(Ac x d bd hp (τ++l)).mono fun o σ' ⟨e1,e2⟩=>⟨τ,rfl,e2,e1⟩
theorem qN(l:List It)(hl:bi l≤1100000)(σ:LLV):Fun G 27 [.d (gR l)] σ (aN (.d (ab (eR l))) σ):=by
 refine ae Tryz.func27 k27 rfl fun hb hw=>?_;unfold c27 eR;simp -dsimp only[aw,seval];refine ac (AH l (by have:=zH l;omega) _) ?_;by_cases h:64<cJ l
 .have h':(64:Int)<(cJ l:Int):=by omega
  rw[if_pos h];simp -dsimp only[aw,seval,decide_eq_true h'];first|exact al hb rfl rfl|exact am hb rfl rfl
 .have h':¬(64:Int)<(cJ l:Int):=by omega
  rw[if_neg h];simp -dsimp only[aw,seval,decide_eq_false h'];have:=Dd _ _ FH _ l (by omega) 0 [] _ _ (Aq σ hb) (fun x hx=>by have:=gV hx;omega) (by omega) (by simp;omega) () σ rfl;refine aB this ?_;rintro o σ' ⟨τ,rfl,rfl,rfl⟩;rw[aP,Su];have e:(wks (fun(_:Unit) x d bd=>(yF x d bd,())) l 0 [] ()).1=rvl l 0:=wV l 0 [];rw[e];simp -dsimp only[aw,seval];first|exact al hb rfl rfl|exact am hb rfl rfl
end Go.Proofs.YtnhphlmblenapaaGreatDoor
