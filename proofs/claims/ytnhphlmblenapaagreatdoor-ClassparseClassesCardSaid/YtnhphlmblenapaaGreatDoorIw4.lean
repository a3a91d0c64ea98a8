import Derived.Test.YtnhphlmblenapaaGreatDoorClo
set_option linter.unusedVariables false
set_option linter.unusedSimpArgs false
set_option linter.unusedSectionVars false
set_option maxRecDepth 20000
set_option maxHeartbeats 4000000
open Bool renaming false_and->TJ,true_and->TK,eq_iff_iff->TL,not_false->TM,and_false->TN,not_true->TO
open Int renaming reduceEq->TP,ofNat_lt->TQ
open List renaming length_map->TR,append_nil->TS,getElem?_eq_getElem->TT,length_append->TU,take_left->TV,getElem?_append_right->TW,getElem_mem->TX,map_nil->TY,getElem?_append_left->TZ,drop_eq_getElem_cons->T0,map_cons->T1,take_of_length_le->T3,drop_eq_nil_of_le->T4,take_succ_cons->T5,append_assoc->T6,length_cons->T7,map_append->T8,length_nil->T9,take_length->Ua,all_cons->Ub,take->Uc,map->Ud
open Nat renaming le_refl->Ue,sub_self->Uf
open Ne renaming symm->Ug
namespace Go.Proofs.YtnhphlmblenapaaGreatDoor
open Go.RowKit
open Nat renaming reduceLeDiff -> jA, reduceBEq -> jB, reduceLT -> jC, reduceEqDiff -> jD, reduceAdd -> jE, reduceSub -> jF, reduceMul -> jG
open V renaming copy -> jV, lend -> jW, lend1 -> jX, cells -> jY, boxable -> jZ
theorem lr{P:List It->Prop}(h:∀l,(∀a,a∈l->P a.items/\P a.els)->P l):∀l,P l:=by
 have H:∀n l,cL l≤n->P l:=by
  intro n
  induction n with
  | zero=>
   intro l hl;refine h l fun a ha=>?_;have:=wt ha;have:=vo a;omega
  | succ n ih=>
   intro l hl;refine h l fun a ha=>?_;have h1:=wt ha;have h2:=rF a;exact⟨ih _ (by omega),ih _ (by omega)⟩
 exact fun l=>H _ l (Ue _)
theorem Gh(f:List It->Nat)(g:It->Nat)(h0:f []=0)(hc:∀a r,f (a::r)=g a+f r)(l:List It){j:Nat}(h:j<l.length):f (l.take (j+1))=f (l.take j)+g l[j]:=by
 induction l generalizing j with
 | nil=>simp at h
 | cons a r ih=>
  cases j with
  | zero=>simp only[T5,List.take_zero,hc,h0,List.getElem_cons_zero];omega
  | succ j=>simp only[T5,hc,List.getElem_cons_succ];rw[ih (by simpa using h)];omega
theorem sC(l:List It){j:Nat}(h:j<l.length):cL (l.take (j+1))=cL (l.take j)+isz l[j]:=Gh cL isz rfl (fun _ _=>rfl) l h
theorem m6(l:List It)(j:Nat):cL (l.take j)≤cL l:=by
 induction l generalizing j with
 | nil=>simp
 | cons a r ih=>cases j with
  | zero=>simp[cL]
  | succ j=>rw[T5,cL,cL];have:=ih j;omega
theorem C0:∀l:List It,cL l≤1200000->∀σ,Fun G 66 [.d (gZ l)] σ (aN (.d (ab (cL l:Nat))) σ):=by
 refine lr fun l ih hs σ=>?_;refine ae Tryz.func66 k66 rfl fun hb hw=>?_;unfold c66;have hln:=wy l;simp -dsimp only[aw,seval,TR];refine aL [3,6,7,8] (fun(j:Nat) ρ σ'=>ρ=[(3,aF .i64 (cL (l.take j):Nat)),(6,.d (gZ l)),(7,aF .i64 l.length),(8,aF .i64 j)]/\σ'=σ) l.length ⟨rfl,rfl⟩ ?_ _;rintro j ρ' σ' hj ⟨rfl,rfl⟩;by_cases hlt:j<l.length
 .have ht:=sC l hlt;have hle:=m6 l (j+1);have he:=rF l[j];have w1:IntKind.i64.wrap (1+((cL l[j].items:Nat):Int))=((1+cL l[j].items:Nat):Int):=by rw[aA (by omega) (by omega)];omega
  have w2:IntKind.i64.wrap (((1+cL l[j].items:Nat):Int)+((cL l[j].els:Nat):Int))=((isz l[j]:Nat):Int):=by rw[aA (by omega) (by omega)];omega
  have w3:IntKind.i64.wrap (((cL (l.take j):Nat):Int)+((isz l[j]:Nat):Int))=((cL (l.take (j+1)):Nat):Int):=by rw[aA (by omega) (by omega)];omega
  obtain⟨i1,i2⟩:=ih _ (TX hlt);simp -dsimp only[aw,seval,TQ,hlt,decide_true,TT hlt,dB l[j]];refine bo (i1 (by omega) _) ?_;simp -dsimp only[aw,seval];refine bo (i2 (by omega) _) ?_;simp -dsimp only[aw,seval,w1,w2,w3,aJ hlt (show l.length≤9223372036854775807 by omega)];exact⟨hlt,Nxt.drop (Ue _) hb rfl ⟨rfl,rfl⟩⟩
 .simp -dsimp only[aw,seval,TQ,hlt];rw[T3 (by omega)];exact ak hb rfl rfl
theorem yR:∀l:List It,cL l≤1200000->∀σ,Fun G 77 [.d (gZ l)] σ (aN (.d (ab (cL l:Nat))) σ):=by
 refine lr fun l ih hs σ=>?_;refine ae Tryz.func77 k77 rfl fun hb hw=>?_;unfold c77;have hln:=wy l;simp -dsimp only[aw,seval,TR];refine aL [0,3,4] (fun(j:Nat) ρ σ'=>∃m:Nat,ρ=[(0,.d (gZ l)),(3,aF .i64 (m:Nat)),(4,aF .i64 j)]/\m+j=l.length+cL (l.take j)/\σ'=σ) l.length ⟨l.length,rfl,by simp[cL],rfl⟩ ?_ _;rintro j ρ' σ' hj ⟨m,rfl,hm,rfl⟩;by_cases hlt:j<l.length
 .have ht:=sC l hlt;have hle:=m6 l (j+1);have he:=rF l[j];have w1:IntKind.i64.wrap (((m:Nat):Int)+((cL l[j].items:Nat):Int))=((m+cL l[j].items:Nat):Int):=by rw[aA (by omega) (by omega)];omega
  have w2:IntKind.i64.wrap (((m+cL l[j].items:Nat):Int)+((cL l[j].els:Nat):Int))=((m+cL l[j].items+cL l[j].els:Nat):Int):=by rw[aA (by omega) (by omega)];omega
  obtain⟨i1,i2⟩:=ih _ (TX hlt);simp -dsimp only[aw,seval,TQ,hlt,decide_true,TT hlt,dB l[j],TR];refine bo (i1 (by omega) _) ?_;simp -dsimp only[aw,seval,TQ,hlt,decide_true,TT hlt,dB l[j],TR];refine bo (i2 (by omega) _) ?_;simp -dsimp only[aw,seval,w1,w2,aJ hlt (show l.length≤9223372036854775807 by omega)];exact⟨hlt,Nxt.same (Ue _) hb rfl ⟨_,rfl,by omega,rfl⟩⟩
 .simp -dsimp only[aw,seval,TQ,hlt,TR];have:m=cL l:=by rw[T3 (by omega)]at hm;omega
  subst this;exact ak hb rfl rfl
theorem eH(s:ByteArray)(σ:LLV):Fun G 96 [.d (ai s)] σ (aN (.d (.lit (.bool (bC s)))) σ):=
 rZ Tryz.func96 (by kernel_rfl) (by kernel_rfl) trivial fun M bm w v hG hM hr=>by
  cases hr with
  | d hr=>cases hr with
   | lit _ hf=>exact gh s w (by simpa[df,maxLen]using hf) (pW hG hM)
theorem tY(s:ByteArray)(σ:LLV):Fun G 127 [.d (ai s)] σ (aN (ao (bN s)) σ):=by
 refine ae Tryz.func127 QC rfl fun hb hw=>?_;unfold c127
 have hv:(bB (.mk 2 0 s [])=0)=(bN s=true):=by
  unfold bB
  have h1:gM (.mk 2 0 s [])=if bN s=true then 0 else 7:=by
   rw[gM,j9];unfold aO;cases hv:bN s<;>simp[hv,dQ,fz,mm]
  rw[h1];cases hv:bN s<;>simp[b8,cZ,bD,bI]
 simp -dsimp only[aw,seval];refine ac (v:=.d (ab (bB (.mk 2 0 s [])))) (by have:=oD (.mk 2 0 s []) (by simp[bD,bI]) (by simp[b8,cZ]) σ;simpa only[au,Ex.op,Ex.num,Ex.name,Ex.args,TY]using this) ?_;have hd:decide (bB (.mk 2 0 s [])=0)=bN s:=by rw[TL,decide_eq_true_eq,hv]
 simp -dsimp only[aw,seval,hd];exact ak hb rfl rfl
theorem AU(e:Ex)(hl:e.args.length≤1200000)(σ:LLV):Fun G 178 [vex e] σ (aN (ao (fC e)) σ):=by
 refine ae Tryz.func178 QL (by simp only[au];rfl) fun hb hw=>?_;unfold Ni;have hlen:decide (((e.args.length:Nat):Int)=0)=e.args.isEmpty:=by cases e.args<;>simp;omega
 unfold fC;simp -dsimp only[aw,seval,au,TR,hlen];all_goals (repeat' (first|(refine cz (fun h1=>?_) (fun h1=>?_)<;>(simp -dsimp only[aw,seval,h1,TR,hlen];try rw[h1]))))
 all_goals exact ak hb rfl rfl
theorem jn{α:Type}(l:List α):decide (((l.length:Nat):Int)=0)=l.isEmpty:=by cases l<;>simp;omega
theorem yU{α β:Type}(l:List α)(m:List β):decide ((((l.length+m.length:Nat)):Int)=0)=(l.isEmpty&&m.isEmpty):=by cases l<;>cases m<;>simp<;>omega
abbrev SN(u:List Bool):V:=.agg (u.map ao)
def mc(k:Int):List Bool:=if k=1\/k=2 then[true,false,false,false,false,false,false]else if k=3 then[false,true,false,true,false,false,false]else if k=4 then[true,false,false,false,true,true,false]
 else if k=5 then[false,true,true,false,true,false,false]else[false,false,false,false,false,false,true]
theorem B1(x:It)(hbig:gz x≤1200000)(hk:1≤x.kind/\x.kind≤6)(σ:LLV):Fun G 125 [vit x,SN (mc x.kind)] σ (aN (ao (bU x)) σ):=by
 have hb0:=ew x
 have h3:x.ex.args.length≤1200000:=by
  have h2:bI x.ex.args≤bD x.ex:=by cases x.ex;simp only[bD,Ex.args];omega
  have:=Lf x.ex.args;omega
 have w1:IntKind.i64.wrap (((x.bef.length:Nat):Int)+((x.aft.length:Nat):Int))=((x.bef.length+x.aft.length:Nat):Int):=by rw[aA (by omega) (by omega)];omega
 have e1:=jn x.ws;have e2:=jn x.items;have e3:=jn x.els;have e4:=yU x.bef x.aft;have hk6:x.kind=1\/x.kind=2\/x.kind=3\/x.kind=4\/x.kind=5\/x.kind=6:=by omega
 refine ae Tryz.func125 R8 (by simp only[aM];rfl) fun hb hw=>?_;unfold NE;have hbl:=fun σ=>AU x.ex h3 σ;simp only[au]at hbl;rcases hk6 with hk|hk|hk|hk|hk|hk
 .have hp:bU x=(decide (x.name=⟨#[]⟩)&&decide (x.idx=⟨#[]⟩)&&x.ws.isEmpty&&x.items.isEmpty&&x.els.isEmpty&&(x.bef.isEmpty&&x.aft.isEmpty)):=by unfold bU;simp[hk]
  have hu:mc x.kind=[true,false,false,false,false,false,false]:=by unfold mc;simp[hk]
  rw[hp,hu];simp -dsimp only[aw,seval,aM,TR,e1,e2,e3,e4,w1];all_goals (repeat' (first|(refine cz (fun h1=>?_) (fun h1=>?_)<;>(simp -dsimp only[aw,seval,h1,TR,e1,e2,e3,e4,w1];try rw[h1]))))
  all_goals exact ak hb rfl rfl
 .have hp:bU x=(decide (x.name=⟨#[]⟩)&&decide (x.idx=⟨#[]⟩)&&x.ws.isEmpty&&x.items.isEmpty&&x.els.isEmpty&&(x.bef.isEmpty&&x.aft.isEmpty)):=by unfold bU;simp[hk]
  have hu:mc x.kind=[true,false,false,false,false,false,false]:=by unfold mc;simp[hk]
  rw[hp,hu];simp -dsimp only[aw,seval,aM,TR,e1,e2,e3,e4,w1];all_goals (repeat' (first|(refine cz (fun h1=>?_) (fun h1=>?_)<;>(simp -dsimp only[aw,seval,h1,TR,e1,e2,e3,e4,w1];try rw[h1]))))
  all_goals exact ak hb rfl rfl
 .have hp:bU x=(fC x.ex&&decide (x.idx=⟨#[]⟩)&&x.items.isEmpty&&x.els.isEmpty&&(x.bef.isEmpty&&x.aft.isEmpty)):=by unfold bU;simp[hk]
  have hu:mc x.kind=[false,true,false,true,false,false,false]:=by unfold mc;simp[hk]
  rw[hp,hu];simp -dsimp only[aw,seval,aM,TR,e1,e2,e3,e4,w1];refine ac (hbl _) ?_;simp -dsimp only[aw,seval,aM,TR,e1,e2,e3,e4,w1];all_goals (repeat' (first|(refine cz (fun h1=>?_) (fun h1=>?_)<;>(simp -dsimp only[aw,seval,h1,TR,e1,e2,e3,e4,w1];try rw[h1]))))
  all_goals exact ak hb rfl rfl
 .have hp:bU x=(decide (x.name=⟨#[]⟩)&&decide (x.idx=⟨#[]⟩)&&x.ws.isEmpty&&(x.bef.isEmpty&&x.aft.isEmpty)):=by unfold bU;simp[hk]
  have hu:mc x.kind=[true,false,false,false,true,true,false]:=by unfold mc;simp[hk]
  rw[hp,hu];simp -dsimp only[aw,seval,aM,TR,e1,e2,e3,e4,w1];all_goals (repeat' (first|(refine cz (fun h1=>?_) (fun h1=>?_)<;>(simp -dsimp only[aw,seval,h1,TR,e1,e2,e3,e4,w1];try rw[h1]))))
  all_goals exact ak hb rfl rfl
 .have hp:bU x=(fC x.ex&&x.ws.isEmpty&&x.els.isEmpty&&(x.bef.isEmpty&&x.aft.isEmpty)):=by unfold bU;simp[hk]
  have hu:mc x.kind=[false,true,true,false,true,false,false]:=by unfold mc;simp[hk]
  rw[hp,hu];simp -dsimp only[aw,seval,aM,TR,e1,e2,e3,e4,w1];refine ac (hbl _) ?_;simp -dsimp only[aw,seval,aM,TR,e1,e2,e3,e4,w1];all_goals (repeat' (first|(refine cz (fun h1=>?_) (fun h1=>?_)<;>(simp -dsimp only[aw,seval,h1,TR,e1,e2,e3,e4,w1];try rw[h1]))))
  all_goals exact ak hb rfl rfl
 .have hp:bU x=(fC x.ex&&decide (x.name=⟨#[]⟩)&&decide (x.idx=⟨#[]⟩)&&x.ws.isEmpty&&x.items.isEmpty&&x.els.isEmpty):=by unfold bU;simp[hk]
  have hu:mc x.kind=[false,false,false,false,false,false,true]:=by unfold mc;simp[hk]
  rw[hp,hu];simp -dsimp only[aw,seval,aM,TR,e1,e2,e3,e4,w1];refine ac (hbl _) ?_;simp -dsimp only[aw,seval,aM,TR,e1,e2,e3,e4,w1];all_goals (repeat' (first|(refine cz (fun h1=>?_) (fun h1=>?_)<;>(simp -dsimp only[aw,seval,h1,TR,e1,e2,e3,e4,w1];try rw[h1]))))
  all_goals exact ak hb rfl rfl
def wE(ws:List Wt):Int:=if ws.length>16 then 2 else if ws=[]then 1 else if ws.all wtB=false then 1 else 0
theorem xg(ws:List Wt)(hl:ws.length≤1200000)(σ:LLV):Fun G 126 [.d (.sl (ws.map dwt))] σ (aN (.d (ab (wE ws))) σ):=by
 refine ae Tryz.func126 Rx rfl fun hb hw=>?_;unfold PH wE;by_cases h1:ws.length>16
 .have h1':((16:Int)<((ws.length:Nat):Int)):=by omega
  rw[if_pos h1];simp -dsimp only[aw,seval,TR,decide_eq_true h1'];exact ak hb rfl rfl
 .have h1':¬((16:Int)<((ws.length:Nat):Int)):=by omega
  rw[if_neg h1];by_cases h2:ws=[]
  .rw[if_pos h2];subst h2;simp -dsimp only[aw,seval,TR,Int.ofNat_zero,Int.reduceLT];exact ak hb rfl rfl
  .rw[if_neg h2];have h2':¬(((ws.length:Nat):Int)=0):=by have:=List.length_pos_iff.2 h2;omega
   simp -dsimp only[aw,seval,TR,decide_eq_false h1',decide_eq_false h2'];refine aL [13,14,15] (fun(j:Nat) ρ σ'=>ρ=[(13,.d (.sl (ws.map dwt))),(14,aF .i64 ws.length),(15,aF .i64 j)]/\σ'=σ/\ws.all wtB=(ws.drop j).all wtB) ws.length ⟨rfl,rfl,rfl⟩ ?_ _;rintro j ρ' σ' hj ⟨rfl,rfl,hr⟩;by_cases hlt:j<ws.length
   .rw[T0 hlt,Ub]at hr;have hd:dwt ws[j]=[ab ws[j].lo,ab ws[j].hi,ab ws[j].w,dbl ws[j].each]:=rfl;have hwt:wtB ws[j]=(!decide (ws[j].lo<0) && !decide (ws[j].hi<ws[j].lo) && !decide (65535<ws[j].hi) && !decide (ws[j].w<0) && !decide (1000<ws[j].w)):=by unfold wtB;rw[TL];simp
    rw[hwt]at hr;simp -dsimp only[aw,seval,TQ,hlt,decide_true,TT hlt,hd,aJ hlt (show ws.length≤9223372036854775807 by omega)];all_goals (repeat' (first|(refine cz (fun h1=>?_) (fun h1=>?_)<;>(simp -dsimp only[aw,seval,h1,aJ hlt (show ws.length≤9223372036854775807 by omega)];try rw[h1]))))
    all_goals first|exact az hb rfl rfl TV ⟨by rw[hr];simp only[*,TO,TM,TN,TJ,TK,if_true];rfl,rfl⟩|exact⟨hlt,Nxt.drop (Ue _) hb rfl ⟨rfl,rfl,by rw[hr];simp only[*,TO,TM,TN,TJ,TK]⟩⟩|(trace_state;fail)
   .simp -dsimp only[aw,seval,TQ,hlt];rw[T4 (by omega)]at hr;rw[hr];exact ak hb rfl rfl
section
variable (fs : List (ByteArray × Int))
end
end Go.Proofs.YtnhphlmblenapaaGreatDoor
namespace Go.Proofs.YtnhphlmblenapaaGreatDoor
open Go.RowKit
open Nat renaming reduceLeDiff -> jA, reduceBEq -> jB, reduceLT -> jC, reduceEqDiff -> jD, reduceAdd -> jE, reduceSub -> jF, reduceMul -> jG
open V renaming copy -> jV, lend -> jW, lend1 -> jX, cells -> jY, boxable -> jZ
section
variable (spl : ByteArray -> Option (ByteArray × Int)) (fs : List (ByteArray × Int))
end
end Go.Proofs.YtnhphlmblenapaaGreatDoor
namespace Go.Proofs.YtnhphlmblenapaaGreatDoor
open Go.RowKit
open Nat renaming reduceLeDiff -> jA, reduceBEq -> jB, reduceLT -> jC, reduceEqDiff -> jD, reduceAdd -> jE, reduceSub -> jF, reduceMul -> jG
open V renaming copy -> jV, lend -> jW, lend1 -> jX, cells -> jY, boxable -> jZ
def Hu(vf:V)(args:List V)(σ:LLV)(Q:Out->LLV->Prop):Prop:=
 match vf with
 | .fn f cap=>Fun G f (args++cap) σ Q
 | .bnd f first=>Fun G f (first++args) σ Q
 | _=>False
structure Vst{S:Type}(step:S->It->Nat->List ByteArray->Int×S)(P:It->Nat->List ByteArray->Prop)(vf:V)(J:S->LLV->Prop)(N:Nat):Prop where
 len:∀s τ,J s τ->τ.length=N
 bb:∀s τ,J s τ->am N τ=true
 und:V.under N vf=true
 val:(∃f c,vf=.fn f c)\/(∃f c,vf=.bnd f c)
 call:∀s τ x d bd,J s τ->P x d bd->∀l,Hu vf [vit x,Dd d bd] (τ++l) (fun o σ'=>∃τ',J (step s x d bd).2 τ'/\σ'=τ'++l/\o=.ret (.d (ab (step s x d bd).1)))
theorem Vst.app{S:Type}{step:S->It->Nat->List ByteArray->Int×S}{P:It->Nat->List ByteArray->Prop}{vf:V}{J:S->LLV->Prop}{N:Nat}(h:Vst step P vf J N)(L:LLV)(hL:L.all (fun cs=>V.unders (N+L.length) cs)=true):
 Vst step P vf (fun s σ=>∃τ,J s τ/\σ=τ++L) (N+L.length) where
 len:=fun s σ ⟨τ,h1,e⟩=>by rw[e,TU,h.len s τ h1]
 bb:=fun s σ ⟨τ,h1,e⟩=>by
  have h2:=h.bb s τ h1;have h3:=h.len s τ h1;rw[<-h3]at h2 hL ⊢;rw[e,<-TU];exact aq h2 (by rw[TU];exact hL)
 und:=V.under_mono (by omega) _ h.und
 val:=h.val
 call:=fun s σ x d bd ⟨τ,h1,e⟩ hp l=>by
  subst e;have:=h.call s τ x d bd h1 hp (L++l);rw[T6]
  have hm:∀o σ',(∃τ',J (step s x d bd).2 τ'/\σ'=τ'++(L++l)/\o=Out.ret (.d (ab (step s x d bd).1)))->∃τ',(∃τ2,J (step s x d bd).2 τ2/\τ'=τ2++L)/\σ'=τ'++l/\o=Out.ret (.d (ab (step s x d bd).1)):=fun o σ' ⟨τ',g1,g2,g3⟩=>
   ⟨τ'++L,⟨τ',g1,rfl⟩,by rw[g2,T6],g3⟩
  unfold Hu at this ⊢;cases vf<;>first|exact this.elim|exact this.mono hm
def P7(P:It->Nat->List ByteArray->Prop):Prop:=∀x d bd,P x d bd->(∀y,y∈x.items->P y (dep x d) (bnd x bd))/\(∀y,y∈x.els->P y (dep x d) bd)
def N6{S:Type}(step:S->It->Nat->List ByteArray->Int×S)(J:S->LLV->Prop)(l:List It)(d:Nat)(bd:List ByteArray)(s:S)(L:LLV):Out->LLV->Prop:=
 fun o σ'=>∃τ',J (wks step l d bd s).2 τ'/\σ'=τ'++L/\o=.ret (.d (ab (wks step l d bd s).1))
theorem Fy{S:Type}(step:S->It->Nat->List ByteArray->Int×S)(x:It)(r:List It)(d:Nat)(bd:List ByteArray)(s:S):wks step (x::r) d bd s=
 if(step s x d bd).1=0 then(if(wks step x.items (dep x d) (bnd x bd) (step s x d bd).2).1=0 then
  (if(wks step x.els (dep x d) bd (wks step x.items (dep x d) (bnd x bd) (step s x d bd).2).2).1=0 then wks step r d bd (wks step x.els (dep x d) bd (wks step x.items (dep x d) (bnd x bd) (step s x d bd).2).2).2
    else wks step x.els (dep x d) bd (wks step x.items (dep x d) (bnd x bd) (step s x d bd).2).2)
  else wks step x.items (dep x d) (bnd x bd) (step s x d bd).2)else step s x d bd:=by
 rw[wks,I4];by_cases h1:(step s x d bd).1=0
 .rw[if_pos h1,if_pos h1];by_cases h2:(wks step x.items (dep x d) (bnd x bd) (step s x d bd).2).1=0
  .rw[if_pos h2,if_pos h2]
  .rw[if_neg h2,if_neg h2,if_neg h2]
 .rw[if_neg h1,if_neg h1,if_neg h1]
theorem On{vf:V}{args:List V}{σ:LLV}{Q:Out->LLV->Prop}(h:Hu vf args σ Q){K P:V->LLV->Prop}{s:Tag K}{t:Tag P}{tg:Tag _}(hk:∀o σ',Q o σ'->FW K P o σ'):Io vf args (fun f a=>fk G f a σ K P s t) tg:=by
 unfold Hu at h;cases vf<;>first|exact h.elim|exact h.mono hk
theorem ll{n0 k:Nat}{σ' τ:LLV}{ρ:aj}{rs:List RV}{Q:Out->LLV->Prop}(hk:n0≤k)(ht:σ'.take k=τ)(hb:am k τ=true){v:V}(h:aC σ' ρ rs=some v)(hv:V.under k v=true)(hq:Q (.ret v) τ):fin n0 rs Q .ret ρ σ':=
 ⟨ρ,σ',.refl _ _ _,v,h,k,hk,by rw[ht];exact hb,hv,by rw[ht];exact hq⟩
theorem Nxt.drop3{n0:Nat}{R:aj->LLV->Prop}{ρ:aj}{σ:LLV}{a b c d:List V}(hn:n0≤σ.length)(hb:am (σ++[a]).length (σ++[a])=true)(hs:an (σ++[a]).length ρ=true)(hR:R ρ (σ++[a])):Nxt n0 R ρ (σ++[a,b,c,d]) .mk:=by
 have e:σ++[a,b,c,d]=(σ++[a])++[b,c,d]:=by simp
 rw[e];exact Nxt.drop (by rw[TU];omega) hb hs hR
theorem EY{S:Type}(step:S->It->Nat->List ByteArray->Int×S)(P:It->Nat->List ByteArray->Prop)(hP:P7 P)(vf:V):∀l:List It,bu l≤1200000->∀(d:Nat) (bd:List ByteArray) (J:S->LLV->Prop) (N:Nat),Vst step P vf J N->(∀x,x∈l->P x d bd)->d+bu l≤1200000->bd.length+bu l≤1200000->
 ∀s τ,J s τ->Fun G 67 [.d (gZ l),Dd d bd,vf] τ (N6 step J l d bd s []):=by
 refine lr fun l ih hs d bd J N hV hl hd hbd s τ hJ=>?_;have hln:=ov l;have hN:=hV.len s τ hJ;refine ae Tryz.func67 k67 (by rcases hV.val with⟨f,c,rfl⟩|⟨f,c,rfl⟩<;>rfl) fun hb hw=>?_;have hlend:vf.lend=vf:=by rcases hV.val with⟨f,c,rfl⟩|⟨f,c,rfl⟩<;>rfl
 have hcopy:vf.copy=vf:=by rcases hV.val with⟨f,c,rfl⟩|⟨f,c,rfl⟩<;>rfl
 have hcm:=hcopy;unfold V.copy at hcm;have hlm:=hlend;unfold V.lend at hlm;unfold c67;simp -dsimp only[aw,jW,jV,jX,jY,jZ,reduceIte,jA,reduceCtorEq,jB,jC,jD,jE,jF,jG,TR,hcm];refine aL [2,4,14,15,16] (R:=fun(j:Nat) ρ σ'=>∃s' τ',ρ=[(2,vf),(4,.ptr N 0),(14,.d (gZ l)),(15,aF .i64 l.length),(16,aF .i64 j)]/\J s' τ'/\σ'=τ'++[[.d (ab d),.d (.sl (bd.map fun s=>[ai s]))]]/\wks step l d bd s=wks step (l.drop j) d bd s') l.length ⟨s,τ,by rw[hN];rfl,hJ,rfl,rfl⟩ ?_ _;rintro j ρ' σ' hj ⟨s',τ',rfl,hJ',rfl,hr⟩;have hN':=hV.len s' τ' hJ';by_cases hlt:j<l.length
 .have e:τ.length=τ'.length:=by rw[hN,hN']
  rw[e];subst hN';have hp:=hl _ (TX hlt);obtain⟨p1,p2⟩:=hP _ d bd hp;obtain⟨i1,i2⟩:=ih _ (TX hlt);have hbig:=ew l[j];have hm:=iq (TX hlt);rw[T0 hlt,Fy]at hr;obtain⟨x,hx⟩:∃x,l[j]? = some x:=⟨_,TT hlt⟩
  have hx':l[j]=x:=by rw[TT hlt]at hx;exact Option.some.inj hx
  rw[hx']at hp p1 p2 i1 i2 hbig hm hr;have hc:=fun l=>hV.call s' τ' x d bd hJ' hp l;simp only[aM]at hc;simp -dsimp only[aw,jW,jV,jX,jY,jZ,reduceIte,jA,reduceCtorEq,jB,jC,jD,jE,jF,jG,TQ,hlt,decide_true,hx,dB x,hcm];refine On (hc _) ?_;rintro o σ' ⟨τ2,hJ2,rfl,rfl⟩;have hN2:=hV.len _ τ2 hJ2;rw[<-hN2];by_cases s1:(step s' x d bd).1=0
  case neg=>
   rw[if_neg s1]at hr;rw[aR];simp -dsimp only[aw,jW,jV,jX,jY,jZ,reduceIte,jA,reduceCtorEq,jB,jC,jD,jE,jF,jG,decide_eq_false s1];refine ll (v:=.d (ab (step s' x d bd).1)) (k:=τ2.length) (τ:=τ2) (Ue _) TV (by rw[hN2];exact hV.bb _ τ2 hJ2) rfl rfl ⟨τ2,by rw[hr];exact hJ2,(TS _).symm,by rw[hr]⟩
  rw[if_pos s1]at hr;rw[aR];have w1:IntKind.i64.wrap ((d:Int)+1)=((d+1:Nat):Int):=by rw[aA (by omega) (by omega)];omega
  have w1:IntKind.i64.wrap ((d:Int)+1)=((d+1:Nat):Int):=by rw[aA (by omega) (by omega)];omega
  have w1:IntKind.i64.wrap ((d:Int)+1)=((d+1:Nat):Int):=by rw[aA (by omega) (by omega)];omega
  have w1:IntKind.i64.wrap ((d:Int)+1)=((d+1:Nat):Int):=by rw[aA (by omega) (by omega)];omega
  by_cases k4:x.kind=4
  case pos=>
   have hd1:dep x d=d+1:=if_pos (.inl k4);have hb1:bnd x bd=bd:=if_neg (by omega);rw[hd1,hb1]at hr p1;rw[hd1]at p2;simp -dsimp only[aw,jW,jV,jX,jY,jZ,reduceIte,jA,reduceCtorEq,jB,jC,jD,jE,jF,jG,hcm,hlm,s1,decide_true,k4,TP,decide_false,w1];have hA:=hV.app [[V.d (ab d),V.d (.sl (bd.map fun s=>[ai s]))],[.d (ab 4),.d (ab x.ex.op),.d (ab x.ex.num),.d (ai x.ex.name),.d (.sl (x.ex.args.map dex)),.d (ai x.name),.d (ai x.idx),.d (.sl (x.ws.map dwt)),.d (.sl (x.items.map dit)),.d (.sl (x.els.map dit)),.d (.sl (x.bef.map fun s=>[ai s])),.d (.sl (x.aft.map fun s=>[ai s]))],[.d (ab (d+1:Nat)),(.d (.sl (bd.map fun s=>[ai s])))],[.d (ab (d+1:Nat)),(.d (.sl (bd.map fun s=>[ai s])))]] (by simp[V.unders,V.under])
   have g1:=i1 (by omega) (d+1) (bd) _ _ hA p1 (by omega) (by first|omega|(simp only[TU,T7,T9];omega)) _ _ ⟨τ2,hJ2,rfl⟩;have g2:=fun s τ hJ=>i2 (by omega) (d+1) bd _ _ hA p2 (by omega) (by omega) s _ ⟨τ,hJ,rfl⟩;try simp only[Dd,T8,T1,TY]at g1
   refine aB g1 ?_;rintro o σ' ⟨_,⟨τ3,hJ3,rfl⟩,rfl,rfl⟩;have hN3:=hV.len _ τ3 hJ3;rw[aR,TS,hN2.trans hN3.symm];by_cases s2:(wks step x.items (d+1) (bd) (step s' x d bd).2).1=0
   case neg=>
    rw[if_neg s2]at hr;simp -dsimp only[aw,jW,jV,jX,jY,jZ,reduceIte,jA,reduceCtorEq,jB,jC,jD,jE,jF,jG,decide_eq_false s2];refine ll (v:=.d (ab (wks step x.items (d+1) (bd) (step s' x d bd).2).1)) (k:=τ3.length) (τ:=τ3) (Ue _) TV (by rw[hN3];exact hV.bb _ τ3 hJ3) rfl rfl ⟨τ3,by rw[hr];exact hJ3,(TS _).symm,by rw[hr]⟩
   rw[if_pos s2]at hr;simp -dsimp only[aw,jW,jV,jX,jY,jZ,reduceIte,jA,reduceCtorEq,jB,jC,jD,jE,jF,jG,hcm,hlm,s2,decide_true];refine aB (g2 _ τ3 hJ3) ?_;rintro o σ' ⟨_,⟨τ4,hJ4,rfl⟩,rfl,rfl⟩;have hN4:=hV.len _ τ4 hJ4;rw[aR,TS,hN3.trans hN4.symm];by_cases s3:(wks step x.els (d+1) bd (wks step x.items (d+1) (bd) (step s' x d bd).2).2).1=0
   case neg=>
    rw[if_neg s3]at hr;simp -dsimp only[aw,jW,jV,jX,jY,jZ,reduceIte,jA,reduceCtorEq,jB,jC,jD,jE,jF,jG,decide_eq_false s3];refine ll (v:=.d (ab (wks step x.els (d+1) bd (wks step x.items (d+1) (bd) (step s' x d bd).2).2).1)) (k:=τ4.length) (τ:=τ4) (Ue _) TV (by rw[hN4];exact hV.bb _ τ4 hJ4) rfl rfl ⟨τ4,by rw[hr];exact hJ4,(TS _).symm,by rw[hr]⟩
   rw[if_pos s3]at hr;simp -dsimp only[aw,jW,jV,jX,jY,jZ,reduceIte,jA,reduceCtorEq,jB,jC,jD,jE,jF,jG,hcm,hlm,s3,decide_true,aJ hlt (show l.length≤9223372036854775807 by omega)];have hb4:am (τ4++[[V.d (ab d),V.d (.sl (bd.map fun s=>[ai s]))]]).length (τ4++[[V.d (ab d),V.d (.sl (bd.map fun s=>[ai s]))]])=true:=aq (by rw[hN4];exact hV.bb _ τ4 hJ4) (by simp[V.unders,V.under]);exact⟨hlt,Nxt.drop3 (by simp) hb4 (by simp[an,V.under];exact V.under_mono (by omega) _ hV.und) ⟨_,τ4,by rw[hN4],hJ4,rfl,hr⟩⟩
  by_cases k5:x.kind=5
  case pos=>
   have hd1:dep x d=d+1:=if_pos (.inr k5);have hb1:bnd x bd=bd++[x.idx]:=if_pos k5;rw[hd1,hb1]at hr p1;rw[hd1]at p2;simp -dsimp only[aw,jW,jV,jX,jY,jZ,reduceIte,jA,reduceCtorEq,jB,jC,jD,jE,jF,jG,hcm,hlm,s1,decide_true,k5,TP,decide_false,w1];refine vS (BO bd (by omega) _) ?_ ?_
   .simp -dsimp only[aw,jW,jV,jX,jY,jZ,reduceIte,jA,reduceCtorEq,jB,jC,jD,jE,jF,jG]
   simp -dsimp only[aw,jW,jV,jX,jY,jZ,reduceIte,jA,reduceCtorEq,jB,jC,jD,jE,jF,jG,hcm,hlm,k5];refine bg (by omega) ?_;simp -dsimp only[aw,jW,jV,jX,jY,jZ,reduceIte,jA,reduceCtorEq,jB,jC,jD,jE,jF,jG,hcm,hlm,k5];have hA:=hV.app [[V.d (ab d),V.d (.sl (bd.map fun s=>[ai s]))],[.d (ab 5),.d (ab x.ex.op),.d (ab x.ex.num),.d (ai x.ex.name),.d (.sl (x.ex.args.map dex)),.d (ai x.name),.d (ai x.idx),.d (.sl (x.ws.map dwt)),.d (.sl (x.items.map dit)),.d (.sl (x.els.map dit)),.d (.sl (x.bef.map fun s=>[ai s])),.d (.sl (x.aft.map fun s=>[ai s]))],[.d (ab (d+1:Nat)),.own 9 1 ((bd.map fun s=>[ai s])++[[ai x.idx]])],[.d (ab (d+1:Nat)),(.d (.sl (bd.map fun s=>[ai s])))]] (by simp[V.unders,V.under]);have g1:=i1 (by omega) (d+1) (bd++[x.idx]) _ _ hA p1 (by omega) (by first|omega|(simp only[TU,T7,T9];omega)) _ _ ⟨τ2,hJ2,rfl⟩
   have g2:=fun s τ hJ=>i2 (by omega) (d+1) bd _ _ hA p2 (by omega) (by omega) s _ ⟨τ,hJ,rfl⟩;try simp only[Dd,T8,T1,TY]at g1
   refine aB g1 ?_;rintro o σ' ⟨_,⟨τ3,hJ3,rfl⟩,rfl,rfl⟩;have hN3:=hV.len _ τ3 hJ3;rw[aR,TS,hN2.trans hN3.symm];by_cases s2:(wks step x.items (d+1) (bd++[x.idx]) (step s' x d bd).2).1=0
   case neg=>
    rw[if_neg s2]at hr;simp -dsimp only[aw,jW,jV,jX,jY,jZ,reduceIte,jA,reduceCtorEq,jB,jC,jD,jE,jF,jG,decide_eq_false s2];refine ll (v:=.d (ab (wks step x.items (d+1) (bd++[x.idx]) (step s' x d bd).2).1)) (k:=τ3.length) (τ:=τ3) (Ue _) TV (by rw[hN3];exact hV.bb _ τ3 hJ3) rfl rfl ⟨τ3,by rw[hr];exact hJ3,(TS _).symm,by rw[hr]⟩
   rw[if_pos s2]at hr;simp -dsimp only[aw,jW,jV,jX,jY,jZ,reduceIte,jA,reduceCtorEq,jB,jC,jD,jE,jF,jG,hcm,hlm,s2,decide_true];refine aB (g2 _ τ3 hJ3) ?_;rintro o σ' ⟨_,⟨τ4,hJ4,rfl⟩,rfl,rfl⟩;have hN4:=hV.len _ τ4 hJ4;rw[aR,TS,hN3.trans hN4.symm];by_cases s3:(wks step x.els (d+1) bd (wks step x.items (d+1) (bd++[x.idx]) (step s' x d bd).2).2).1=0
   case neg=>
    rw[if_neg s3]at hr;simp -dsimp only[aw,jW,jV,jX,jY,jZ,reduceIte,jA,reduceCtorEq,jB,jC,jD,jE,jF,jG,decide_eq_false s3];refine ll (v:=.d (ab (wks step x.els (d+1) bd (wks step x.items (d+1) (bd++[x.idx]) (step s' x d bd).2).2).1)) (k:=τ4.length) (τ:=τ4) (Ue _) TV (by rw[hN4];exact hV.bb _ τ4 hJ4) rfl rfl ⟨τ4,by rw[hr];exact hJ4,(TS _).symm,by rw[hr]⟩
   rw[if_pos s3]at hr;simp -dsimp only[aw,jW,jV,jX,jY,jZ,reduceIte,jA,reduceCtorEq,jB,jC,jD,jE,jF,jG,hcm,hlm,s3,decide_true,aJ hlt (show l.length≤9223372036854775807 by omega)];have hb4:am (τ4++[[V.d (ab d),V.d (.sl (bd.map fun s=>[ai s]))]]).length (τ4++[[V.d (ab d),V.d (.sl (bd.map fun s=>[ai s]))]])=true:=aq (by rw[hN4];exact hV.bb _ τ4 hJ4) (by simp[V.unders,V.under]);exact⟨hlt,Nxt.drop3 (by simp) hb4 (by simp[an,V.under];exact V.under_mono (by omega) _ hV.und) ⟨_,τ4,by rw[hN4],hJ4,rfl,hr⟩⟩
  have hd1:dep x d=d:=if_neg (by omega);have hb1:bnd x bd=bd:=if_neg (by omega);rw[hd1,hb1]at hr p1;rw[hd1]at p2;simp -dsimp only[aw,jW,jV,jX,jY,jZ,reduceIte,jA,reduceCtorEq,jB,jC,jD,jE,jF,jG,hcm,hlm,s1,decide_true,decide_eq_false k4,decide_eq_false k5,TP,decide_false];have hA:=hV.app [[V.d (ab d),V.d (.sl (bd.map fun s=>[ai s]))],[.d (ab x.kind),.d (ab x.ex.op),.d (ab x.ex.num),.d (ai x.ex.name),.d (.sl (x.ex.args.map dex)),.d (ai x.name),.d (ai x.idx),.d (.sl (x.ws.map dwt)),.d (.sl (x.items.map dit)),.d (.sl (x.els.map dit)),.d (.sl (x.bef.map fun s=>[ai s])),.d (.sl (x.aft.map fun s=>[ai s]))],[.d (ab d),(.d (.sl (bd.map fun s=>[ai s])))],[.d (ab d),(.d (.sl (bd.map fun s=>[ai s])))]] (by simp[V.unders,V.under])
  have g1:=i1 (by omega) (d) (bd) _ _ hA p1 (by omega) (by first|omega|(simp only[TU,T7,T9];omega)) _ _ ⟨τ2,hJ2,rfl⟩;have g2:=fun s τ hJ=>i2 (by omega) (d) bd _ _ hA p2 (by omega) (by omega) s _ ⟨τ,hJ,rfl⟩;try simp only[Dd,T8,T1,TY]at g1
  refine aB g1 ?_;rintro o σ' ⟨_,⟨τ3,hJ3,rfl⟩,rfl,rfl⟩;have hN3:=hV.len _ τ3 hJ3;rw[aR,TS,hN2.trans hN3.symm];by_cases s2:(wks step x.items (d) (bd) (step s' x d bd).2).1=0
  case neg=>
   rw[if_neg s2]at hr;simp -dsimp only[aw,jW,jV,jX,jY,jZ,reduceIte,jA,reduceCtorEq,jB,jC,jD,jE,jF,jG,decide_eq_false s2];refine ll (v:=.d (ab (wks step x.items (d) (bd) (step s' x d bd).2).1)) (k:=τ3.length) (τ:=τ3) (Ue _) TV (by rw[hN3];exact hV.bb _ τ3 hJ3) rfl rfl ⟨τ3,by rw[hr];exact hJ3,(TS _).symm,by rw[hr]⟩
  rw[if_pos s2]at hr;simp -dsimp only[aw,jW,jV,jX,jY,jZ,reduceIte,jA,reduceCtorEq,jB,jC,jD,jE,jF,jG,hcm,hlm,s2,decide_true];refine aB (g2 _ τ3 hJ3) ?_;rintro o σ' ⟨_,⟨τ4,hJ4,rfl⟩,rfl,rfl⟩;have hN4:=hV.len _ τ4 hJ4;rw[aR,TS,hN3.trans hN4.symm];by_cases s3:(wks step x.els (d) bd (wks step x.items (d) (bd) (step s' x d bd).2).2).1=0
  case neg=>
   rw[if_neg s3]at hr;simp -dsimp only[aw,jW,jV,jX,jY,jZ,reduceIte,jA,reduceCtorEq,jB,jC,jD,jE,jF,jG,decide_eq_false s3];refine ll (v:=.d (ab (wks step x.els (d) bd (wks step x.items (d) (bd) (step s' x d bd).2).2).1)) (k:=τ4.length) (τ:=τ4) (Ue _) TV (by rw[hN4];exact hV.bb _ τ4 hJ4) rfl rfl ⟨τ4,by rw[hr];exact hJ4,(TS _).symm,by rw[hr]⟩
  rw[if_pos s3]at hr;simp -dsimp only[aw,jW,jV,jX,jY,jZ,reduceIte,jA,reduceCtorEq,jB,jC,jD,jE,jF,jG,hcm,hlm,s3,decide_true,aJ hlt (show l.length≤9223372036854775807 by omega)];have hb4:am (τ4++[[V.d (ab d),V.d (.sl (bd.map fun s=>[ai s]))]]).length (τ4++[[V.d (ab d),V.d (.sl (bd.map fun s=>[ai s]))]])=true:=aq (by rw[hN4];exact hV.bb _ τ4 hJ4) (by simp[V.unders,V.under]);exact⟨hlt,Nxt.drop3 (by simp) hb4 (by simp[an,V.under];exact V.under_mono (by omega) _ hV.und) ⟨_,τ4,by rw[hN4],hJ4,rfl,hr⟩⟩
 .simp -dsimp only[aw,jW,jV,jX,jY,jZ,reduceIte,jA,reduceCtorEq,jB,jC,jD,jE,jF,jG,TQ,hlt,decide_false];rw[T4 (by omega)]at hr;refine ll (k:=N) (τ:=τ') (by omega) (by rw[<-hN'];exact TV) (hV.bb s' τ' hJ') rfl rfl ⟨τ',by rw[hr];exact hJ',(TS _).symm,by rw[hr];rfl⟩
theorem Inv.readd{M:av}{bm:List Nat}{σ:LLV}{tk:bA}{pr:Nat->Prop}{w:World}(h:Inv M bm σ tk pr w){b:Nat}{cs:List V}{vs:Array Value}{T:TypeId}(hb:w.heap[b]? = some (.cells vs T (0,0)))(hl:vs.size=cs.length)
 (hc:∀j (h:j<cs.length) (h':j<vs.size),Rep M bm cs[j] vs[j]/\vs[j].oneCell'=true/\∀T k rows,cs[j]≠.own T k rows)(hf:(∀o,M b o=none)/\¬pr b)(hn:b∉bm)(ht:∀i j g,tk i j=some g->g≠b):Inv M (bm++[b]) (σ++[cs]) tk pr w:=by
 have hpre:∀i c:Nat,bm[i]? = some c->(bm++[b])[i]? = some c:=nj ⟨_,rfl⟩;refine⟨h.facts,by simp[h.len],fun i c cs' hi hc'=>?_,fun c hcm=>?_,?_,fun i j g hg=>?_,h.inj,h.prlt⟩
 .by_cases hlt:i<bm.length
  .rw[TZ hlt]at hi;rw[TZ (by rw[<-h.len];exact hlt)]at hc';rcases h.box i c cs' hi hc' with⟨vs',T',g1,g2,g3⟩|g1;case inr=>exact .inr (g1.mono (av.le.refl _) hpre rfl)
   exact .inl ⟨vs',T',g1,g2,fun j hj hj'=>⟨⟨(g3 j hj hj').1.rep.mono (av.le.refl _) hpre,(g3 j hj hj').1.own⟩,(g3 j hj hj').2⟩⟩
  .rw[TW (by omega)]at hi;rw[TW (by rw[<-h.len];omega)]at hc'
   have hi0:i-bm.length=0:=by
    have:=(List.getElem?_eq_some_iff.1 hi).1;simp at this;omega
   rw[<-h.len]at hc';rw[hi0]at hi hc';simp at hi hc';subst hi;subst hc';exact .inl ⟨vs,T,hb,hl,fun j hj hj'=>⟨⟨(hc j hj hj').1.mono (av.le.refl _) hpre,fun T k rows hT=>absurd hT ((hc j hj hj').2.2 T k rows)⟩,(hc j hj hj').2.1⟩⟩
 .rcases List.mem_append.1 hcm with hcm|hcm
  .exact h.free c hcm
  .simp at hcm;subst hcm;exact hf
 .rw[List.nodup_append];exact⟨h.bmnd,by simp,fun a ha c hc=>by simp at hc;subst hc;exact fun e=>hn (e▸ha)⟩
 .obtain⟨t1,t2,t3⟩:=h.tok i j g hg;refine⟨t1,fun hm=>?_,t3⟩;rcases List.mem_append.1 hm with hm|hm
  .exact t2 hm
  .simp at hm;exact ht i j g hg hm
theorem SRel.repick{M:av}{bm:List Nat}{tk:bA}{pr:Prot}{ρ ρ':aj}{σ:LLV}{n:Nat}{a:Act}{w:World}(h:SRel M bm tk pr ρ σ n a w){k i:Nat}{cs:List V}(hb:am k (σ.take k)=true)(hi:σ[i]? = some cs)(hk:k≤i)
 (hlit:∀v∈cs,∃d,v=.d d)(hnm:cA cs=true)(hs:∀t,(get ρ' t=get ρ t/\V.under k (get ρ t)=true)\/(get ρ t=.ptr i 0/\get ρ' t=.ptr k 0)\/get ρ' t=.junk):
 ∃b,SRel M (bm.take k++[b]) tk pr ρ' (σ.take k++[cs]) n a w:=by
 have hlen:=h.inv.len;have hil:i<σ.length:=(List.getElem?_eq_some_iff.1 hi).1;have hbi:bm[i]? = some (bm[i]'(by omega)):=TT (by omega);generalize hbd:bm[i]'(by omega)=b at hbi;obtain⟨vs,T,h1,h2,h3⟩:=h.inv.cells hbi hi hnm;have hmem:b∈bm:=List.mem_of_getElem? hbi
 have hnot:b∉bm.take k:=fun hm=>by
  obtain⟨j,hj,e⟩:=List.getElem_of_mem hm;have hjk:j<k:=by simp at hj;omega
  rw[List.getElem_take]at e;have:j=i:=(List.getElem_inj (h₀:=by omega) (h₁:=by omega) h.inv.bmnd).1 (by rw[e,hbd]);omega
 have hdr:=h.inv.drop hb;refine⟨b,⟨hdr.readd h1 h2 (fun j g1 g2=>⟨?_,(h3 j g1 g2).2,fun T k rows e=>?_⟩) (h.inv.free b hmem) hnot (fun i j g hg e=>(h.inv.tok i j g hg).2.1 (e▸hmem)),h.defers,h.size,fun t=>?_⟩⟩
 .obtain⟨d,hd⟩:=hlit cs[j] (TX g1);exact(h3 j g1 g2).1.rep.drop (by rw[hd];rfl)
 .obtain⟨d,hd⟩:=hlit cs[j] (TX g1);rw[hd]at e;cases e
 .have hl2:(bm.take k).length=k:=by rw[List.length_take];omega
  rcases hs t with⟨e1,e2⟩|⟨e1,e2⟩|e
  .rw[e1];exact⟨((h.slots t).rep.drop e2).mono (av.le.refl _) (nj ⟨_,rfl⟩),(h.slots t).own⟩
  .have hr:=(h.slots t).rep;rw[e1]at hr;rw[e2];generalize a.tmps.getD t undef=v at hr ⊢;cases hr with
   | ptr hb2=>
    rw[hbi]at hb2;cases hb2;exact⟨.ptr (by rw[TW (by omega),hl2];simp),fun T k rows e=>by cases e⟩
  .rw[e];exact⟨.junk _,fun T k rows e=>by cases e⟩
abbrev F7:List V:=[.d (.lit (.bool false)),.d (.lit (.bool false)),.d (.lit (.bool false)),.d (.lit (.bool false)),.d (.lit (.bool false)),.d (.lit (.bool false)),.d (.lit (.bool false))]
abbrev yD(f:FuncId)(T:TypeId):List O:=[⟨some 11,.call f [],none⟩,⟨some 12,.fa 0 (.t 2),none⟩,⟨some 13,.load 1 false (.t 12),none⟩,⟨some 14,.mlk false true (.agg F7) (.t 11) (.t 13),none⟩,⟨some 10,.mv (.t 14),none⟩,⟨some 15,.ext (.t 10) 0,none⟩,⟨some 16,.ext (.t 10) 1,none⟩,⟨some 5,.new T F7,none⟩,⟨none,.sto 7 (.t 5) (.t 15),none⟩,⟨some 6,.mv (.t 16),none⟩]
abbrev Al:List (List Nat):=[[],[],[1],[0,2],[3],[4],[4],[],[7,5,0,0,1,2,3,4,5,7],[6,8,0,1,2,3,4,5,6,7,8]]
def fU(ρ0:aj)(bx:Nat)(kd:Int)(U:V)(kn:Bool)(S:Nat->Bool)(pm pu:Nat)(t:Nat):V:=
 if t=11 then(if S 0 then .mp pm else get ρ0 11)else if t=12 then(if S 1 then .ptr bx 0 else get ρ0 12)else if t=13 then(if S 2 then .d (.lit (.int .i64 kd))else get ρ0 13)else
 if t=14 then(if S 3 then .tup [U,ao kn]else get ρ0 14)else if t=10 then(if S 4 then .tup [U,ao kn]else get ρ0 10)else if t=15 then(if S 5 then U else get ρ0 15)else
 if t=16 then(if S 6 then ao kn else get ρ0 16)else if t=5 then(if S 7 then .ptr pu 0 else get ρ0 5)else if t=6 then(if S 9 then ao kn else get ρ0 6)else get ρ0 t
def Ep(σ0:LLV)(mb:List V)(fin:List V)(S:Nat->Bool)(pm pu:Nat)(σ:LLV):Prop:=
 (S 0=false/\S 7=false/\σ=σ0)\/(S 0=true/\S 7=false/\pm=σ0.length/\σ=σ0++[mb])\/(S 0=false/\S 7=true/\pu=σ0.length/\σ=σ0++[if S 8 then fin else F7])\/
 (S 0=true/\S 7=true/\pm=σ0.length/\pu=σ0.length+1/\σ=σ0++[mb,if S 8 then fin else F7])\/(S 0=true/\S 7=true/\pu=σ0.length/\pm=σ0.length+1/\σ=σ0++[if S 8 then fin else F7,mb])
def pK(ρ0:aj)(σ0:LLV)(bx:Nat)(kd:Int)(u:List Bool)(kn:Bool)(mb:List V)(S:Nat->Bool)(ρ:aj)(σ:LLV):Prop:=
 ∃pm pu,Ep σ0 mb (u.map ao) S pm pu σ/\∀t,get ρ t=fU ρ0 bx kd (.agg (u.map ao)) kn S pm pu t
theorem EJ(ρ:aj)(d t:Nat)(v:V):get (put ρ d v) t=if d=t then v else get ρ t:=by
 rw[cN];by_cases e:d=t
 .subst e;simp
 .rw[if_neg e,if_neg];exact fun h=>e h.symm
section
variable {C : Cx} {n0 : Nat}
theorem eu{ρ0 ρ:aj}{σ0 σ':LLV}{bx pm pu pm' pu':Nat}{kd:Int}{u:List Bool}{kn:Bool}{mb:List V}{S:Nat->Bool}{i d:Nat}{v:V}(hS:Ep σ0 mb (u.map ao) (fun j=>j==i||S j) pm' pu' σ')
 (hv:∀t,get ρ t=fU ρ0 bx kd (.agg (u.map ao)) kn S pm pu t)(h1:∀t,t≠d->fU ρ0 bx kd (.agg (u.map ao)) kn (fun j=>j==i||S j) pm' pu' t=fU ρ0 bx kd (.agg (u.map ao)) kn S pm pu t)
 (h2:fU ρ0 bx kd (.agg (u.map ao)) kn (fun j=>j==i||S j) pm' pu' d=v):pK ρ0 σ0 bx kd u kn mb (fun j=>j==i||S j) (put ρ d v) σ':=by
 refine⟨pm',pu',hS,fun t=>?_⟩;rw[EJ];by_cases e:d=t
 .subst e;rw[if_pos rfl,h2]
 .rw[if_neg e,hv t,h1 t (Ug e)]
theorem rr{f:FuncId}{T:TypeId}{ρ0:aj}{σ0:LLV}{Q:bV}{bx:Nat}{kd:Int}{cs:List V}{u:List Bool}{kn:Bool}{kv:List (Key×V)}
 (hn0:n0≤σ0.length)(hf:∀σ,Fun C f [] σ fun o σ'=>o=.ret (.mp σ.length)/\σ'=σ++[[.mapc false kv]])
 (h2:get ρ0 2=.ptr bx 0)(hbx:σ0[bx]? = some (.d (.lit (.int .i64 kd))::cs))(hu:u.length=7)
 (hm:qt true (.agg F7) (lZ (.i kd) kv)=.tup [.agg (u.map ao),ao kn])(hb:am σ0.length σ0=true)(h3:V.under σ0.length (get ρ0 3)=true)
 (hq:Q .normal [(2,.ptr bx 0),(3,get ρ0 3),(5,.ptr σ0.length 0),(6,ao kn)] (σ0++[u.map ao])):
 ib C n0 (yD f T) Al ρ0 σ0 Q:=by
 intro pr M0 bm0 w0 id ops n M bm tk a w hG hbm hok hes hl h;obtain⟨hlen,hget⟩:=jl hok;have hsz:ops.size=10:=by rw[<-Array.length_toList,<-hlen];rfl
 have hedge:∀(i:Nat) (o:Oper),ops.toList[i]? = some o->Al[i]? = some (aW o):=fun i o ho=>by rw[<-hes,List.getElem?_map,ho];rfl
 have hbl:bx<σ0.length:=(List.getElem?_eq_some_iff.1 hbx).1
 have hin:∀S pm pu σ,Ep σ0 [.mapc false kv] (u.map ao) S pm pu σ->σ[bx]? = some (.d (.lit (.int .i64 kd))::cs):=by
  intro S pm pu σ hS;rcases hS with⟨-,-,rfl⟩|⟨-,-,-,rfl⟩|⟨-,-,-,rfl⟩|⟨-,-,-,-,rfl⟩|⟨-,-,-,-,rfl⟩
  .exact hbx
  all_goals rw[TZ hbl];exact hbx
 have hwant:∀(p:O) (o':Oper),okO C.tab n ops p o'=true->p.g=none->∀a:Act,Region.wanted o' (yielded ops a.tmps)=true:=by
  intro p o' hoo hg a;have hgd:=hoo;unfold okO at hgd;simp only[Bool.and_eq_true]at hgd;replace hgd:=hgd.2;rw[hg]at hgd;split at hgd
  .rename_i hg2;simp[Region.wanted,hg2]
  .rename_i e _;cases e
  .cases hgd
 refine wp_mono (F9 (M:=M) (bm:=bm) (tk:=tk) (Q:=fun x ρ σ=>x=.normal/\pK ρ0 σ0 bx kd u kn [.mapc false kv] (fun _=>true) ρ σ) (pK ρ0 σ0 bx kd u kn [.mapc false kv]) (fun i o ho j hj=>?_) (fun S S' ρ σ hS hR=>?_) hl h ⟨0,0,.inl ⟨rfl,rfl,rfl⟩,fun t=>?_⟩ (fun ρ σ hR=>⟨ρ,⟨rfl,hR⟩,fun t=>rfl⟩) (fun S i o ho hSi hclo hed M bm tk a w ρ σ hl hR h=>?_)) (fun e a w hL=>?_)
 .have he:=hedge i o ho;have hi:i<10:=by have:=(List.getElem?_eq_some_iff.1 ho).1;simp at this;omega
  have key:∀i,i<10->∀l,Al[i]? = some l->∀j∈l,j<i:=by decide
  exact key i hi _ he j hj
 .rw[hsz]at hS;simp only[pK,Ep,fU,hS 0 (by omega),hS 1 (by omega),hS 2 (by omega),hS 3 (by omega),hS 4 (by omega),hS 5 (by omega),hS 6 (by omega),hS 7 (by omega),hS 8 (by omega),hS 9 (by omega)]at hR ⊢;exact hR
 .unfold fU;simp only[Bool.false_eq_true,if_false];repeat' split
  all_goals first|rfl|(subst_vars;rfl)
 .have he:=hedge i o ho;have hi:i<10:=by have:=(List.getElem?_eq_some_iff.1 ho).1;simp at this;omega
  have hed:∀l,Al[i]? = some l->∀e∈l,S e=true:=fun l hl e hm=>by rw[hl]at he;cases he;exact hed e hm
  clear he;obtain⟨pm,pu,hS,hv⟩:=hR;have hbx':=hin _ _ _ _ hS
  have go:∀(p:O),(yD f T)[i]? = some p->p.g=none->cU C p.op p.dst ρ σ (pK ρ0 σ0 bx kd u kn [.mapc false kv] fun j=>j==i||S j) (fun _ _ _=>False)->(if Region.wanted o (yielded ops a.tmps)then o.wp C.P a w (pD M bm pr w n (pK ρ0 σ0 bx kd u kn [.mapc false kv] fun j=>j==i||S j)) (bJ M bm pr w n fun _ _ _=>False)
   else ∃ρ',pK ρ0 σ0 bx kd u kn [.mapc false kv] (fun j=>j==i||S j) ρ' σ/\SRel M bm tk pr ρ' σ n (a.put o.dst undef) w):=by
   intro p hp hg hr;have hoo:=hget i p o hp ho;rw[if_pos (hwant p o hoo hg a)];exact em (hG.mono hl) h hoo hr
  have pure:∀(d:Nat) (op:OP) (v:V),(yD f T)[i]? = some ⟨some d,op,none⟩->(∀K,pv C op ρ σ=some v->K (put ρ d v) σ->cU C op (some d) ρ σ K (fun _ _ _=>False))->pv C op ρ σ=some v->pK ρ0 σ0 bx kd u kn [.mapc false kv] (fun j=>j==i||S j) (put ρ d v) σ->(if Region.wanted o (yielded ops a.tmps)then o.wp C.P a w (pD M bm pr w n (pK ρ0 σ0 bx kd u kn [.mapc false kv] fun j=>j==i||S j)) (bJ M bm pr w n fun _ _ _=>False)
   else ∃ρ',pK ρ0 σ0 bx kd u kn [.mapc false kv] (fun j=>j==i||S j) ρ' σ/\SRel M bm tk pr ρ' σ n (a.put o.dst undef) w):=fun d op v h1 h2 h3 h4=>go _ h1 rfl (h2 _ h3 h4)
  have hi':i=0\/i=1\/i=2\/i=3\/i=4\/i=5\/i=6\/i=7\/i=8\/i=9:=by omega
  rcases hi' with rfl|rfl|rfl|rfl|rfl|rfl|rfl|rfl|rfl|rfl
  .refine go _ rfl rfl ?_;refine(hf σ).mono fun o σ' ⟨e1,e2⟩=>?_;subst e1;subst e2;rcases hS with⟨s0,s7,rfl⟩|⟨s0,-,-,rfl⟩|⟨s0,s7,rfl,rfl⟩|⟨s0,-,-,-,rfl⟩|⟨s0,-,-,-,rfl⟩
   .exact eu (pm':=σ.length) (pu':=pu) (.inr (.inl ⟨rfl,s7,rfl,rfl⟩)) hv (fun t ht=>by simp[fU,ht]) rfl
   .rw[s0]at hSi;cases hSi
   .exact eu (pm':=(σ0++[if S 8=true then Ud ao u else F7]).length) (pu':=σ0.length) (.inr (.inr (.inr (.inr ⟨rfl,s7,rfl,by simp,by simp⟩)))) hv (fun t ht=>by simp[fU,ht]) rfl
   .rw[s0]at hSi;cases hSi
   .rw[s0]at hSi;cases hSi
  .have e:get ρ 2=.ptr bx 0:=by rw[hv 2,<-h2];rfl
   refine pure 12 _ (.ptr bx 0) rfl (fun K h1 h2=>by simp only[cU,h1];exact h2) (by show faV 0 (get ρ 2)=_;rw[e];rfl) ?_;exact eu (pm':=pm) (pu':=pu) hS hv (fun t ht=>by simp[fU,ht]) rfl
  .have e1:=hed _ rfl 1 (by simp);have e:get ρ 12=.ptr bx 0:=by rw[hv 12];simp[fU,e1]
   refine pure 13 _ (.d (.lit (.int .i64 kd))) rfl (fun K h1 h2=>by simp only[cU,h1];exact h2) (by show j5 σ 1 false (get ρ 12)=_;rw[e,qi,hbx',xj,if_pos ⟨by simp,by cases cs<;>rfl⟩];rfl) ?_;exact eu (pm':=pm) (pu':=pu) hS hv (fun t ht=>by simp[fU,ht]) rfl
  .have e0:=hed _ rfl 0 (by simp);have e1:=hed _ rfl 2 (by simp);have e:get ρ 11=.mp pm:=by rw[hv 11];simp[fU,e0]
   have e':get ρ 13=.d (.lit (.int .i64 kd)):=by rw[hv 13];simp[fU,e1]
   have hmp:σ[pm]? = some [.mapc false kv]:=by
    rcases hS with⟨s0,s7,rfl⟩|⟨s0,-,rfl,rfl⟩|⟨s0,s7,rfl,rfl⟩|⟨s0,-,rfl,-,rfl⟩|⟨s0,-,-,rfl,rfl⟩
    .rw[s0]at e0;cases e0
    .simp
    .rw[s0]at e0;cases e0
    .simp
    .simp
   refine pure 14 _ (.tup [.agg (u.map ao),ao kn]) rfl (fun K h1 h2=>by simp only[cU,h1];exact h2) (by show yf false true (.agg F7) σ (get ρ 11) (get ρ 13)=_;rw[e,e',Jw,hmp,sJ,Aw,tc,hm]) ?_;exact eu (pm':=pm) (pu':=pu) hS hv (fun t ht=>by simp[fU,ht]) rfl
  .have e1:=hed _ rfl 3 (by simp);have e:get ρ 14=.tup [.agg (u.map ao),ao kn]:=by rw[hv 14];simp[fU,e1]
   refine pure 10 _ (.tup [.agg (u.map ao),ao kn]) rfl (fun K h1 h2=>by simp only[cU,h1];exact h2) (by show some (get ρ 14).copy=_;rw[e];rfl) ?_;exact eu (pm':=pm) (pu':=pu) hS hv (fun t ht=>by simp[fU,ht]) rfl
  .have e1:=hed _ rfl 4 (by simp);have e:get ρ 10=.tup [.agg (u.map ao),ao kn]:=by rw[hv 10];simp[fU,e1]
   refine pure 15 _ (.agg (u.map ao)) rfl (fun K h1 h2=>by simp only[cU,h1];exact h2) (by show vz (get ρ 10) 0=_;rw[e];rfl) ?_;exact eu (pm':=pm) (pu':=pu) hS hv (fun t ht=>by simp[fU,ht]) rfl
  .have e1:=hed _ rfl 4 (by simp);have e:get ρ 10=.tup [.agg (u.map ao),ao kn]:=by rw[hv 10];simp[fU,e1]
   refine pure 16 _ (ao kn) rfl (fun K h1 h2=>by simp only[cU,h1];exact h2) (by show vz (get ρ 10) 1=_;rw[e];rfl) ?_;exact eu (pm':=pm) (pu':=pu) hS hv (fun t ht=>by simp[fU,ht]) rfl
  .refine go _ rfl rfl ?_
   have s8:S 8=false:=by
    have h8:ops.toList[8]? = some (ops.toList[8]'(by rw[<-hlen];show 8<10;omega)):=TT _;cases hs8:S 8 with
    | false=>rfl
    | true=>
     have:=hclo 8 _ h8 hs8 7 (by have e:[7,5,0,0,1,2,3,4,5,7]=aW _:=Option.some.inj (hedge 8 _ h8);rw[<-e];simp);rw[this]at hSi;cases hSi
   show pK ρ0 σ0 bx kd u kn [.mapc false kv] _ (put ρ 5 (.ptr σ.length 0)) (σ++[F7]);rcases hS with⟨s0,s7,rfl⟩|⟨s0,-,rfl,rfl⟩|⟨s0,s7,rfl,rfl⟩|⟨s0,s7,-,-,rfl⟩|⟨s0,s7,-,-,rfl⟩
   .exact eu (pm':=pm) (pu':=σ.length) (.inr (.inr (.inl ⟨s0,rfl,rfl,by simp[s8]⟩))) hv (fun t ht=>by simp[fU,ht]) rfl
   .exact eu (pm':=σ0.length) (pu':=(σ0++[[V.mapc false kv]]).length) (.inr (.inr (.inr (.inl ⟨s0,rfl,rfl,by simp,by simp[s8]⟩)))) hv (fun t ht=>by simp[fU,ht]) rfl
   .rw[s7]at hSi;cases hSi
   .rw[s7]at hSi;cases hSi
   .rw[s7]at hSi;cases hSi
  .have e7:=hed _ rfl 7 (by simp);have e5:=hed _ rfl 5 (by simp);have e0:=hed _ rfl 0 (by simp);have g5:get ρ 5=.ptr pu 0:=by rw[hv 5];simp[fU,e7]
   have g15:get ρ 15=.agg (u.map ao):=by rw[hv 15];simp[fU,e5]
   refine go _ rfl rfl ?_
   have key:∀σ',σ[pu]? = some F7->σ'=σ.set pu (u.map ao)->Ep σ0 [.mapc false kv] (u.map ao) (fun j=>j==8||S j) pm pu σ'->cU C (.sto 7 (.t 5) (.t 15)) none ρ σ (pK ρ0 σ0 bx kd u kn [.mapc false kv] fun j=>j==8||S j) (fun _ _ _=>False):=by
    intro σ' h1 h2 h3;have x5:ev C ρ (.t 5)=.ptr pu 0:=g5;have x15:ev C ρ (.t 15)=.agg (u.map ao):=g15;simp only[cU,x5,x15,h1]
    match u,hu,h2,h3,hv with
    | [b1,b2,b3,b4,b5,b6,b7],_,h2,h3,hv=>
     refine⟨⟨rfl,rfl,by simp,rfl⟩,pm,pu,?_,fun t=>?_⟩
     .have:σ'=σ.set pu (over F7 0 (V.agg (Ud ao [b1,b2,b3,b4,b5,b6,b7])).cells):=h2;rw[<-this];exact h3
     .rw[hv t];simp[fU]
   rcases hS with⟨s0,s7,rfl⟩|⟨s0,s7,-,rfl⟩|⟨s0,s7,rfl,rfl⟩|⟨s0,s7,rfl,rfl,rfl⟩|⟨s0,s7,rfl,rfl,rfl⟩
   .rw[s0]at e0;cases e0
   .rw[s7]at e7;cases e7
   .rw[s0]at e0;cases e0
   .exact key (σ0++[[V.mapc false kv],u.map ao]) (by simp[hSi]) (by simp) (.inr (.inr (.inr (.inl ⟨s0,s7,rfl,rfl,rfl⟩))))
   .exact key (σ0++[u.map ao,[V.mapc false kv]]) (by simp[hSi]) (by simp) (.inr (.inr (.inr (.inr ⟨s0,s7,rfl,rfl,rfl⟩))))
  .have e1:=hed _ rfl 6 (by simp);have e:get ρ 16=ao kn:=by rw[hv 16];simp[fU,e1]
   refine pure 6 _ (ao kn) rfl (fun K h1 h2=>by simp only[cU,h1];exact h2) (by show some (get ρ 16).copy=_;rw[e];rfl) ?_;exact eu (pm':=pm) (pu':=pu) hS hv (fun t ht=>by simp[fU,ht]) rfl
 .obtain⟨M',bm',tk',ρ',σ',x,⟨rfl,pm,pu,hS,hv⟩,hx,hs,hlat⟩:=hL
  have fin:∀i,σ'[i]? = some (u.map ao)->σ0.length≤i->pu=i->σ'.take σ0.length=σ0->bJ M0 bm0 pr w0 n Q e a w:=by
   intro i h1 h2' h3' h4
   have hsl:∀t,(get [(2,.ptr bx 0),(3,get ρ0 3),(5,.ptr σ0.length 0),(6,ao kn)] t=get ρ' t/\V.under σ0.length (get ρ' t)=true)\/(get ρ' t=.ptr i 0/\get [(2,.ptr bx 0),(3,get ρ0 3),(5,.ptr σ0.length 0),(6,ao kn)] t=.ptr σ0.length 0)\/get [(2,.ptr bx 0),(3,get ρ0 3),(5,.ptr σ0.length 0),(6,ao kn)] t=.junk:=by
    intro t;by_cases t2:t=2
    .subst t2;exact .inl ⟨by rw[hv 2,<-h2];rfl,by rw[hv 2];show V.under _ (get ρ0 2)=true;rw[h2];simp[V.under,hbl]⟩
    by_cases t3:t=3
    .subst t3;exact .inl ⟨by rw[hv 3];rfl,by rw[hv 3];exact h3⟩
    by_cases t5:t=5
    .subst t5;exact .inr (.inl ⟨by rw[hv 5,<-h3'];rfl,rfl⟩)
    by_cases t6:t=6
    .subst t6;exact .inl ⟨by rw[hv 6];rfl,by rw[hv 6];rfl⟩
    exact .inr (.inr (by simp[get,Ug t2,Ug t3,Ug t5,Ug t6]))
   obtain⟨b,hr⟩:=hs.repick (ρ':=[(2,.ptr bx 0),(3,get ρ0 3),(5,.ptr σ0.length 0),(6,ao kn)]) (k:=σ0.length) (by rw[h4];exact hb) h1 h2' (fun v hv=>by obtain⟨b,-,rfl⟩:=List.mem_map.1 hv;exact⟨_,rfl⟩) (by match u,hu with | [_,_,_,_,_,_,_],_=>rfl) hsl;rw[h4]at hr;cases hx;refine⟨M',bm'.take σ0.length++[b],tk',_,_,.normal,hq,.normal,hr,⟨hlat.le,?_,hlat.keep,hlat.facts,hlat.os,hlat.tape,hlat.output,hlat.size⟩⟩;obtain⟨t,rfl⟩:=hlat.pre;exact⟨t.take (σ0.length-bm0.length)++[b],by rw[List.take_append,T3 (by omega),T6]⟩
  rcases hS with⟨s0,s7,rfl⟩|⟨s0,s7,-,rfl⟩|⟨s0,s7,rfl,rfl⟩|⟨s0,s7,hpm,hpu,rfl⟩|⟨s0,s7,hpu,hpm,rfl⟩
  .cases s0
  .cases s7
  .cases s0
  .exact fin (σ0.length+1) (by simp) (by omega) hpu (by simp)
  .exact fin σ0.length (by simp) (by omega) hpu (by simp)
end
end Go.Proofs.YtnhphlmblenapaaGreatDoor
namespace Go.Proofs.YtnhphlmblenapaaGreatDoor
open Go.RowKit
open Nat renaming reduceLeDiff -> jA, reduceBEq -> jB, reduceLT -> jC, reduceEqDiff -> jD, reduceAdd -> jE, reduceSub -> jF, reduceMul -> jG
open V renaming copy -> jV, lend -> jW, lend1 -> jX, cells -> jY, boxable -> jZ
abbrev vu7(u:List Bool):V:=.agg (u.map ao)
def kvK:List (Key×V):=[(.i 1,vu7 [true,false,false,false,false,false,false]),(.i 2,vu7 [true,false,false,false,false,false,false]),(.i 3,vu7 [false,true,false,true,false,false,false]),
 (.i 4,vu7 [true,false,false,false,true,true,false]),(.i 5,vu7 [false,true,true,false,true,false,false]),(.i 6,vu7 [false,false,false,false,false,false,true])]
theorem tI(σ:LLV):Fun G 124 [] σ (fun o σ'=>o=.ret (.mp σ.length)/\σ'=σ++[[.mapc false kvK]]):=by
 refine ae Tryz.func124 Ts rfl fun hb hw=>?_;unfold LQ;simp -dsimp only[aw,seval];exact⟨_,_,.refl _ _ _,.mp σ.length,rfl,(σ++[[V.mapc false kvK]]).length,by simp,by show am _ (Uc _ (σ++[[V.mapc false kvK]]))=true;rw[Ua];exact aq hb rfl,by simp[V.under],by show Out.ret _=_/\Uc _ (σ++[[V.mapc false kvK]])=_;rw[Ua];exact⟨rfl,rfl⟩⟩
theorem vE(k:Int):qt true (.agg F7) (lZ (.i k) kvK)=.tup [.agg ((if 1≤k/\k≤6 then mc k else[false,false,false,false,false,false,false]).map ao),ao (decide (1≤k/\k≤6))]:=by
 by_cases h:1≤k/\k≤6
 .rw[if_pos h,decide_eq_true h];have h6:k=1\/k=2\/k=3\/k=4\/k=5\/k=6:=by omega
  rcases h6 with rfl|rfl|rfl|rfl|rfl|rfl<;>rfl
 .rw[if_neg h,decide_eq_false h]
  have:lZ (.i k) kvK=none:=by
   have n1:¬k=1:=by omega
   have n2:¬k=2:=by omega
   have n3:¬k=3:=by omega
   have n4:¬k=4:=by omega
   have n5:¬k=5:=by omega
   have n6:¬k=6:=by omega
   simp[lZ,kvK,n1,n2,n3,n4,n5,n6,Ug n1,Ug n2,Ug n3,Ug n4,Ug n5,Ug n6]
  rw[this];rfl
theorem sw(l:List ByteArray){j:Nat}(h:j<l.length):(l.drop j).all bN=(bN l[j]&&(l.drop (j+1)).all bN):=by rw[T0 h,Ub]
theorem Jj{C:Cx}{n0:Nat}{l:List O}{es:List (List Nat)}{keep:List Nat}{ρ:aj}{σ:LLV}{Q:bV}{t:Tag Q}(h:ib C n0 l es ρ σ fun e ρ' σ'=>Q e (aY keep ρ') σ'):eQ C n0 (.raw l es keep) ρ σ Q t:=h
theorem Hv(k:Int):∃b1 b2 b3 b4 b5 b6 b7,mc k=[b1,b2,b3,b4,b5,b6,b7]:=by
 unfold mc;repeat' split
 all_goals exact⟨_,_,_,_,_,_,_,rfl⟩
theorem Et(x:It):j6 x=if wE x.ws≠0 then wE x.ws else if bN x.name=true then 0 else 7:=by
 unfold j6 wE;repeat' split
 all_goals simp_all
theorem AY(x:It)(d:Nat)(bd:List ByteArray)(hbig:gz x≤1200000)(σ:LLV):Fun G 68 [vit x,Dd d bd] σ (aN (.d (ab (bM x d))) σ):=by
 have hb0:=ew x;refine ae Tryz.func68 k68 (by simp only[aM];rfl) fun hb hw=>?_;unfold c68;simp -dsimp only[aw,seval,aM];by_cases hk:1≤x.kind/\x.kind≤6
 case neg=>
  have hm:=vE x.kind;rw[if_neg hk,decide_eq_false hk]at hm;have hs:bM x d=1:=by unfold bM;rw[if_pos (.inl hk)]
  rw[hs];refine Jj (rr (bx:=σ.length) (kd:=x.kind) (by simp) tI rfl (by rw[TW (Ue _),Uf];rfl) rfl hm (aq hb rfl) (by simp[get,V.under]) ?_);simp -dsimp only[aw,seval];exact ak hb rfl rfl
 have hm:=vE x.kind;rw[if_pos hk,decide_eq_true hk]at hm;have hpl:=fun σ=>B1 x hbig hk σ;obtain⟨b1,b2,b3,b4,b5,b6,b7,hu⟩:=Hv x.kind;rw[hu]at hm hpl;simp only[aM,T1,TY]at hpl;refine Jj (rr (bx:=σ.length) (kd:=x.kind) (by simp) tI rfl (by rw[TW (Ue _),Uf];rfl) rfl hm (aq hb rfl) (by simp[get,V.under]) ?_);simp -dsimp only[aw,seval];refine ac (hpl _) ?_;cases hp:bU x with
 | false=>
  have hs:bM x d=1:=by unfold bM;rw[if_pos (.inr (.inl hp))]
  rw[hs];simp -dsimp only[aw,seval];exact ak hb rfl rfl
 | true=>
 by_cases h4:4<d
 .have hs:bM x d=1:=by unfold bM;rw[if_pos (.inr (.inr (.inl h4)))]
  have h4':(4:Int)<(d:Int):=by omega
  rw[hs];simp -dsimp only[aw,seval,decide_eq_true h4'];exact ak hb rfl rfl
 have h4':¬(4:Int)<(d:Int):=by omega
 by_cases hd:0<d/\(x.kind=3\/x.kind=6)
 .have hs:bM x d=1:=by unfold bM;rw[if_pos (.inr (.inr (.inr hd)))]
  have h0:(0:Int)<(d:Int):=by omega
  rw[hs];rcases hd.2 with k|k
  all_goals
   simp -dsimp only[aw,seval,decide_eq_false h4',decide_eq_true h0,k,TP,decide_true,decide_false];exact ak hb rfl rfl
 have hs:bM x d=if x.kind=3 then j6 x else if x.kind=6 then oA x else if x.kind=5 then wX x else bB x.ex:=by
  unfold bM;rw[if_neg];rintro(h|h|h|h)
  .exact h hk
  .rw[hp]at h;cases h
  .exact h4 h
  .exact hd h
 rw[hs];have hv:=fun σ=>oD x.ex (by omega) (by have:=mY x.ex;omega) σ;simp only[au]at hv;by_cases k3:x.kind=3
 .have h0:¬(0:Int)<(d:Int):=by have:¬0<d:=fun h=>hd ⟨h,.inl k3⟩;omega
  rw[if_pos k3,Et];simp -dsimp only[aw,seval,decide_eq_false h4',decide_eq_false h0,k3,TP,decide_true,decide_false];refine ac (xg x.ws (by omega) _) ?_;by_cases hw0:wE x.ws=0
  .rw[if_neg (by simp[hw0])];simp -dsimp only[aw,seval,hw0];refine ac (tY x.name _) ?_;cases hi:bN x.name with
   | true=>simp -dsimp only[aw,seval]
           exact ak hb rfl rfl
   | false=>simp -dsimp only[aw,seval]
            exact ak hb rfl rfl
  .rw[if_pos hw0];simp -dsimp only[aw,seval,decide_eq_false hw0];exact ak hb rfl rfl
 by_cases k6:x.kind=6
 .have h0:¬(0:Int)<(d:Int):=by have:¬0<d:=fun h=>hd ⟨h,.inr k6⟩;omega
  rw[if_neg k3,if_pos k6];unfold oA;by_cases hB:x.bef=[]
  .have e:decide (((x.bef.length:Nat):Int)=0)=true:=by simp[hB]
   rw[if_pos (.inl hB)];simp -dsimp only[aw,seval,decide_eq_false h4',decide_eq_false h0,k6,TP,decide_true,decide_false,TR,e];exact ak hb rfl rfl
  have eB:decide (((x.bef.length:Nat):Int)=0)=false:=by have:=List.length_pos_iff.2 hB;simp;omega
  by_cases hA:x.aft=[]
  .have e:decide (((x.aft.length:Nat):Int)=0)=true:=by simp[hA]
   rw[if_pos (.inr hA)];simp -dsimp only[aw,seval,decide_eq_false h4',decide_eq_false h0,k6,TP,decide_true,decide_false,TR,eB,e];exact ak hb rfl rfl
  have eA:decide (((x.aft.length:Nat):Int)=0)=false:=by have:=List.length_pos_iff.2 hA;simp;omega
  rw[if_neg (fun h=>h.elim hB hA)];simp -dsimp only[aw,seval,decide_eq_false h4',decide_eq_false h0,k6,TP,decide_true,decide_false,TR,eB,eA];have hcc:=fun σ=>yc [x.bef,x.aft] (by simp;omega) (by simp) σ;have e2:[x.bef,x.aft].flatten=x.bef++x.aft:=by simp
  rw[e2]at hcc;simp only[T1,TY]at hcc;refine ac (hcc _) ?_;have hL:(x.bef++x.aft).length≤1200000:=by rw[TU];omega
  generalize x.bef++x.aft=L at hL;simp -dsimp only[aw,seval,TR]
  refine aL [79,80,81] (R:=fun(j:Nat) ρ σ'=>ρ=[(79,.own 9 1 (L.map fun s=>[ai s])),(80,aF .i64 L.length),(81,aF .i64 j)]/\L.all bN=(L.drop j).all bN/\
   σ'=σ++[[.d (ab 6),.d (ab x.ex.op),.d (ab x.ex.num),.d (ai x.ex.name),.d (.sl (x.ex.args.map dex)),.d (ai x.name),.d (ai x.idx),.d (.sl (x.ws.map dwt)),.d (.sl (x.items.map dit)),.d (.sl (x.els.map dit)),.d (.sl (x.bef.map fun s=>[ai s])),.d (.sl (x.aft.map fun s=>[ai s]))],[.d (ab d),.d (.sl (bd.map fun s=>[ai s]))],[ao b1,ao b2,ao b3,ao b4,ao b5,ao b6,ao b7]]) L.length ⟨rfl,rfl,rfl⟩ ?_ _
  rintro j ρ' σ' hj ⟨rfl,hr,rfl⟩;by_cases hlt:j<L.length
  .rw[sw L hlt]at hr;simp -dsimp only[aw,seval,TQ,hlt,decide_true,TT hlt,aJ hlt (show L.length≤9223372036854775807 by omega)];refine ac (tY L[j] _) ?_;cases hi:bN L[j]with
   | true=>
    simp -dsimp only[aw,seval,aJ hlt (show L.length≤9223372036854775807 by omega)];exact⟨hlt,Nxt.same (by simp) (aq hb rfl) (by simp[an,V.under]) ⟨rfl,by rw[hr,hi,TK],rfl⟩⟩
   | false=>
    rw[hr,hi,TJ,if_neg Bool.false_ne_true];simp -dsimp only[aw,seval];exact ak hb rfl rfl
  .rw[T4 (by omega)]at hr;rw[hr,List.all_nil,if_pos rfl];simp -dsimp only[aw,seval,TQ,hlt];exact ak hb rfl rfl
 rw[if_neg k3,if_neg k6];by_cases k5:x.kind=5
 .rw[if_pos k5];unfold wX;by_cases h0:(0:Int)<(d:Int)
  all_goals
   simp -dsimp only[aw,seval,decide_eq_false h4',h0,k5,TP,decide_true,decide_false];refine ac (eH x.name _) ?_;cases hn:bC x.name with
   | false=>
    rw[if_neg (by simp)];simp -dsimp only[aw,seval];exact ak hb rfl rfl
   | true=>
    simp -dsimp only[aw,seval];refine ac (eH x.idx _) ?_;cases hx:bC x.idx with
    | false=>
     rw[if_neg (by simp)];simp -dsimp only[aw,seval];exact ak hb rfl rfl
    | true=>
     rw[if_pos ⟨rfl,rfl⟩];simp -dsimp only[aw,seval];exact ak hb rfl rfl
 rw[if_neg k5];by_cases h0:(0:Int)<(d:Int)
 all_goals
  simp -dsimp only[aw,seval,decide_eq_false h4',h0,decide_eq_false k3,decide_eq_false k5,decide_eq_false k6,decide_true,decide_false];refine ac (hv _) ?_;simp -dsimp only[aw,seval];exact ak hb rfl rfl
theorem Ej:P7 fun x _ _=>gz x≤1200000:=by
 intro x d bd h;have hb:=ew x;exact⟨fun y hy=>by have:=iq hy;omega,fun y hy=>by have:=iq hy;omega⟩
theorem A6(σ:LLV)(hb:am σ.length σ=true):Vst (fun(_:Unit) x d bd=>(yj x d bd,())) (fun x _ _=>gz x≤1200000) (.fn 68 []) (fun _ τ=>τ=σ) σ.length where
 len:=fun s τ h=>by rw[h]
 bb:=fun s τ h=>by rw[h];exact hb
 und:=rfl
 val:=.inl ⟨_,_,rfl⟩
 call:=fun s τ x d bd h hp l=>by
  subst h;exact(AY x d bd hp (τ++l)).mono fun o σ' ⟨e1,e2⟩=>⟨τ,rfl,e2,e1⟩
theorem re(l:List It)(hl:bu l≤1100000)(σ:LLV):Fun G 27 [.d (gZ l)] σ (aN (.d (ab (g7 l))) σ):=by
 refine ae Tryz.func27 k27 rfl fun hb hw=>?_;unfold c27 g7;simp -dsimp only[aw,seval];refine ac (C0 l (by have:=zG l;omega) _) ?_;by_cases h:64<cL l
 .have h':(64:Int)<(cL l:Int):=by omega
  rw[if_pos h];simp -dsimp only[aw,seval,decide_eq_true h'];exact ak hb rfl rfl
 .have h':¬(64:Int)<(cL l:Int):=by omega
  rw[if_neg h];simp -dsimp only[aw,seval,decide_eq_false h'];have:=EY _ _ Ej _ l (by omega) 0 [] _ _ (A6 σ hb) (fun x hx=>by have:=iq hx;omega) (by omega) (by simp;omega) () σ rfl;refine aB this ?_;rintro o σ' ⟨τ,rfl,rfl,rfl⟩;rw[aR,TS];have e:(wks (fun(_:Unit) x d bd=>(yj x d bd,())) l 0 [] ()).1=rvl l 0:=xQ l 0 [];rw[e];simp -dsimp only[aw,seval];exact ak hb rfl rfl
end Go.Proofs.YtnhphlmblenapaaGreatDoor
