import Derived.Test.YtnhphlmblenapaaGreatDoorK3
set_option linter.unusedVariables false
set_option linter.unusedSimpArgs false
set_option linter.unusedSectionVars false
set_option maxRecDepth 20000
set_option maxHeartbeats 4000000
open Bool renaming eq_iff_iff->TU,not_false->TV,false_and->TW,and_false->TX,true_and->TY,not_true->TZ
open Int renaming ofNat_lt->T0,reduceEq->T3
open List renaming length_map->T4,append_nil->T5,take_left->T6,length_append->T7,getElem?_eq_getElem->T8,getElem_mem->T9,take_succ_cons->Ua,map_nil->Ub,length_cons->Uc,map_append->Ud,length_nil->Ue,drop_eq_getElem_cons->Uf,map_cons->Ug,drop_eq_nil_of_le->Uh,append_assoc->Ui
open Nat renaming le_refl->Uj
namespace Go.Proofs.YtnhphlmblenapaaGreatDoor
open Go.RowKit
open Nat renaming reduceLeDiff -> jA, reduceBEq -> jB, reduceLT -> jC, reduceEqDiff -> jD, reduceAdd -> jE, reduceSub -> jF, reduceMul -> jG
open V renaming copy -> jV, lend -> jW, lend1 -> jX, cells -> jY, boxable -> jZ
theorem l9{P:List It->Prop}(h:∀l,(∀a,a∈l->P a.items/\P a.els)->P l):∀l,P l:=by
 have H:∀n l,cQ l≤n->P l:=by
  intro n
  induction n with
  | zero=>
   intro l hl;refine h l fun a ha=>?_;have:=tb ha;have:=vX a;omega
  | succ n ih=>
   intro l hl;refine h l fun a ha=>?_;have h1:=tb ha;have h2:=oa a;exact⟨ih _ (by omega),ih _ (by omega)⟩
 exact fun l=>H _ l (Uj _)
theorem IK(f:List It->Nat)(g:It->Nat)(h0:f []=0)(hc:∀a r,f (a::r)=g a+f r)(l:List It){j:Nat}(h:j<l.length):f (l.take (j+1))=f (l.take j)+g l[j]:=by
 induction l generalizing j with
 | nil=>simp at h
 | cons a r ih=>
  cases j with
  | zero=>simp only[Ua,List.take_zero,hc,h0,List.getElem_cons_zero];omega
  | succ j=>simp only[Ua,hc,List.getElem_cons_succ];rw[ih (by simpa using h)];omega
theorem EQ(l:List It){j:Nat}(h:j<l.length):cQ (l.take (j+1))=cQ (l.take j)+isz l[j]:=IK cQ isz rfl (fun _ _=>rfl) l h
theorem vG(l:List It)(j:Nat):cQ (l.take j)≤cQ l:=by
 induction l generalizing j with
 | nil=>simp
 | cons a r ih=>cases j with
  | zero=>simp[cQ]
  | succ j=>rw[Ua,cQ,cQ];have:=ih j;omega
theorem Ec:∀l:List It,cQ l≤1200000->∀σ,Fun G 66 [.d (fF l)] σ (aP (.d (ac (cQ l:Nat))) σ):=by
 refine l9 fun l ih hs σ=>?_;refine ai Tryz.func66 k66 rfl fun hb hw=>?_;unfold c66;have hln:=xD l;simp -dsimp only[aw,jV,jW,jX,jY,jZ,jA,reduceIte,reduceCtorEq,jB,jC,jD,jE,jF,jG,T4];refine aN [3,6,7,8] (fun(j:Nat) ρ σ'=>ρ=[(3,aB .i64 (cQ (l.take j):Nat)),(6,.d (fF l)),(7,aB .i64 l.length),(8,aB .i64 j)]/\σ'=σ) l.length ⟨rfl,rfl⟩ ?_ _;rintro j ρ' σ' hj ⟨rfl,rfl⟩;by_cases hlt:j<l.length
 .have ht:=EQ l hlt;have hle:=vG l (j+1);have he:=oa l[j];have w1:IntKind.i64.wrap (1+((cQ l[j].items:Nat):Int))=((1+cQ l[j].items:Nat):Int):=by rw[ba (by omega) (by omega)];omega
  have w2:IntKind.i64.wrap (((1+cQ l[j].items:Nat):Int)+((cQ l[j].els:Nat):Int))=((isz l[j]:Nat):Int):=by rw[ba (by omega) (by omega)];omega
  have w3:IntKind.i64.wrap (((cQ (l.take j):Nat):Int)+((isz l[j]:Nat):Int))=((cQ (l.take (j+1)):Nat):Int):=by rw[ba (by omega) (by omega)];omega
  obtain⟨i1,i2⟩:=ih _ (T9 hlt);simp -dsimp only[aw,jV,jW,jX,jY,jZ,jA,reduceIte,reduceCtorEq,jB,jC,jD,jE,jF,jG,T0,hlt,decide_true,T8 hlt,ea l[j]];refine aA (i1 (by omega) _) ?_;simp -dsimp only[aw,jV,jW,jX,jY,jZ,jA,reduceIte,reduceCtorEq,jB,jC,jD,jE,jF,jG];refine aA (i2 (by omega) _) ?_;simp -dsimp only[aw,jV,jW,jX,jY,jZ,jA,reduceIte,reduceCtorEq,jB,jC,jD,jE,jF,jG,w1,w2,w3,aH hlt (show l.length≤9223372036854775807 by omega)];exact⟨hlt,Nxt.drop (Uj _) hb rfl ⟨rfl,rfl⟩⟩
 .simp -dsimp only[aw,jV,jW,jX,jY,jZ,jA,reduceIte,reduceCtorEq,jB,jC,jD,jE,jF,jG,T0,hlt,decide_false];rw[List.take_of_length_le (by omega)];first|exact av hb rfl rfl|exact au hb rfl rfl
theorem fA(s:ByteArray)(σ:LLV):Fun G 96 [.d (ab s)] σ (aP (.d (.lit (.bool (aS s)))) σ):=
 H5 Tryz.func96 (by kernel_rfl) (by kernel_rfl) trivial fun M bm w v hG hM hr=>by
  cases hr with
  | d hr=>cases hr with
   | lit _ hf=>exact g9 s w (by simpa[cV,maxLen]using hf) (rp hG hM)
theorem uL(s:ByteArray)(σ:LLV):Fun G 127 [.d (ab s)] σ (aP (ak (bv s)) σ):=by
 refine ai Tryz.func127 TA rfl fun hb hw=>?_;unfold c127
 have hv:(bz (.mk 2 0 s [])=0)=(bv s=true):=by
  unfold bz
  have h1:dj (.mk 2 0 s [])=if bv s=true then 0 else 7:=by
   rw[dj,mM];unfold bM;cases hv:bv s<;>simp[hv,kR,cA,dQ]
  rw[h1];cases hv:bv s<;>simp[eo,d9,aX,bo]
 simp -dsimp only[aw,jV,jW,jX,jY,jZ,jA,reduceIte,reduceCtorEq,jB,jC,jD,jE,jF,jG];refine ae (v:=.d (ac (bz (.mk 2 0 s [])))) (by have:=nj (.mk 2 0 s []) (by simp[aX,bo]) (by simp[eo,d9]) σ;simpa only[an,Ex.op,Ex.num,Ex.name,Ex.args,Ub]using this) ?_;have hd:decide (bz (.mk 2 0 s [])=0)=bv s:=by rw[TU,decide_eq_true_eq,hv]
 simp -dsimp only[aw,jV,jW,jX,jY,jZ,jA,reduceIte,reduceCtorEq,jB,jC,jD,jE,jF,jG,hd];first|exact av hb rfl rfl|exact au hb rfl rfl
theorem CZ(e:Ex)(hl:e.args.length≤1200000)(σ:LLV):Fun G 178 [vex e] σ (aP (ak (ly e)) σ):=by
 refine ai Tryz.func178 S0 (by simp only[an];rfl) fun hb hw=>?_;unfold Py;have hlen:decide (((e.args.length:Nat):Int)=0)=e.args.isEmpty:=by cases e.args<;>simp;omega
 unfold ly;simp -dsimp only[aw,jV,jW,jX,jY,jZ,jA,reduceIte,reduceCtorEq,jB,jC,jD,jE,jF,jG,an,T4,hlen];all_goals (repeat' (first|(refine cL (fun h1=>?_) (fun h1=>?_)<;>(simp -dsimp only[aw,jV,jW,jX,jY,jZ,jA,reduceIte,reduceCtorEq,jB,jC,jD,jE,jF,jG,h1,T4,hlen];try rw[h1]))))
 all_goals first|exact av hb rfl rfl|exact au hb rfl rfl
theorem pN{α:Type}(l:List α):decide (((l.length:Nat):Int)=0)=l.isEmpty:=by cases l<;>simp;omega
theorem zO{α β:Type}(l:List α)(m:List β):decide ((((l.length+m.length:Nat)):Int)=0)=(l.isEmpty&&m.isEmpty):=by cases l<;>cases m<;>simp<;>omega
abbrev Tc(u:List Bool):V:=.agg (u.map ak)
def nx(k:Int):List Bool:=if k=1\/k=2 then[true,false,false,false,false,false,false]else if k=3 then[false,true,false,true,false,false,false]else if k=4 then[true,false,false,false,true,true,false]
 else if k=5 then[false,true,true,false,true,false,false]else[false,false,false,false,false,false,true]
theorem Dy(x:It)(hbig:fg x≤1200000)(hk:1≤x.kind/\x.kind≤6)(σ:LLV):Fun G 125 [vit x,Tc (nx x.kind)] σ (aP (ak (dW x)) σ):=by
 have hb0:=dI x
 have h3:x.ex.args.length≤1200000:=by
  have h2:bo x.ex.args≤aX x.ex:=by cases x.ex;simp only[aX,Ex.args];omega
  have:=LL x.ex.args;omega
 have w1:IntKind.i64.wrap (((x.bef.length:Nat):Int)+((x.aft.length:Nat):Int))=((x.bef.length+x.aft.length:Nat):Int):=by rw[ba (by omega) (by omega)];omega
 have e1:=pN x.ws;have e2:=pN x.items;have e3:=pN x.els;have e4:=zO x.bef x.aft;have hk6:x.kind=1\/x.kind=2\/x.kind=3\/x.kind=4\/x.kind=5\/x.kind=6:=by omega
 refine ai Tryz.func125 Rv (by simp only[bg];rfl) fun hb hw=>?_;unfold PF;have hbl:=fun σ=>CZ x.ex h3 σ;simp only[an]at hbl;rcases hk6 with hk|hk|hk|hk|hk|hk
 .have hp:dW x=(decide (x.name=⟨#[]⟩)&&decide (x.idx=⟨#[]⟩)&&x.ws.isEmpty&&x.items.isEmpty&&x.els.isEmpty&&(x.bef.isEmpty&&x.aft.isEmpty)):=by unfold dW;simp[hk]
  have hu:nx x.kind=[true,false,false,false,false,false,false]:=by unfold nx;simp[hk]
  rw[hp,hu];simp -dsimp only[aw,jV,jW,jX,jY,jZ,jA,reduceIte,reduceCtorEq,jB,jC,jD,jE,jF,jG,bg,T4,e1,e2,e3,e4,w1];all_goals (repeat' (first|(refine cL (fun h1=>?_) (fun h1=>?_)<;>(simp -dsimp only[aw,jV,jW,jX,jY,jZ,jA,reduceIte,reduceCtorEq,jB,jC,jD,jE,jF,jG,h1,T4,e1,e2,e3,e4,w1];try rw[h1]))))
  all_goals first|exact av hb rfl rfl|exact au hb rfl rfl
 .have hp:dW x=(decide (x.name=⟨#[]⟩)&&decide (x.idx=⟨#[]⟩)&&x.ws.isEmpty&&x.items.isEmpty&&x.els.isEmpty&&(x.bef.isEmpty&&x.aft.isEmpty)):=by unfold dW;simp[hk]
  have hu:nx x.kind=[true,false,false,false,false,false,false]:=by unfold nx;simp[hk]
  rw[hp,hu];simp -dsimp only[aw,jV,jW,jX,jY,jZ,jA,reduceIte,reduceCtorEq,jB,jC,jD,jE,jF,jG,bg,T4,e1,e2,e3,e4,w1];all_goals (repeat' (first|(refine cL (fun h1=>?_) (fun h1=>?_)<;>(simp -dsimp only[aw,jV,jW,jX,jY,jZ,jA,reduceIte,reduceCtorEq,jB,jC,jD,jE,jF,jG,h1,T4,e1,e2,e3,e4,w1];try rw[h1]))))
  all_goals first|exact av hb rfl rfl|exact au hb rfl rfl
 .have hp:dW x=(ly x.ex&&decide (x.idx=⟨#[]⟩)&&x.items.isEmpty&&x.els.isEmpty&&(x.bef.isEmpty&&x.aft.isEmpty)):=by unfold dW;simp[hk]
  have hu:nx x.kind=[false,true,false,true,false,false,false]:=by unfold nx;simp[hk]
  rw[hp,hu];simp -dsimp only[aw,jV,jW,jX,jY,jZ,jA,reduceIte,reduceCtorEq,jB,jC,jD,jE,jF,jG,bg,T4,e1,e2,e3,e4,w1];refine ae (hbl _) ?_;simp -dsimp only[aw,jV,jW,jX,jY,jZ,jA,reduceIte,reduceCtorEq,jB,jC,jD,jE,jF,jG,bg,T4,e1,e2,e3,e4,w1];all_goals (repeat' (first|(refine cL (fun h1=>?_) (fun h1=>?_)<;>(simp -dsimp only[aw,jV,jW,jX,jY,jZ,jA,reduceIte,reduceCtorEq,jB,jC,jD,jE,jF,jG,h1,T4,e1,e2,e3,e4,w1];try rw[h1]))))
  all_goals first|exact av hb rfl rfl|exact au hb rfl rfl
 .have hp:dW x=(decide (x.name=⟨#[]⟩)&&decide (x.idx=⟨#[]⟩)&&x.ws.isEmpty&&(x.bef.isEmpty&&x.aft.isEmpty)):=by unfold dW;simp[hk]
  have hu:nx x.kind=[true,false,false,false,true,true,false]:=by unfold nx;simp[hk]
  rw[hp,hu];simp -dsimp only[aw,jV,jW,jX,jY,jZ,jA,reduceIte,reduceCtorEq,jB,jC,jD,jE,jF,jG,bg,T4,e1,e2,e3,e4,w1];all_goals (repeat' (first|(refine cL (fun h1=>?_) (fun h1=>?_)<;>(simp -dsimp only[aw,jV,jW,jX,jY,jZ,jA,reduceIte,reduceCtorEq,jB,jC,jD,jE,jF,jG,h1,T4,e1,e2,e3,e4,w1];try rw[h1]))))
  all_goals first|exact av hb rfl rfl|exact au hb rfl rfl
 .have hp:dW x=(ly x.ex&&x.ws.isEmpty&&x.els.isEmpty&&(x.bef.isEmpty&&x.aft.isEmpty)):=by unfold dW;simp[hk]
  have hu:nx x.kind=[false,true,true,false,true,false,false]:=by unfold nx;simp[hk]
  rw[hp,hu];simp -dsimp only[aw,jV,jW,jX,jY,jZ,jA,reduceIte,reduceCtorEq,jB,jC,jD,jE,jF,jG,bg,T4,e1,e2,e3,e4,w1];refine ae (hbl _) ?_;simp -dsimp only[aw,jV,jW,jX,jY,jZ,jA,reduceIte,reduceCtorEq,jB,jC,jD,jE,jF,jG,bg,T4,e1,e2,e3,e4,w1];all_goals (repeat' (first|(refine cL (fun h1=>?_) (fun h1=>?_)<;>(simp -dsimp only[aw,jV,jW,jX,jY,jZ,jA,reduceIte,reduceCtorEq,jB,jC,jD,jE,jF,jG,h1,T4,e1,e2,e3,e4,w1];try rw[h1]))))
  all_goals first|exact av hb rfl rfl|exact au hb rfl rfl
 .have hp:dW x=(ly x.ex&&decide (x.name=⟨#[]⟩)&&decide (x.idx=⟨#[]⟩)&&x.ws.isEmpty&&x.items.isEmpty&&x.els.isEmpty):=by unfold dW;simp[hk]
  have hu:nx x.kind=[false,false,false,false,false,false,true]:=by unfold nx;simp[hk]
  rw[hp,hu];simp -dsimp only[aw,jV,jW,jX,jY,jZ,jA,reduceIte,reduceCtorEq,jB,jC,jD,jE,jF,jG,bg,T4,e1,e2,e3,e4,w1];refine ae (hbl _) ?_;simp -dsimp only[aw,jV,jW,jX,jY,jZ,jA,reduceIte,reduceCtorEq,jB,jC,jD,jE,jF,jG,bg,T4,e1,e2,e3,e4,w1];all_goals (repeat' (first|(refine cL (fun h1=>?_) (fun h1=>?_)<;>(simp -dsimp only[aw,jV,jW,jX,jY,jZ,jA,reduceIte,reduceCtorEq,jB,jC,jD,jE,jF,jG,h1,T4,e1,e2,e3,e4,w1];try rw[h1]))))
  all_goals first|exact av hb rfl rfl|exact au hb rfl rfl
def wE(ws:List Wt):Int:=if ws.length>16 then 2 else if ws=[]then 1 else if ws.all wtB=false then 1 else 0
theorem yd(ws:List Wt)(hl:ws.length≤1200000)(σ:LLV):Fun G 126 [.d (.sl (ws.map dwt))] σ (aP (.d (ac (wE ws))) σ):=by
 refine ai Tryz.func126 RJ rfl fun hb hw=>?_;unfold Nr wE;by_cases h1:ws.length>16
 .have h1':((16:Int)<((ws.length:Nat):Int)):=by omega
  rw[if_pos h1];simp -dsimp only[aw,jV,jW,jX,jY,jZ,jA,reduceIte,reduceCtorEq,jB,jC,jD,jE,jF,jG,T4,decide_eq_true h1'];first|exact av hb rfl rfl|exact au hb rfl rfl
 .have h1':¬((16:Int)<((ws.length:Nat):Int)):=by omega
  rw[if_neg h1];by_cases h2:ws=[]
  .rw[if_pos h2];subst h2;simp -dsimp only[aw,jV,jW,jX,jY,jZ,jA,reduceIte,reduceCtorEq,jB,jC,jD,jE,jF,jG,T4,decide_false,T3,decide_true,Int.ofNat_zero,Int.reduceLT];first|exact av hb rfl rfl|exact au hb rfl rfl
  .rw[if_neg h2];have h2':¬(((ws.length:Nat):Int)=0):=by have:=List.length_pos_iff.2 h2;omega
   simp -dsimp only[aw,jV,jW,jX,jY,jZ,jA,reduceIte,reduceCtorEq,jB,jC,jD,jE,jF,jG,T4,decide_eq_false h1',decide_eq_false h2'];refine aN [13,14,15] (fun(j:Nat) ρ σ'=>ρ=[(13,.d (.sl (ws.map dwt))),(14,aB .i64 ws.length),(15,aB .i64 j)]/\σ'=σ/\ws.all wtB=(ws.drop j).all wtB) ws.length ⟨rfl,rfl,rfl⟩ ?_ _;rintro j ρ' σ' hj ⟨rfl,rfl,hr⟩;by_cases hlt:j<ws.length
   .rw[Uf hlt,List.all_cons]at hr;have hd:dwt ws[j]=[ac ws[j].lo,ac ws[j].hi,ac ws[j].w,dbl ws[j].each]:=rfl;have hwt:wtB ws[j]=(!decide (ws[j].lo<0) && !decide (ws[j].hi<ws[j].lo) && !decide (65535<ws[j].hi) && !decide (ws[j].w<0) && !decide (1000<ws[j].w)):=by unfold wtB;rw[TU];simp
    rw[hwt]at hr;simp -dsimp only[aw,jV,jW,jX,jY,jZ,jA,reduceIte,reduceCtorEq,jB,jC,jD,jE,jF,jG,T0,hlt,decide_true,T8 hlt,hd,aH hlt (show ws.length≤9223372036854775807 by omega)];all_goals (repeat' (first|(refine cL (fun h1=>?_) (fun h1=>?_)<;>(simp -dsimp only[aw,jV,jW,jX,jY,jZ,jA,reduceIte,reduceCtorEq,jB,jC,jD,jE,jF,jG,h1,aH hlt (show ws.length≤9223372036854775807 by omega)];try rw[h1]))))
    all_goals first|exact aO hb rfl rfl T6 ⟨by rw[hr];simp only[*,TZ,TV,TX,TW,TY,if_true];rfl,rfl⟩|exact⟨hlt,Nxt.drop (Uj _) hb rfl ⟨rfl,rfl,by rw[hr];simp only[*,TZ,TV,TX,TW,TY]⟩⟩|(trace_state;fail)
   .simp -dsimp only[aw,jV,jW,jX,jY,jZ,jA,reduceIte,reduceCtorEq,jB,jC,jD,jE,jF,jG,T0,hlt,decide_false];rw[Uh (by omega)]at hr;rw[hr];first|exact av hb rfl rfl|exact au hb rfl rfl
section
variable (spl : ByteArray -> Option (ByteArray × Int)) (fs : List (ByteArray × Int))
end
end Go.Proofs.YtnhphlmblenapaaGreatDoor
namespace Go.Proofs.YtnhphlmblenapaaGreatDoor
open Go.RowKit
open Nat renaming reduceLeDiff -> jA, reduceBEq -> jB, reduceLT -> jC, reduceEqDiff -> jD, reduceAdd -> jE, reduceSub -> jF, reduceMul -> jG
open V renaming copy -> jV, lend -> jW, lend1 -> jX, cells -> jY, boxable -> jZ
section
variable (spl : ByteArray -> Option (ByteArray × Int)) (fs : List (ByteArray × Int))
theorem wV{l:List It}{d:Nat}(h:rvl l d=0){x:It}(hx:x∈l):bP x d=0/\rvl x.items (d+1)=0/\rvl x.els (d+1)=0:=by
 induction l with
 | nil=>cases hx
 | cons a r ih=>
  rw[rvl,Aw]at h;by_cases h1:bP a d=0
  .rw[if_pos h1]at h;by_cases h2:rvl a.items (d+1)=0
   .rw[if_pos h2]at h;by_cases h3:rvl a.els (d+1)=0
    .rw[if_pos h3]at h;rcases List.mem_cons.1 hx with rfl|hx
     .exact⟨h1,h2,h3⟩
     .exact ih h hx
    .rw[if_neg h3]at h;exact absurd h h3
   .rw[if_neg h2,if_neg h2]at h;exact absurd h h2
  .rw[if_neg h1,if_neg h1]at h;exact absurd h h1
end
end Go.Proofs.YtnhphlmblenapaaGreatDoor
namespace Go.Proofs.YtnhphlmblenapaaGreatDoor
open Go.RowKit
open Nat renaming reduceLeDiff -> jA, reduceBEq -> jB, reduceLT -> jC, reduceEqDiff -> jD, reduceAdd -> jE, reduceSub -> jF, reduceMul -> jG
open V renaming copy -> jV, lend -> jW, lend1 -> jX, cells -> jY, boxable -> jZ
section
variable (fs : List (ByteArray × Int))
end
end Go.Proofs.YtnhphlmblenapaaGreatDoor
namespace Go.Proofs.YtnhphlmblenapaaGreatDoor
open Go.RowKit
open Nat renaming reduceLeDiff -> jA, reduceBEq -> jB, reduceLT -> jC, reduceEqDiff -> jD, reduceAdd -> jE, reduceSub -> jF, reduceMul -> jG
open V renaming copy -> jV, lend -> jW, lend1 -> jX, cells -> jY, boxable -> jZ
section
variable (spl : ByteArray -> Option (ByteArray × Int)) (fs : List (ByteArray × Int))
end
end Go.Proofs.YtnhphlmblenapaaGreatDoor
namespace Go.Proofs.YtnhphlmblenapaaGreatDoor
open Go.RowKit
open Nat renaming reduceLeDiff -> jA, reduceBEq -> jB, reduceLT -> jC, reduceEqDiff -> jD, reduceAdd -> jE, reduceSub -> jF, reduceMul -> jG
open V renaming copy -> jV, lend -> jW, lend1 -> jX, cells -> jY, boxable -> jZ
def Ju(vf:V)(args:List V)(σ:LLV)(Q:Out->LLV->Prop):Prop:=
 match vf with
 | .fn f cap=>Fun G f (args++cap) σ Q
 | .bnd f first=>Fun G f (first++args) σ Q
 | _=>False
structure Vst{S:Type}(step:S->It->Nat->List ByteArray->Int×S)(P:It->Nat->List ByteArray->Prop)(vf:V)(J:S->LLV->Prop)(N:Nat):Prop where
 len:∀s τ,J s τ->τ.length=N
 bb:∀s τ,J s τ->aj N τ=true
 und:V.under N vf=true
 val:(∃f c,vf=.fn f c)\/(∃f c,vf=.bnd f c)
 call:∀s τ x d bd,J s τ->P x d bd->∀l,Ju vf [vit x,DO d bd] (τ++l) (fun o σ'=>∃τ',J (step s x d bd).2 τ'/\σ'=τ'++l/\o=.ret (.d (ac (step s x d bd).1)))
theorem Vst.app{S:Type}{step:S->It->Nat->List ByteArray->Int×S}{P:It->Nat->List ByteArray->Prop}{vf:V}{J:S->LLV->Prop}{N:Nat}(h:Vst step P vf J N)(L:LLV)(hL:L.all (fun cs=>V.unders (N+L.length) cs)=true):
 Vst step P vf (fun s σ=>∃τ,J s τ/\σ=τ++L) (N+L.length) where
 len:=fun s σ ⟨τ,h1,e⟩=>by rw[e,T7,h.len s τ h1]
 bb:=fun s σ ⟨τ,h1,e⟩=>by
  have h2:=h.bb s τ h1;have h3:=h.len s τ h1;rw[<-h3]at h2 hL ⊢;rw[e,<-T7];exact ax h2 (by rw[T7];exact hL)
 und:=V.under_mono (by omega) _ h.und
 val:=h.val
 call:=fun s σ x d bd ⟨τ,h1,e⟩ hp l=>by
  subst e;have:=h.call s τ x d bd h1 hp (L++l);rw[Ui]
  have hm:∀o σ',(∃τ',J (step s x d bd).2 τ'/\σ'=τ'++(L++l)/\o=Out.ret (.d (ac (step s x d bd).1)))->∃τ',(∃τ2,J (step s x d bd).2 τ2/\τ'=τ2++L)/\σ'=τ'++l/\o=Out.ret (.d (ac (step s x d bd).1)):=fun o σ' ⟨τ',g1,g2,g3⟩=>
   ⟨τ'++L,⟨τ',g1,rfl⟩,by rw[g2,Ui],g3⟩
  unfold Ju at this ⊢;cases vf<;>first|exact this.elim|exact this.mono hm
def QL(P:It->Nat->List ByteArray->Prop):Prop:=∀x d bd,P x d bd->(∀y,y∈x.items->P y (dep x d) (bnd x bd))/\(∀y,y∈x.els->P y (dep x d) bd)
def Ns{S:Type}(step:S->It->Nat->List ByteArray->Int×S)(J:S->LLV->Prop)(l:List It)(d:Nat)(bd:List ByteArray)(s:S)(L:LLV):Out->LLV->Prop:=
 fun o σ'=>∃τ',J (wks step l d bd s).2 τ'/\σ'=τ'++L/\o=.ret (.d (ac (wks step l d bd s).1))
theorem Fs{S:Type}(step:S->It->Nat->List ByteArray->Int×S)(x:It)(r:List It)(d:Nat)(bd:List ByteArray)(s:S):wks step (x::r) d bd s=
 if(step s x d bd).1=0 then(if(wks step x.items (dep x d) (bnd x bd) (step s x d bd).2).1=0 then
  (if(wks step x.els (dep x d) bd (wks step x.items (dep x d) (bnd x bd) (step s x d bd).2).2).1=0 then wks step r d bd (wks step x.els (dep x d) bd (wks step x.items (dep x d) (bnd x bd) (step s x d bd).2).2).2
    else wks step x.els (dep x d) bd (wks step x.items (dep x d) (bnd x bd) (step s x d bd).2).2)
  else wks step x.items (dep x d) (bnd x bd) (step s x d bd).2)else step s x d bd:=by
 rw[wks,La];by_cases h1:(step s x d bd).1=0
 .rw[if_pos h1,if_pos h1];by_cases h2:(wks step x.items (dep x d) (bnd x bd) (step s x d bd).2).1=0
  .rw[if_pos h2,if_pos h2]
  .rw[if_neg h2,if_neg h2,if_neg h2]
 .rw[if_neg h1,if_neg h1,if_neg h1]
theorem N1{vf:V}{args:List V}{σ:LLV}{Q:Out->LLV->Prop}(h:Ju vf args σ Q){K P:V->LLV->Prop}{s:Tag K}{t:Tag P}{tg:Tag _}(hk:∀o σ',Q o σ'->Iw K P o σ'):KT vf args (fun f a=>kf G f a σ K P s t) tg:=by
 unfold Ju at h;cases vf<;>first|exact h.elim|exact h.mono hk
theorem me{n0 k:Nat}{σ' τ:LLV}{ρ:ah}{rs:List RV}{Q:Out->LLV->Prop}(hk:n0≤k)(ht:σ'.take k=τ)(hb:aj k τ=true){v:V}(h:be σ' ρ rs=some v)(hv:V.under k v=true)(hq:Q (.ret v) τ):fin n0 rs Q .ret ρ σ':=
 ⟨ρ,σ',.refl _ _ _,v,h,k,hk,by rw[ht];exact hb,hv,by rw[ht];exact hq⟩
theorem Nxt.drop3{n0:Nat}{R:ah->LLV->Prop}{ρ:ah}{σ:LLV}{a b c d:List V}(hn:n0≤σ.length)(hb:aj (σ++[a]).length (σ++[a])=true)(hs:aq (σ++[a]).length ρ=true)(hR:R ρ (σ++[a])):Nxt n0 R ρ (σ++[a,b,c,d]) .mk:=by
 have e:σ++[a,b,c,d]=(σ++[a])++[b,c,d]:=by simp
 rw[e];exact Nxt.drop (by rw[T7];omega) hb hs hR
theorem E9{S:Type}(step:S->It->Nat->List ByteArray->Int×S)(P:It->Nat->List ByteArray->Prop)(hP:QL P)(vf:V):∀l:List It,aF l≤1200000->∀(d:Nat) (bd:List ByteArray) (J:S->LLV->Prop) (N:Nat),Vst step P vf J N->(∀x,x∈l->P x d bd)->d+aF l≤1200000->bd.length+aF l≤1200000->
 ∀s τ,J s τ->Fun G 67 [.d (fF l),DO d bd,vf] τ (Ns step J l d bd s []):=by
 refine l9 fun l ih hs d bd J N hV hl hd hbd s τ hJ=>?_;have hln:=ns l;have hN:=hV.len s τ hJ;refine ai Tryz.func67 k67 (by rcases hV.val with⟨f,c,rfl⟩|⟨f,c,rfl⟩<;>rfl) fun hb hw=>?_;have hlend:vf.lend=vf:=by rcases hV.val with⟨f,c,rfl⟩|⟨f,c,rfl⟩<;>rfl
 have hcopy:vf.copy=vf:=by rcases hV.val with⟨f,c,rfl⟩|⟨f,c,rfl⟩<;>rfl
 have hcm:=hcopy;unfold V.copy at hcm;have hlm:=hlend;unfold V.lend at hlm;unfold c67;simp -dsimp only[aw,jV,jW,jX,jY,jZ,jA,reduceIte,reduceCtorEq,jB,jC,jD,jE,jF,jG,T4,hcm];refine aN [2,4,14,15,16] (R:=fun(j:Nat) ρ σ'=>∃s' τ',ρ=[(2,vf),(4,.ptr N 0),(14,.d (fF l)),(15,aB .i64 l.length),(16,aB .i64 j)]/\J s' τ'/\σ'=τ'++[[.d (ac d),.d (.sl (bd.map fun s=>[ab s]))]]/\wks step l d bd s=wks step (l.drop j) d bd s') l.length ⟨s,τ,by rw[hN];rfl,hJ,rfl,rfl⟩ ?_ _;rintro j ρ' σ' hj ⟨s',τ',rfl,hJ',rfl,hr⟩;have hN':=hV.len s' τ' hJ';by_cases hlt:j<l.length
 .have e:τ.length=τ'.length:=by rw[hN,hN']
  rw[e];subst hN';have hp:=hl _ (T9 hlt);obtain⟨p1,p2⟩:=hP _ d bd hp;obtain⟨i1,i2⟩:=ih _ (T9 hlt);have hbig:=dI l[j];have hm:=ib (T9 hlt);rw[Uf hlt,Fs]at hr;obtain⟨x,hx⟩:∃x,l[j]? = some x:=⟨_,T8 hlt⟩
  have hx':l[j]=x:=by rw[T8 hlt]at hx;exact Option.some.inj hx
  rw[hx']at hp p1 p2 i1 i2 hbig hm hr;have hc:=fun l=>hV.call s' τ' x d bd hJ' hp l;simp only[bg]at hc;simp -dsimp only[aw,jV,jW,jX,jY,jZ,jA,reduceIte,reduceCtorEq,jB,jC,jD,jE,jF,jG,T0,hlt,decide_true,hx,ea x,hcm];refine N1 (hc _) ?_;rintro o σ' ⟨τ2,hJ2,rfl,rfl⟩;have hN2:=hV.len _ τ2 hJ2;rw[<-hN2];by_cases s1:(step s' x d bd).1=0
  case neg=>
   rw[if_neg s1]at hr;rw[bB];simp -dsimp only[aw,jV,jW,jX,jY,jZ,jA,reduceIte,reduceCtorEq,jB,jC,jD,jE,jF,jG,decide_eq_false s1];refine me (v:=.d (ac (step s' x d bd).1)) (k:=τ2.length) (τ:=τ2) (Uj _) T6 (by rw[hN2];exact hV.bb _ τ2 hJ2) rfl rfl ⟨τ2,by rw[hr];exact hJ2,(T5 _).symm,by rw[hr]⟩
  rw[if_pos s1]at hr;rw[bB];have w1:IntKind.i64.wrap ((d:Int)+1)=((d+1:Nat):Int):=by rw[ba (by omega) (by omega)];omega
  have w1:IntKind.i64.wrap ((d:Int)+1)=((d+1:Nat):Int):=by rw[ba (by omega) (by omega)];omega
  have w1:IntKind.i64.wrap ((d:Int)+1)=((d+1:Nat):Int):=by rw[ba (by omega) (by omega)];omega
  have w1:IntKind.i64.wrap ((d:Int)+1)=((d+1:Nat):Int):=by rw[ba (by omega) (by omega)];omega
  by_cases k4:x.kind=4
  case pos=>
   have hd1:dep x d=d+1:=if_pos (.inl k4);have hb1:bnd x bd=bd:=if_neg (by omega);rw[hd1,hb1]at hr p1;rw[hd1]at p2;simp -dsimp only[aw,jV,jW,jX,jY,jZ,jA,reduceIte,reduceCtorEq,jB,jC,jD,jE,jF,jG,hcm,hlm,s1,decide_true,k4,T3,decide_false,w1];have hA:=hV.app [[V.d (ac d),V.d (.sl (bd.map fun s=>[ab s]))],[.d (ac 4),.d (ac x.ex.op),.d (ac x.ex.num),.d (ab x.ex.name),.d (.sl (x.ex.args.map dex)),.d (ab x.name),.d (ab x.idx),.d (.sl (x.ws.map dwt)),.d (.sl (x.items.map dit)),.d (.sl (x.els.map dit)),.d (.sl (x.bef.map fun s=>[ab s])),.d (.sl (x.aft.map fun s=>[ab s]))],[.d (ac (d+1:Nat)),(.d (.sl (bd.map fun s=>[ab s])))],[.d (ac (d+1:Nat)),(.d (.sl (bd.map fun s=>[ab s])))]] (by simp[V.unders,V.under])
   have g1:=i1 (by omega) (d+1) (bd) _ _ hA p1 (by omega) (by first|omega|(simp only[T7,Uc,Ue];omega)) _ _ ⟨τ2,hJ2,rfl⟩;have g2:=fun s τ hJ=>i2 (by omega) (d+1) bd _ _ hA p2 (by omega) (by omega) s _ ⟨τ,hJ,rfl⟩;try simp only[DO,Ud,Ug,Ub]at g1
   refine aC g1 ?_;rintro o σ' ⟨_,⟨τ3,hJ3,rfl⟩,rfl,rfl⟩;have hN3:=hV.len _ τ3 hJ3;rw[bB,T5,hN2.trans hN3.symm];by_cases s2:(wks step x.items (d+1) (bd) (step s' x d bd).2).1=0
   case neg=>
    rw[if_neg s2]at hr;simp -dsimp only[aw,jV,jW,jX,jY,jZ,jA,reduceIte,reduceCtorEq,jB,jC,jD,jE,jF,jG,decide_eq_false s2];refine me (v:=.d (ac (wks step x.items (d+1) (bd) (step s' x d bd).2).1)) (k:=τ3.length) (τ:=τ3) (Uj _) T6 (by rw[hN3];exact hV.bb _ τ3 hJ3) rfl rfl ⟨τ3,by rw[hr];exact hJ3,(T5 _).symm,by rw[hr]⟩
   rw[if_pos s2]at hr;simp -dsimp only[aw,jV,jW,jX,jY,jZ,jA,reduceIte,reduceCtorEq,jB,jC,jD,jE,jF,jG,hcm,hlm,s2,decide_true];refine aC (g2 _ τ3 hJ3) ?_;rintro o σ' ⟨_,⟨τ4,hJ4,rfl⟩,rfl,rfl⟩;have hN4:=hV.len _ τ4 hJ4;rw[bB,T5,hN3.trans hN4.symm];by_cases s3:(wks step x.els (d+1) bd (wks step x.items (d+1) (bd) (step s' x d bd).2).2).1=0
   case neg=>
    rw[if_neg s3]at hr;simp -dsimp only[aw,jV,jW,jX,jY,jZ,jA,reduceIte,reduceCtorEq,jB,jC,jD,jE,jF,jG,decide_eq_false s3];refine me (v:=.d (ac (wks step x.els (d+1) bd (wks step x.items (d+1) (bd) (step s' x d bd).2).2).1)) (k:=τ4.length) (τ:=τ4) (Uj _) T6 (by rw[hN4];exact hV.bb _ τ4 hJ4) rfl rfl ⟨τ4,by rw[hr];exact hJ4,(T5 _).symm,by rw[hr]⟩
   rw[if_pos s3]at hr;simp -dsimp only[aw,jV,jW,jX,jY,jZ,jA,reduceIte,reduceCtorEq,jB,jC,jD,jE,jF,jG,hcm,hlm,s3,decide_true,aH hlt (show l.length≤9223372036854775807 by omega)];have hb4:aj (τ4++[[V.d (ac d),V.d (.sl (bd.map fun s=>[ab s]))]]).length (τ4++[[V.d (ac d),V.d (.sl (bd.map fun s=>[ab s]))]])=true:=ax (by rw[hN4];exact hV.bb _ τ4 hJ4) (by simp[V.unders,V.under]);exact⟨hlt,Nxt.drop3 (by simp) hb4 (by simp[aq,V.under];exact V.under_mono (by omega) _ hV.und) ⟨_,τ4,by rw[hN4],hJ4,rfl,hr⟩⟩
  by_cases k5:x.kind=5
  case pos=>
   have hd1:dep x d=d+1:=if_pos (.inr k5);have hb1:bnd x bd=bd++[x.idx]:=if_pos k5;rw[hd1,hb1]at hr p1;rw[hd1]at p2;simp -dsimp only[aw,jV,jW,jX,jY,jZ,jA,reduceIte,reduceCtorEq,jB,jC,jD,jE,jF,jG,hcm,hlm,s1,decide_true,k5,T3,decide_false,w1];refine fm (Es bd (by omega) _) ?_ ?_
   .simp -dsimp only[aw,jV,jW,jX,jY,jZ,jA,reduceIte,reduceCtorEq,jB,jC,jD,jE,jF,jG]
   simp -dsimp only[aw,jV,jW,jX,jY,jZ,jA,reduceIte,reduceCtorEq,jB,jC,jD,jE,jF,jG,hcm,hlm,k5];refine bI (by omega) ?_;simp -dsimp only[aw,jV,jW,jX,jY,jZ,jA,reduceIte,reduceCtorEq,jB,jC,jD,jE,jF,jG,hcm,hlm,k5];have hA:=hV.app [[V.d (ac d),V.d (.sl (bd.map fun s=>[ab s]))],[.d (ac 5),.d (ac x.ex.op),.d (ac x.ex.num),.d (ab x.ex.name),.d (.sl (x.ex.args.map dex)),.d (ab x.name),.d (ab x.idx),.d (.sl (x.ws.map dwt)),.d (.sl (x.items.map dit)),.d (.sl (x.els.map dit)),.d (.sl (x.bef.map fun s=>[ab s])),.d (.sl (x.aft.map fun s=>[ab s]))],[.d (ac (d+1:Nat)),.own 9 1 ((bd.map fun s=>[ab s])++[[ab x.idx]])],[.d (ac (d+1:Nat)),(.d (.sl (bd.map fun s=>[ab s])))]] (by simp[V.unders,V.under]);have g1:=i1 (by omega) (d+1) (bd++[x.idx]) _ _ hA p1 (by omega) (by first|omega|(simp only[T7,Uc,Ue];omega)) _ _ ⟨τ2,hJ2,rfl⟩
   have g2:=fun s τ hJ=>i2 (by omega) (d+1) bd _ _ hA p2 (by omega) (by omega) s _ ⟨τ,hJ,rfl⟩;try simp only[DO,Ud,Ug,Ub]at g1
   refine aC g1 ?_;rintro o σ' ⟨_,⟨τ3,hJ3,rfl⟩,rfl,rfl⟩;have hN3:=hV.len _ τ3 hJ3;rw[bB,T5,hN2.trans hN3.symm];by_cases s2:(wks step x.items (d+1) (bd++[x.idx]) (step s' x d bd).2).1=0
   case neg=>
    rw[if_neg s2]at hr;simp -dsimp only[aw,jV,jW,jX,jY,jZ,jA,reduceIte,reduceCtorEq,jB,jC,jD,jE,jF,jG,decide_eq_false s2];refine me (v:=.d (ac (wks step x.items (d+1) (bd++[x.idx]) (step s' x d bd).2).1)) (k:=τ3.length) (τ:=τ3) (Uj _) T6 (by rw[hN3];exact hV.bb _ τ3 hJ3) rfl rfl ⟨τ3,by rw[hr];exact hJ3,(T5 _).symm,by rw[hr]⟩
   rw[if_pos s2]at hr;simp -dsimp only[aw,jV,jW,jX,jY,jZ,jA,reduceIte,reduceCtorEq,jB,jC,jD,jE,jF,jG,hcm,hlm,s2,decide_true];refine aC (g2 _ τ3 hJ3) ?_;rintro o σ' ⟨_,⟨τ4,hJ4,rfl⟩,rfl,rfl⟩;have hN4:=hV.len _ τ4 hJ4;rw[bB,T5,hN3.trans hN4.symm];by_cases s3:(wks step x.els (d+1) bd (wks step x.items (d+1) (bd++[x.idx]) (step s' x d bd).2).2).1=0
   case neg=>
    rw[if_neg s3]at hr;simp -dsimp only[aw,jV,jW,jX,jY,jZ,jA,reduceIte,reduceCtorEq,jB,jC,jD,jE,jF,jG,decide_eq_false s3];refine me (v:=.d (ac (wks step x.els (d+1) bd (wks step x.items (d+1) (bd++[x.idx]) (step s' x d bd).2).2).1)) (k:=τ4.length) (τ:=τ4) (Uj _) T6 (by rw[hN4];exact hV.bb _ τ4 hJ4) rfl rfl ⟨τ4,by rw[hr];exact hJ4,(T5 _).symm,by rw[hr]⟩
   rw[if_pos s3]at hr;simp -dsimp only[aw,jV,jW,jX,jY,jZ,jA,reduceIte,reduceCtorEq,jB,jC,jD,jE,jF,jG,hcm,hlm,s3,decide_true,aH hlt (show l.length≤9223372036854775807 by omega)];have hb4:aj (τ4++[[V.d (ac d),V.d (.sl (bd.map fun s=>[ab s]))]]).length (τ4++[[V.d (ac d),V.d (.sl (bd.map fun s=>[ab s]))]])=true:=ax (by rw[hN4];exact hV.bb _ τ4 hJ4) (by simp[V.unders,V.under]);exact⟨hlt,Nxt.drop3 (by simp) hb4 (by simp[aq,V.under];exact V.under_mono (by omega) _ hV.und) ⟨_,τ4,by rw[hN4],hJ4,rfl,hr⟩⟩
  have hd1:dep x d=d:=if_neg (by omega);have hb1:bnd x bd=bd:=if_neg (by omega);rw[hd1,hb1]at hr p1;rw[hd1]at p2;simp -dsimp only[aw,jV,jW,jX,jY,jZ,jA,reduceIte,reduceCtorEq,jB,jC,jD,jE,jF,jG,hcm,hlm,s1,decide_true,decide_eq_false k4,decide_eq_false k5,T3,decide_false];have hA:=hV.app [[V.d (ac d),V.d (.sl (bd.map fun s=>[ab s]))],[.d (ac x.kind),.d (ac x.ex.op),.d (ac x.ex.num),.d (ab x.ex.name),.d (.sl (x.ex.args.map dex)),.d (ab x.name),.d (ab x.idx),.d (.sl (x.ws.map dwt)),.d (.sl (x.items.map dit)),.d (.sl (x.els.map dit)),.d (.sl (x.bef.map fun s=>[ab s])),.d (.sl (x.aft.map fun s=>[ab s]))],[.d (ac d),(.d (.sl (bd.map fun s=>[ab s])))],[.d (ac d),(.d (.sl (bd.map fun s=>[ab s])))]] (by simp[V.unders,V.under])
  have g1:=i1 (by omega) (d) (bd) _ _ hA p1 (by omega) (by first|omega|(simp only[T7,Uc,Ue];omega)) _ _ ⟨τ2,hJ2,rfl⟩;have g2:=fun s τ hJ=>i2 (by omega) (d) bd _ _ hA p2 (by omega) (by omega) s _ ⟨τ,hJ,rfl⟩;try simp only[DO,Ud,Ug,Ub]at g1
  refine aC g1 ?_;rintro o σ' ⟨_,⟨τ3,hJ3,rfl⟩,rfl,rfl⟩;have hN3:=hV.len _ τ3 hJ3;rw[bB,T5,hN2.trans hN3.symm];by_cases s2:(wks step x.items (d) (bd) (step s' x d bd).2).1=0
  case neg=>
   rw[if_neg s2]at hr;simp -dsimp only[aw,jV,jW,jX,jY,jZ,jA,reduceIte,reduceCtorEq,jB,jC,jD,jE,jF,jG,decide_eq_false s2];refine me (v:=.d (ac (wks step x.items (d) (bd) (step s' x d bd).2).1)) (k:=τ3.length) (τ:=τ3) (Uj _) T6 (by rw[hN3];exact hV.bb _ τ3 hJ3) rfl rfl ⟨τ3,by rw[hr];exact hJ3,(T5 _).symm,by rw[hr]⟩
  rw[if_pos s2]at hr;simp -dsimp only[aw,jV,jW,jX,jY,jZ,jA,reduceIte,reduceCtorEq,jB,jC,jD,jE,jF,jG,hcm,hlm,s2,decide_true];refine aC (g2 _ τ3 hJ3) ?_;rintro o σ' ⟨_,⟨τ4,hJ4,rfl⟩,rfl,rfl⟩;have hN4:=hV.len _ τ4 hJ4;rw[bB,T5,hN3.trans hN4.symm];by_cases s3:(wks step x.els (d) bd (wks step x.items (d) (bd) (step s' x d bd).2).2).1=0
  case neg=>
   rw[if_neg s3]at hr;simp -dsimp only[aw,jV,jW,jX,jY,jZ,jA,reduceIte,reduceCtorEq,jB,jC,jD,jE,jF,jG,decide_eq_false s3];refine me (v:=.d (ac (wks step x.els (d) bd (wks step x.items (d) (bd) (step s' x d bd).2).2).1)) (k:=τ4.length) (τ:=τ4) (Uj _) T6 (by rw[hN4];exact hV.bb _ τ4 hJ4) rfl rfl ⟨τ4,by rw[hr];exact hJ4,(T5 _).symm,by rw[hr]⟩
  rw[if_pos s3]at hr;simp -dsimp only[aw,jV,jW,jX,jY,jZ,jA,reduceIte,reduceCtorEq,jB,jC,jD,jE,jF,jG,hcm,hlm,s3,decide_true,aH hlt (show l.length≤9223372036854775807 by omega)];have hb4:aj (τ4++[[V.d (ac d),V.d (.sl (bd.map fun s=>[ab s]))]]).length (τ4++[[V.d (ac d),V.d (.sl (bd.map fun s=>[ab s]))]])=true:=ax (by rw[hN4];exact hV.bb _ τ4 hJ4) (by simp[V.unders,V.under]);exact⟨hlt,Nxt.drop3 (by simp) hb4 (by simp[aq,V.under];exact V.under_mono (by omega) _ hV.und) ⟨_,τ4,by rw[hN4],hJ4,rfl,hr⟩⟩
 .simp -dsimp only[aw,jV,jW,jX,jY,jZ,jA,reduceIte,reduceCtorEq,jB,jC,jD,jE,jF,jG,T0,hlt,decide_false];rw[Uh (by omega)]at hr;refine me (k:=N) (τ:=τ') (by omega) (by rw[<-hN'];exact T6) (hV.bb s' τ' hJ') rfl rfl ⟨τ',by rw[hr];exact hJ',(T5 _).symm,by rw[hr];rfl⟩
end Go.Proofs.YtnhphlmblenapaaGreatDoor
