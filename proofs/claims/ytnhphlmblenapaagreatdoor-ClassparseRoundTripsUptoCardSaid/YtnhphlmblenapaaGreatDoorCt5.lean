import Derived.Lib.AtoiErrMem
import Derived.Test.YtnhphlmblenapaaGreatDoorLq
set_option linter.unusedVariables false
set_option linter.unusedSimpArgs false
set_option linter.unusedSectionVars false
set_option maxHeartbeats 4000000
open Bool renaming and_eq_true->TU,or_eq_true->TV,false_eq_true->TW
open Int renaming reduceEq->TX,ofNat_lt->TY
open List renaming length_append->TZ,length_cons->T0,length_nil->T3,getElem?_eq_getElem->T4,append_assoc->T5,getElem_cons_zero->T6,getElem_cons_succ->T7,eq_nil_of_length_eq_zero->T8,take_left->T9,drop_eq_getElem_cons->Ua,append_nil->Ub,drop_of_length_le->Uc,getElem_mem->Ud,cons_append->Ue,all_eq_true->Uf,length_map->Ug,drop_left->Uh,mem_cons->Ui,map_cons->Uj,map->Uk
open Nat renaming zero_le->Ul,add_mul->Um,le_refl->Un,mul_le_mul_left->Uo,pow_succ->Uq
namespace Go.Proofs.YtnhphlmblenapaaGreatDoor
open Go.RowKit
open Nat renaming reduceLeDiff -> jA, reduceBEq -> jB, reduceLT -> jC, reduceEqDiff -> jD, reduceAdd -> jE, reduceSub -> jF, reduceMul -> jG
open V renaming copy -> jV, lend -> jW, lend1 -> jX, cells -> jY, boxable -> jZ
inductive Sh:Ex->Prop where
 | const (n:Int) (h0:0≤n) (h1:n≤65535):Sh (.mk 1 n ⟨#[]⟩ [])
 | var (s:ByteArray) (h:bv s=true):Sh (.mk 2 0 s [])
 | elem (s:ByteArray) (x:Ex) (h:aS s=true) (hx:dj x=0):Sh (.mk 3 0 s [x])
 | pre (o:Int) (x:Ex) (h:o=4\/o=5\/o=6) (hx:dj x=0):Sh (.mk o 0 ⟨#[]⟩ [x])
 | bin (o:Int) (m:ByteArray) (k:Nat) (x y:Ex) (h:iw o=some (m,k)) (hx:dj x=0) (hy:dj y=0):Sh (.mk o 0 ⟨#[]⟩ [x,y])
 | ite (x y z:Ex) (hx:dj x=0) (hy:dj y=0) (hz:dj z=0):Sh (.mk 22 0 ⟨#[]⟩ [x,y,z])
 | inside (x:Ex) (l:List Ex) (hx:dj x=0) (hl:∀a,a∈l->dj a=0) (hev:l.length%2=0) (hne:2≤l.length) (h32:l.length≤32):Sh (.mk 23 0 ⟨#[]⟩ (x::l))
 | sum (s:ByteArray) (h:aS s=true):Sh (.mk 24 0 s [])
 | ones (x:Ex) (hx:dj x=0):Sh (.mk 25 0 ⟨#[]⟩ [x])
theorem Fv{e:Ex}(he:dj e=0):Sh e:=by
 obtain⟨o,n,s,l⟩:=e;obtain⟨hnode,hargs⟩:=ow he;obtain⟨o1,o25,hc,hop,hvar,hname,hn0,hs0⟩:=ol hnode;by_cases c1:o=1
 .subst c1;have hl:l=[]:=T8 (by simpa[cA,dQ]using hop);have hs:s=⟨#[]⟩:=hs0 (by decide);subst hl;subst hs;obtain⟨h0,h1⟩:=hc rfl;exact .const n h0 h1
 have hn:n=0:=hn0 c1;subst hn;by_cases c2:o=2
 .subst c2;have hl:l=[]:=T8 (by simpa[cA,dQ]using hop);subst hl;exact .var s (hvar rfl)
 by_cases c3:o=3
 .subst c3;have hnm:=hname (.inl rfl)
  have hl:l.length=1:=by have:(l.length:Int)=1:=by simpa[cA,dQ]using hop
                         omega
  obtain⟨x,rfl⟩:=List.length_eq_one_iff.1 hl;exact .elem s x hnm (hargs x (by simp))
 by_cases c24:o=24
 .subst c24;have hl:l=[]:=T8 (by simpa[cA,dQ]using hop);subst hl;exact .sum s (hname (.inr rfl))
 have hs:s=⟨#[]⟩:=hs0 (by unfold kR;simp[c2,c3,c24]);subst hs;by_cases c25:o=25
 .subst c25
  have hl:l.length=1:=by have:(l.length:Int)=1:=by simpa[cA,dQ]using hop
                         omega
  obtain⟨x,rfl⟩:=List.length_eq_one_iff.1 hl;exact .ones x (hargs x (by simp))
 by_cases c456:o=4\/o=5\/o=6
 .have hl:l.length=1:=by
   have:(l.length:Int)=1:=by
    rcases c456 with rfl|rfl|rfl<;>simpa[cA,dQ]using hop
   omega
  obtain⟨x,rfl⟩:=List.length_eq_one_iff.1 hl;exact .pre o x c456 (hargs x (by simp))
 by_cases c22:o=22
 .subst c22
  have hl:l.length=3:=by have:(l.length:Int)=3:=by simpa[cA,dQ]using hop
                         omega
  match l,hl,hargs with
  | [x,y,z],_,hargs=>exact .ite x y z (hargs x (by simp)) (hargs y (by simp)) (hargs z (by simp))
 by_cases c23:o=23
 .subst c23
  have hl:l.length%2=1/\3≤l.length/\l.length≤33:=by
   have:(decide (l.length%2=1)&&decide (3≤l.length)&&decide (l.length≤33))=true:=by simpa[cA]using hop
   simp only[TU,decide_eq_true_eq]at this;exact⟨this.1.1,this.1.2,this.2⟩
  match l,hl,hargs with
  | x::m,⟨h1,h2,h3⟩,hargs=>
   simp only[T0]at h1 h2 h3;exact .inside x m (hargs x (by simp)) (fun a ha=>hargs a (by simp[ha])) (by omega) (by omega) (by omega)
 have hl:l.length=2:=by
  have:(l.length:Int)=2:=by
   have h1:(l.length:Int)=dQ o:=by unfold cA at hop;rw[if_neg c23]at hop;exact of_decide_eq_true hop
   rw[h1];unfold dQ;rw[if_neg (by omega),if_neg (by omega),if_neg c22,if_neg c23,if_neg (by omega)]
  omega
 match l,hl,hargs with
 | [x,y],_,hargs=>
  obtain⟨k,hk⟩:=Int.eq_ofNat_of_zero_le (show 0≤o by omega);have hb:=wL k (by omega) (by omega);rw[<-hk]at hb;obtain⟨⟨m,p⟩,hp⟩:=Option.isSome_iff_exists.1 hb;exact .bin o m p x y hp (hargs x (by simp)) (hargs y (by simp))
def opS(k:Nat)(x:Ex):Bs:=if mG x.op<k then 40::(bh x++[41])else bh x
theorem la(k:Nat)(x:Ex):txt (iN k (x.op,pcE x))=opS k x:=by
 unfold iN opS;simp only;split
 .rw[cD,b8,cD];rfl
 .rfl
theorem ey(t:Tok)(X:Pc):txt (some t::X)=t.text.data.toList++txt X:=rfl
theorem dv(X:Pc):txt (none::X)=32::txt X:=rfl
theorem wb:txt []=[]:=rfl
theorem sT(n:Int):bh (.mk 1 n ⟨#[]⟩ [])=Lib.decDigits n.toNat:=by
 show txt [some (td n)]=_;rw[ey,wb,Ub];rfl
theorem uV(s:ByteArray)(x:Ex):bh (.mk 3 0 s [x])=s.data.toList++91::(bh x++[93]):=by
 show txt (some (tn s)::some (tm (aa 91))::(pcE x++[some (tm (aa 93))]))=_;rw[ey,cD,b8,cD];rfl
theorem xS(s:ByteArray):bh (.mk 24 0 s [])=[115,117,109,40]++(s.data.toList++[41]):=by
 show txt [some (tn mD),some (tm (aa 40)),some (tn s),some (tm (aa 41))]=_;rw[ey,cD,ey,cD];rfl
theorem uC(x:Ex):bh (.mk 25 0 ⟨#[]⟩ [x])=[111,110,101,115,40]++(bh x++[41]):=by
 show txt (some (tn gV)::some (tm (aa 40))::(pcE x++[some (tm (aa 41))]))=_;rw[ey,cD,b8,cD];rfl
theorem BD(x y z:Ex):bh (.mk 22 0 ⟨#[]⟩ [x,y,z])=opS 2 x++([32,63,32]++(opS 1 y++([32,58,32]++opS 1 z))):=by
 show txt (iN 2 (x.op,pcE x)++none::some (tm (aa 63))::none::(iN 1 (y.op,pcE y)++none::some (tm (aa 58))::none::iN 1 (z.op,pcE z)))=_;rw[b8,dv,cD,dv,b8,dv,cD,dv,la,la,la];rfl
theorem wW{o:Int}{m:ByteArray}{k:Nat}(h:iw o=some (m,k))(x y:Ex):bh (.mk o 0 ⟨#[]⟩ [x,y])=opS (if k=2 then 3 else k) x++(32::(m.data.toList++(32::opS (if k=2 then 2 else k+1) y))):=by
 show txt (lV o 0 ⟨#[]⟩ [(x.op,pcE x),(y.op,pcE y)])=_;unfold lV;rw[h];simp only;rw[b8,dv,ey,dv];show txt (iN _ (x.op,pcE x))++(32::(m.data.toList++(32::txt (iN _ (y.op,pcE y)))))=_;rw[la,la]
theorem J9:∀o,o∈[(4:Int),5,6]->iw o=none:=by decide +kernel
def iY(o:Int):Bs:=if o=4 then[33]else if o=5 then[126]else if o=6 then[45]else[]
theorem xB{o:Int}(h:o=4\/o=5\/o=6)(x:Ex):bh (.mk o 0 ⟨#[]⟩ [x])=iY o++opS 13 x:=by
 rcases h with rfl|rfl|rfl
 .show txt (some (tm (aa 33))::iN 13 (x.op,pcE x))=_;rw[cD,la];rfl
 .show txt (some (tm (aa 126))::iN 13 (x.op,pcE x))=_;rw[cD,la];rfl
 .show txt (some (tm (aa 45))::iN 13 (x.op,pcE x))=_;rw[cD,la];rfl
def gB:List Ex->Bs
 | []=>[]
 | [_]=>[]
 | [a,b]=>bh a++([32,46,46,32]++bh b)
 | a::b::c::r=>(bh a++([32,46,46,32]++bh b))++([44,32]++gB (c::r))
theorem uP:∀l:List Ex,txt (ii (vo l))=gB l
 | []=>rfl
 | [_]=>rfl
 | [a,b]=>by
  show txt (pcE a++none::some (tm (aE 46 46))::none::pcE b)=_;rw[b8,dv,ey,dv];rfl
 | a::b::c::r=>by
  have:=uP (c::r);show txt (pcE a++none::some (tm (aE 46 46))::none::(pcE b++some (tm (aa 44))::none::ii (vo (c::r))))=_;rw[b8,dv,ey,dv,b8,cD,dv,this];simp only[gB,bh,T5];rfl
theorem qX(x:Ex)(l:List Ex):bh (.mk 23 0 ⟨#[]⟩ (x::l))=opS 9 x++([32,105,110,115,105,100,101,32,123,32]++(gB l++[32,125])):=by
 show txt (iN 9 (x.op,pcE x)++none::some (tw b9)::none::some (tm (aa 123))::none::(ii (vo l)++[none,some (tm (aa 125))]))=_;rw[b8,dv,ey,dv,cD,dv,b8,uP,dv,cD,la];rfl
theorem yp(s:ByteArray):bh (.mk 2 0 s [])=if fc s=true then(ff s 91).data.toList++64::Lib.decDigits (ci s).toNat else s.data.toList:=by
 show txt ((lN s).map some)=_;unfold lN;split
 .show txt [some (tn (ff s 91)),some (tm (aa 64)),some (td (ci s))]=_;rw[ey,cD,ey,wb,Ub];rfl
 .show txt [some (tn s)]=_;rw[ey,wb,Ub];rfl
theorem li(k:Nat)(x:Ex):(opS k x).length≤(bh x).length+2:=by
 unfold opS;split
 .simp only[T0,TZ,T3];omega
 .omega
theorem dg{s:ByteArray}(h:aS s=true):s.data.toList.length≤16:=by
 simp only[aS,TU,decide_eq_true_eq]at h;have:=h.1.2;rw[Lib.size_eq]at this;exact this
theorem jl(u:Nat)(h:u≤65535):(Lib.decDigits u).length≤5:=by
 have H:∀(k u:Nat),u<10^(k+1)->(Lib.decDigits u).length≤k+1:=by
  intro k
  induction k with
  | zero=>intro u h;rw[Lib.decDigits,dif_pos (by simpa using h)];simp
  | succ k ih=>
   intro u h;rw[Lib.decDigits];split
   .simp
   .have:=ih (u/10) (by rw[Uq]at h;omega);rw[TZ,List.length_singleton];omega
 exact H 4 u (by omega)
theorem GH:∀b,b∈ce->b.1.data.toList.length≤2:=by decide +kernel
theorem yk:∀l:List Ex,(∀a,a∈l->(bh a).length+20≤64*aX a)->(gB l).length+10*l.length≤64*bo l
 | [],_=>by simp[gB,bo]
 | [a],h=>by have:=h a (by simp);simp only[gB,bo,T3,T0];omega
 | [a,b],h=>by
  have h1:=h a (by simp);have h2:=h b (by simp);simp only[gB,bo,T3,T0,TZ];omega
 | a::b::c::r,h=>by
  have h1:=h a (by simp);have h2:=h b (by simp);have h3:=yk (c::r) fun x hx=>h x (by simp only[Ui]at hx ⊢;exact .inr (.inr hx));simp only[gB,bo,T3,T0,TZ]at h3 ⊢;omega
theorem oU(e:Ex):dj e=0->(bh e).length+20≤64*aX e:=by
 induction e using Ex.ind with
 | h o n s l ih=>
 intro he;have hs:=Fv he;generalize hE:Ex.mk o n s l=E at hs;cases hs with
 | const n h0 h1=>
  have:=jl n.toNat (by omega);rw[sT];simp only[aX,bo];omega
 | var s h=>
  cases hE;rw[yp];unfold bv at h;rw[TV]at h;simp only[aX,bo];split
  .rename_i hel;obtain⟨g1,g2,g3,g4⟩:=dX hel;have h1:=dg g1;have h2:=jl (ci s).toNat (by omega);simp only[TZ,T0];omega
  .rename_i hel;have h1:=dg (h.resolve_left hel);omega
 | elem s x h hx=>
  cases hE;have h1:=ih x (by simp) hx;have h2:=dg h;rw[uV];simp only[aX,bo,TZ,T0,T3];omega
 | pre o x h hx=>
  cases hE;have h1:=ih x (by simp) hx;have h2:=li 13 x;have h3:(iY o).length≤1:=by rcases h with rfl|rfl|rfl<;>decide
  rw[xB h];simp only[aX,bo,TZ];omega
 | bin o m k x y h hx hy=>
  cases hE;have h1:=ih x (by simp) hx;have h2:=ih y (by simp) hy;have h3:=GH _ (ku h);have h4:=li (if k=2 then 3 else k) x;have h5:=li (if k=2 then 2 else k+1) y;rw[wW h];simp only[aX,bo,TZ,T0]at h3 ⊢;omega
 | ite x y z hx hy hz=>
  cases hE;have h1:=ih x (by simp) hx;have h2:=ih y (by simp) hy;have h3:=ih z (by simp) hz;have h4:=li 2 x;have h5:=li 1 y;have h6:=li 1 z;rw[BD];simp only[aX,bo,TZ,T0,T3];omega
 | inside x l hx hl hev hne h32=>
  cases hE;have h1:=ih x (by simp) hx;have h2:=yk l fun a ha=>ih a (by simp[ha]) (hl a ha);have h4:=li 9 x;rw[qX];simp only[aX,bo,TZ,T0,T3];omega
 | sum s h=>
  cases hE;have h2:=dg h;rw[xS];simp only[aX,bo,TZ,T0,T3];omega
 | ones x hx=>
  cases hE;have h1:=ih x (by simp) hx;rw[uC];simp only[aX,bo,TZ,T0,T3];omega
theorem Nxt.to{n0:Nat}{R:ah->LLV->Prop}{ρ:ah}{S:LLV}(τ l:LLV)(h:S=τ++l)(hn:n0≤τ.length)(hb:aj τ.length τ=true)(hs:aq τ.length ρ=true)(hR:R ρ τ):Nxt n0 R ρ S .mk:=by
 subst h;exact Nxt.drop hn hb hs hR
theorem bK(a b:Bs)(h:a.length+b.length≤9223372036854775807):bE .add (V.d (ab (bs a))) (V.d (ab (bs b)))=some (V.d (ab (bs (a++b)))):=by
 rw[Fg,bF,bF,if_pos h,nl]
theorem yF{n:Int}(h:0≤n):Lib.itoa n=Lib.decDigits n.toNat:=by
 unfold Lib.itoa;rw[if_neg (by omega)]
theorem Ic(k:Nat):∀u:Nat,u<10^(k+1)->(Lib.decDigits u).length≤k+1:=by
 induction k with
 | zero=>intro u h;rw[Lib.decDigits,dif_pos (by simpa using h)];simp
 | succ k ih=>
  intro u h;rw[Lib.decDigits];split
  .simp
  .have:=ih (u/10) (by rw[Uq]at h;omega);simp only[TZ,T0,T3];omega
theorem AX{u:Nat}(h:u≤9223372036854775808):(Lib.decDigits u).length≤19:=Ic 18 u (by omega)
theorem gF{n:Int}(h0 : -9223372036854775808≤n)(h1:n≤9223372036854775807):(Lib.itoa n).length≤20:=by
 unfold Lib.itoa;split
 .have:=AX (u:=n.natAbs) (by omega);simp only[T0];omega
 .have:=AX (u:=n.toNat) (by omega);omega
theorem du(n:Int)(h0 : -9223372036854775808≤n)(h1:n≤9223372036854775807)(σ:LLV):Fun G 111 [.d (ac n)] σ (aP (.d (ab (bs (Lib.itoa n)))) σ):=by
 have h5:=gF h0 h1;refine ai Tryz.func111 Sn rfl fun hb hw=>?_;unfold PY;simp -dsimp only[aw,jV,jW,jX,jY,jZ,jA,reduceIte,reduceCtorEq,jB,jC,jD,jE,jF,jG];refine ae (sr n h0 h1 (by unfold maxLen;omega) _) ?_;simp -dsimp only[aw,jV,jW,jX,jY,jZ,jA,reduceIte,reduceCtorEq,jB,jC,jD,jE,jF,jG];first|exact av hb rfl rfl|exact au hb rfl rfl
theorem il(n:Int)(h0:0≤n)(h1:n≤65535)(σ:LLV):Fun G 111 [.d (ac n)] σ (aP (.d (ab (bs (Lib.decDigits n.toNat)))) σ):=by
 rw[<-yF h0];exact du n (by omega) (by omega) σ
def jj(l:List (ByteArray×Int×Nat)):LLD:=l.map fun b=>[ab b.1,ac b.2.1,ac b.2.2]
theorem nD(σ:LLV):Fun G 301 [] σ (aP (.d (.sl (jj ce))) σ):=by
 refine ai Tryz.func301 Sx rfl fun hb hw=>?_;unfold Px;simp -dsimp only[aw,jV,jW,jX,jY,jZ,jA,reduceIte,reduceCtorEq,jB,jC,jD,jE,jF,jG];exact aO hb rfl rfl List.take_length ⟨rfl,rfl⟩
def qN(l:List (ByteArray×Int×Nat))(o:Int):V:=match l.find? fun b=>decide (b.2.1=o)with
 | some b=>.tup [.agg [.d (ab b.1),.d (ac b.2.1),.d (ac b.2.2)],ak true]
 | none=>.tup [.agg [.d (ab ⟨#[]⟩),.d (ac 0),.d (ac 0)],ak false]
theorem yJ(o:Int)(σ:LLV):Fun G 271 [.d (ac o)] σ (aP (qN ce o) σ):=by
 refine ai Tryz.func271 Sv rfl fun hb hw=>?_;unfold OV;have h15:ce.length≤100:=by decide
 simp -dsimp only[aw,jV,jW,jX,jY,jZ,jA,reduceIte,reduceCtorEq,jB,jC,jD,jE,jF,jG];refine ae (nD _) ?_;generalize ce=l at *;simp -dsimp only[aw,jV,jW,jX,jY,jZ,jA,reduceIte,reduceCtorEq,jB,jC,jD,jE,jF,jG,jj];refine aN [0,2,6,7,8] (R:=fun(j:Nat) ρ σ'=>ρ=[(0,.d (ac o)),(2,.ptr σ.length 0),(6,.d (.sl (jj l))),(7,aB .i64 l.length),(8,aB .i64 j)]/\σ'=σ++[[.d (ab ⟨#[]⟩),.d (ac 0),.d (ac 0)]]/\qN l o=qN (l.drop j) o) l.length ⟨rfl,rfl,rfl⟩ ?_ _;rintro j ρ' σ' hj ⟨rfl,rfl,hr⟩;by_cases hlt:j<l.length
 .have hd:qN (l.drop j) o=if l[j].2.1=o then .tup [.agg [.d (ab l[j].1),.d (ac l[j].2.1),.d (ac l[j].2.2)],ak true]else qN (l.drop (j+1)) o:=by
   rw[Ua hlt];unfold qN;rw[List.find?_cons];by_cases h:l[j].2.1=o
   .simp[h]
   .simp[h]
  by_cases he:l[j].2.1=o
  .rw[hd,if_pos he]at hr;rw[hr];simp -dsimp only[aw,jV,jW,jX,jY,jZ,jA,reduceIte,reduceCtorEq,jB,jC,jD,jE,jF,jG,jj,TY,hlt,decide_true,T4 hlt,decide_eq_true he];exact aO (v:=.tup [.agg [.d (ab l[j].1),.d (ac l[j].2.1),.d (ac l[j].2.2)],ak true]) hb (by simp[Gt,be,dp,bL,aw,jV,jW,jX,jY,jZ,jA,reduceIte,reduceCtorEq,jB,jC,jD,jE,jF,jG]) rfl T9 ⟨rfl,rfl⟩
  .rw[hd,if_neg he]at hr;simp -dsimp only[aw,jV,jW,jX,jY,jZ,jA,reduceIte,reduceCtorEq,jB,jC,jD,jE,jF,jG,jj,TY,hlt,decide_true,T4 hlt,decide_eq_false he,aH hlt (show l.length≤9223372036854775807 by omega)];exact Nxt.to (σ++[[.d (ab ⟨#[]⟩),.d (ac 0),.d (ac 0)]]) [[.d (ab l[j].1),.d (ac l[j].2.1),.d (ac l[j].2.2)]] (by simp) (by simp) (ax hb rfl) (by simp[aq,V.under]) ⟨rfl,rfl,hr⟩
 .rw[List.drop_eq_nil_of_le (by omega)]at hr;rw[hr];simp -dsimp only[aw,jV,jW,jX,jY,jZ,jA,reduceIte,reduceCtorEq,jB,jC,jD,jE,jF,jG,TY,hlt,decide_false];exact aO (v:=.tup [.agg [.d (ab ⟨#[]⟩),.d (ac 0),.d (ac 0)],ak false]) hb (by simp[Gt,be,dp,bL,aw,jV,jW,jX,jY,jZ,jA,reduceIte,reduceCtorEq,jB,jC,jD,jE,jF,jG]) rfl T9 ⟨rfl,rfl⟩
theorem cX(o:Int)(σ:LLV):Fun G 273 [.d (ac o)] σ (aP (.d (ab (bs (iY o)))) σ):=by
 refine ai Tryz.func273 Su rfl fun hb hw=>?_;unfold Q1 iY;by_cases h4:o=4
 .rw[if_pos h4];simp -dsimp only[aw,jV,jW,jX,jY,jZ,jA,reduceIte,reduceCtorEq,jB,jC,jD,jE,jF,jG,decide_eq_true h4];first|exact av hb rfl rfl|exact au hb rfl rfl
 by_cases h5:o=5
 .rw[if_neg h4,if_pos h5];simp -dsimp only[aw,jV,jW,jX,jY,jZ,jA,reduceIte,reduceCtorEq,jB,jC,jD,jE,jF,jG,decide_eq_false h4,decide_eq_true h5];first|exact av hb rfl rfl|exact au hb rfl rfl
 by_cases h6:o=6
 .rw[if_neg h4,if_neg h5,if_pos h6];simp -dsimp only[aw,jV,jW,jX,jY,jZ,jA,reduceIte,reduceCtorEq,jB,jC,jD,jE,jF,jG,decide_eq_false h4,decide_eq_false h5,decide_eq_true h6];first|exact av hb rfl rfl|exact au hb rfl rfl
 rw[if_neg h4,if_neg h5,if_neg h6];simp -dsimp only[aw,jV,jW,jX,jY,jZ,jA,reduceIte,reduceCtorEq,jB,jC,jD,jE,jF,jG,decide_eq_false h4,decide_eq_false h5,decide_eq_false h6];first|exact av hb rfl rfl|exact au hb rfl rfl
theorem xV(o:Int):qN ce o=match iw o with
 | some (m,l)=>.tup [.agg [.d (ab m),.d (ac o),.d (ac l)],ak true]
 | none=>.tup [.agg [.d (ab ⟨#[]⟩),.d (ac 0),.d (ac 0)],ak false]:=by
 unfold qN iw;cases h:ce.find? fun b=>decide (b.2.1=o)with
 | none=>rfl
 | some b=>
  have:=List.find?_some h;simp only[decide_eq_true_eq]at this;simp only[Option.map_some,this]
theorem wI(o:Int):iY o=[]↔¬(o=4\/o=5\/o=6):=by
 unfold iY;repeat' split
 all_goals simp_all
theorem EG(e:Ex)(σ:LLV):Fun G 302 [vex e] σ (aP (.d (ac (mG e.op))) σ):=by
 refine ai Tryz.func302 Tl (by simp only[an];rfl) fun hb hw=>?_;unfold Ou;simp -dsimp only[aw,jV,jW,jX,jY,jZ,jA,reduceIte,reduceCtorEq,jB,jC,jD,jE,jF,jG,an];refine ae (yJ e.op _) ?_;rw[xV];unfold mG;cases h:iw e.op with
 | some p=>
  obtain⟨m,l⟩:=p;simp -dsimp only[aw,jV,jW,jX,jY,jZ,jA,reduceIte,reduceCtorEq,jB,jC,jD,jE,jF,jG];first|exact av hb rfl rfl|exact au hb rfl rfl
 | none=>
  simp only;by_cases h22:e.op=22
  .rw[if_pos h22];simp -dsimp only[aw,jV,jW,jX,jY,jZ,jA,reduceIte,reduceCtorEq,jB,jC,jD,jE,jF,jG,decide_eq_true h22];first|exact av hb rfl rfl|exact au hb rfl rfl
  by_cases h23:e.op=23
  .rw[if_neg h22,if_pos h23];simp -dsimp only[aw,jV,jW,jX,jY,jZ,jA,reduceIte,reduceCtorEq,jB,jC,jD,jE,jF,jG,decide_eq_false h22,decide_eq_true h23];first|exact av hb rfl rfl|exact au hb rfl rfl
  simp -dsimp only[aw,jV,jW,jX,jY,jZ,jA,reduceIte,reduceCtorEq,jB,jC,jD,jE,jF,jG,decide_eq_false h22,decide_eq_false h23];refine ae (cX e.op _) ?_;rw[if_neg h22,if_neg h23];by_cases hp:e.op=4\/e.op=5\/e.op=6
  .have:¬iY e.op=[]:=fun hn=>(wI _).1 hn hp;have hd:decide (bs (iY e.op)=(⟨#[]⟩:ByteArray))=false:=by rw[decide_eq_false_iff_not];intro hh;exact this (rJ.1 (hh:_=bs []))
   rw[if_pos hp];simp -dsimp only[aw,jV,jW,jX,jY,jZ,jA,reduceIte,reduceCtorEq,jB,jC,jD,jE,jF,jG,hd];first|exact av hb rfl rfl|exact au hb rfl rfl
  .have:iY e.op=[]:=(wI _).2 hp;rw[if_neg hp,this];simp -dsimp only[aw,jV,jW,jX,jY,jZ,jA,reduceIte,reduceCtorEq,jB,jC,jD,jE,jF,jG,ik];first|exact av hb rfl rfl|exact au hb rfl rfl
theorem qj(sep:Bs)(l:List ByteArray)(hn:l.length≤140737488355328)(hlen:(Lib.join (l.map (·.data.toList)) sep).length≤140737488355328)(σ:LLV):
 Fun G 244 [.d (dy l),.d (ab (bs sep))] σ (aP (.d (ab (bs (Lib.join (l.map (·.data.toList)) sep)))) σ):=
 rz Tryz.func244 (by kernel_rfl) (by kernel_rfl) (by show(bs _).size≤maxLen;rw[bF];unfold maxLen;omega) fun M bm pr w v v' hG hM h1 h2=>by
  cases eK h2;obtain⟨p,cap,rfl,g1,g2,g3⟩:=lu hM h1;by_cases h0:l=[]
  .subst h0;exact kw (Tryz.strings_Join_none p cap (bs sep) w)
  .have hp:0<l.length:=List.length_pos_iff.2 h0;obtain⟨b,off,rfl,g4⟩:=g3 0 (l[0]'hp) (T4 hp)
   have h:=Tryz.strings_Join b off cap l (bs sep) w (fun j x hj=>by
    obtain⟨b',off',e,g5⟩:=g3 j x hj;cases e;exact g5) (Lib.lt_of_cell g4) hn g1 (by rw[bJ];exact hlen)
   rw[bJ]at h;exact h
theorem At(d:Bs)(hl:d.length≤1200000)(σ:LLV):Fun G 303 [.d (ab (bs (d++[93]))),.d (ab ⟨#[93]⟩)] σ (aP (ak true) σ):=by
 refine ai Tryz.func303 Ry rfl fun hb hw=>?_;unfold Ra;have hn:(d++[93]).length=d.length+1:=by simp
 have h1:((⟨#[93]⟩:ByteArray).size:Int)=1:=rfl;have hle:(1:Int)≤(((d++[93]).length:Nat):Int):=by rw[hn];omega
 have hw1:IntKind.i64.wrap ((((d++[93]).length:Nat):Int)-1)=((d.length:Nat):Int):=by rw[hn,ba (by omega) (by omega)];omega
 have hs:=y5 (d++[93]) d.length (by rw[hn];omega);rw[Uh]at hs;have he:decide (bs [93]=(⟨#[93]⟩:ByteArray))=true:=by rw[decide_eq_true_eq];rfl
 generalize d++[93]=dt at *;simp -dsimp only[aw,jV,jW,jX,jY,jZ,jA,reduceIte,reduceCtorEq,jB,jC,jD,jE,jF,jG,bF,h1,decide_eq_true hle,hw1,hs,he];first|exact av hb rfl rfl|exact au hb rfl rfl
theorem Dv(d:Bs)(hl:d.length≤1200000)(σ:LLV):Fun G 276 [.d (ab (bs (d++[93]))),.d (ab ⟨#[93]⟩)] σ (aP (.d (ab (bs d))) σ):=by
 refine ai Tryz.func276 SO rfl fun hb hw=>?_;unfold Rg;have hn:(d++[93]).length=d.length+1:=by simp
 have h1:((⟨#[93]⟩:ByteArray).size:Int)=1:=rfl;have hw1:IntKind.i64.wrap ((((d++[93]).length:Nat):Int)-1)=((d.length:Nat):Int):=by rw[hn,ba (by omega) (by omega)];omega
 have hs:=zy (d++[93]) d.length (by rw[hn];omega);rw[T9]at hs;have hf:=At d hl;generalize d++[93]=dt at *;simp -dsimp only[aw,jV,jW,jX,jY,jZ,jA,reduceIte,reduceCtorEq,jB,jC,jD,jE,jF,jG];refine ae (hf _) ?_;simp -dsimp only[aw,jV,jW,jX,jY,jZ,jA,reduceIte,reduceCtorEq,jB,jC,jD,jE,jF,jG,bF,h1,hw1,hs];first|exact av hb rfl rfl|exact au hb rfl rfl
theorem yb(d:Bs)(hl:d.length≤1200000)(σ:LLV):Fun G 242 [.d (ab (bs (d++[93]))),.d (ab ⟨#[93]⟩)] σ (aP (.d (ab (bs d))) σ):=by
 refine ai Tryz.func242 R7 rfl fun hb hw=>?_;unfold N8;simp -dsimp only[aw,jV,jW,jX,jY,jZ,jA,reduceIte,reduceCtorEq,jB,jC,jD,jE,jF,jG];refine ae (Dv d hl _) ?_;simp -dsimp only[aw,jV,jW,jX,jY,jZ,jA,reduceIte,reduceCtorEq,jB,jC,jD,jE,jF,jG];first|exact av hb rfl rfl|exact au hb rfl rfl
theorem sd:∀(x q:Bs),(∀c,c∈x->c≠91)->Lib.indexByte (x++91::q) 91=(x.length:Nat)
 | [],q,_=>rfl
 | a::x,q,h=>by
  have ih:=sd x q fun c hc=>h c (by simp[hc]);have ha:(a==(91:UInt8))=false:=beq_eq_false_iff_ne.2 (h a (by simp));simp only[Ue,Lib.indexByte,ha,ih,TW,if_false];rw[if_neg (by simp;try omega)];simp
theorem oA:∀(x:Bs),(∀c,c∈x->c≠91)->Lib.indexByte x 91 = -1
 | [],_=>rfl
 | a::x,h=>by
  have ih:=oA x fun c hc=>h c (by simp[hc]);have ha:(a==(91:UInt8))=false:=beq_eq_false_iff_ne.2 (h a (by simp));simp only[Lib.indexByte,ha,ih,TW,if_false];rfl
theorem nH(l:Bs)(hl:l.length≤1200000)(σ:LLV):Fun G 248 [.d (ab (bs l)),.d (.lit (.int .u8 91))] σ (aP (.d (ac (Lib.indexByte l 91))) σ):=
 lX Tryz.func248 (by kernel_rfl) (by kernel_rfl) (by
  have h1:=Lib.indexByte_ge l 91
  have h2:Lib.indexByte l 91≤l.length:=by
   clear h1 hl
   induction l with
   | nil=>simp[Lib.indexByte]
   | cons a r ih=>simp only[Lib.indexByte,T0];repeat' split
                  all_goals omega
  simp only[cV,IntKind.min,IntKind.max,IntKind.signed,IntKind.bits];simp;omega) fun pr w _=>by
  have:=kw (Tryz.strings_IndexByte (bs l) 91 w);rw[bJ]at this;exact this
theorem nu{l:Bs}(h:lP l=true):∀c,c∈l->c≠91:=by
 intro c hc;cases l with
 | nil=>cases hc
 | cons a r=>
  simp only[lP,TU]at h;have:=List.all_eq_true.1 h.2 c hc;rintro rfl;revert this;decide
theorem nt{s:ByteArray}(h:aS s=true):lP s.data.toList=true:=by
 simp only[aS,TU]at h;exact h.1.1
theorem CE(s:ByteArray)(h:bv s=true)(σ:LLV):Fun G 274 [.d (ab s)] σ (aP (.d (ab (bs (bh (.mk 2 0 s []))))) σ):=by
 rw[yp];unfold bv at h;rw[TV]at h;refine ai Tryz.func274 TO rfl fun hb hw=>?_;unfold Rj;by_cases hel:fc s=true
 .rw[if_pos hel];obtain⟨g1,g2,g3,g4⟩:=dX hel;have hw1:=nt g1;have hl:=dg g1;have h91:=nu hw1;have h5:=jl (ci s).toNat (by omega)
  have hsb:s.data.toList=(ff s 91).data.toList++91::(Lib.decDigits (ci s).toNat++[93]):=by
   have:=congrArg (fun s:ByteArray=>s.data.toList) g4;simp only[iP,rH]at this;rw[<-this];simp[aa]
  generalize (ff s 91).data.toList=x at *;generalize Lib.decDigits (ci s).toNat=d at *;have hss:s=bs (x++91::(d++[93])):=by rw[<-hsb,ec]
  rw[hss];have hix:=sd x (d++[93]) h91;have hlen:(x++91::(d++[93])).length=x.length+(d.length+2):=by simp
  have s1:=zy (x++91::(d++[93])) x.length (by rw[hlen];omega);rw[T9]at s1;have s2:=y5 (x++91::(d++[93])) (x.length+1) (by rw[hlen];omega)
  have hdr:(x++91::(d++[93])).drop (x.length+1)=d++[93]:=by
   rw[<-List.drop_drop,Uh];rfl
  rw[hdr]at s2;have a1:bE .add (V.d (ab (bs x))) (V.d (ab ⟨#[64]⟩))=some (V.d (ab (bs (x++[64])))):=bK x [64] (by simp;omega)
  have a2:bE .add (V.d (ab (bs (x++[64])))) (V.d (ab (bs d)))=some (V.d (ab (bs (x++64::d)))):=by
   have:=bK (x++[64]) d (by simp;omega);rw[this,T5];rfl
  have hw2:IntKind.i64.wrap (((x.length:Nat):Int)+1)=((x.length+1:Nat):Int):=by rw[ba (by omega) (by omega)];omega
  have hif:=nH (x++91::(d++[93])) (by rw[hlen];omega);rw[hix]at hif;generalize x++91::(d++[93])=T at *;simp -dsimp only[aw,jV,jW,jX,jY,jZ,jA,reduceIte,reduceCtorEq,jB,jC,jD,jE,jF,jG];refine ae (hif _) ?_;simp -dsimp only[aw,jV,jW,jX,jY,jZ,jA,reduceIte,reduceCtorEq,jB,jC,jD,jE,jF,jG,decide_eq_true (show(0:Int)≤((x.length:Nat):Int)by omega),s1,a1,hw2,s2];refine aA (yb d (by omega) _) ?_;simp -dsimp only[aw,jV,jW,jX,jY,jZ,jA,reduceIte,reduceCtorEq,jB,jC,jD,jE,jF,jG,a2];first|exact av hb rfl rfl|exact au hb rfl rfl
 .rw[if_neg hel];have hn:=h.resolve_left hel;have hix:=oA s.data.toList (nu (nt hn));have hif:=nH s.data.toList (by have:=dg hn;omega);rw[hix,ec]at hif;simp -dsimp only[aw,jV,jW,jX,jY,jZ,jA,reduceIte,reduceCtorEq,jB,jC,jD,jE,jF,jG];refine ae (hif _) ?_;simp -dsimp only[aw,jV,jW,jX,jY,jZ,jA,reduceIte,reduceCtorEq,jB,jC,jD,jE,jF,jG,Int.reduceLE,decide_false];rw[ec];first|exact av hb rfl rfl|exact au hb rfl rfl
mutual
def pw:Ex->Ex->Bool
 | .mk o n s l,.mk o' n' s' l'=>(decide (o=o')&&(decide (n=n')&&(decide (s=s')&&lQ l l')))
def lQ:List Ex->List Ex->Bool
 | [],[]=>true
 | a::r,b::r'=>pw a b&&lQ r r'
 | _,_=>false
end
theorem ux:∀{l l':List Ex},l.length≠l'.length->lQ l l'=false
 | [],[],h=>absurd rfl h
 | a::r,b::r',h=>by simp only[lQ,ux (l:=r) (l':=r') (by simpa using h),Bool.and_false]
 | [],_::_,_=>rfl
 | _::_,[],_=>rfl
theorem xU(a b:Ex):pw a b=(decide (a.op=b.op)&&(decide (a.num=b.num)&&(decide (a.name=b.name)&&lQ a.args b.args))):=by
 cases a;cases b;rfl
theorem Ex.ind2{P:Ex->Prop}(h:∀e:Ex,(∀a,a∈e.args->P a)->P e):∀e,P e:=Ex.ind fun o n s l ih=>h (.mk o n s l) ih
theorem se{l l':List Ex}{j:Nat}(h:j<l.length)(h':j<l'.length):lQ (l.drop j) (l'.drop j)=(pw l[j] l'[j]&&lQ (l.drop (j+1)) (l'.drop (j+1))):=by
 rw[Ua h,Ua h'];rfl
theorem Cz(a:Ex):∀(b:Ex) (σ:LLV),Fun G 79 [vex a,vex b] σ (aP (ak (pw a b)) σ):=by
 induction a using Ex.ind2 with
 | h a ih=>
 intro b σ;refine ai Tryz.func79 k79 (by simp only[an];rfl) fun hb hw=>?_;have hq:=xU a b;have h0:=hw 0 (by simp);simp only[T6,an]at h0;have hm:=Ly (BA h0 3 (by simp));simp only[T7,T6,Ug]at hm
 have out:∀(σ' l:LLV) (b1:Bool),pw a b=b1->σ'=σ++l->fin σ.length QP (aP (ak (pw a b)) σ) .ret [(4,.d (.lit (.bool b1)))] σ':=fun σ' l b1 h e=>by
  subst e;exact aO hb rfl rfl T9 ⟨by rw[h];rfl,rfl⟩
 unfold c79;simp -dsimp only[aw,jV,jW,jX,jY,jZ,jA,reduceIte,reduceCtorEq,jB,jC,jD,jE,jF,jG,an];refine cL (fun h1=>?_) (fun h1=>?_)
 .simp -dsimp only[aw,jV,jW,jX,jY,jZ,jA,reduceIte,reduceCtorEq,jB,jC,jD,jE,jF,jG];refine cL (fun h2=>?_) (fun h2=>?_)
  .simp -dsimp only[aw,jV,jW,jX,jY,jZ,jA,reduceIte,reduceCtorEq,jB,jC,jD,jE,jF,jG];refine cL (fun h3=>?_) (fun h3=>?_)
   .simp -dsimp only[aw,jV,jW,jX,jY,jZ,jA,reduceIte,reduceCtorEq,jB,jC,jD,jE,jF,jG,Int.ofNat_inj];refine cL (fun h4=>?_) (fun h4=>?_)
    .simp -dsimp only[aw,jV,jW,jX,jY,jZ,jA,reduceIte,reduceCtorEq,jB,jC,jD,jE,jF,jG];exact out _ _ _ (by rw[hq,ux (by simpa using h4)];simp) rfl
    .simp -dsimp only[aw,jV,jW,jX,jY,jZ,jA,reduceIte,reduceCtorEq,jB,jC,jD,jE,jF,jG];have h4:a.args.length=b.args.length:=by simpa using h4
     generalize hbx:[[V.d (ac a.op),V.d (ac a.num),V.d (ab a.name),V.d (D.sl (Uk dex a.args))],[V.d (ac b.op),V.d (ac b.num),V.d (ab b.name),V.d (D.sl (Uk dex b.args))]]=bx at out ⊢;refine rA (R:=fun(j:Nat) ρ σ'=>ρ=[(2,.ptr σ.length 0),(3,.ptr (σ.length+1) 0),(5,aB .i64 j)]/\σ'=σ++bx/\lQ a.args b.args=lQ (a.args.drop j) (b.args.drop j)) a.args.length ⟨rfl,rfl,by simp⟩ ?_ _;rintro j ρ' σ' hj ⟨rfl,rfl,hrec⟩;subst hbx;by_cases hlt:j<a.args.length
     .have hlt':j<b.args.length:=by omega
      simp -dsimp only[aw,jV,jW,jX,jY,jZ,jA,reduceIte,reduceCtorEq,jB,jC,jD,jE,jF,jG,TY,hlt,decide_true,T4 hlt,T4 hlt',bC];refine aA (by simpa only[an]using ih _ (Ud hlt) _ _) ?_;simp -dsimp only[aw,jV,jW,jX,jY,jZ,jA,reduceIte,reduceCtorEq,jB,jC,jD,jE,jF,jG,aH hlt hm];refine cL (fun hs=>?_) (fun hs=>?_)
      .simp -dsimp only[aw,jV,jW,jX,jY,jZ,jA,reduceIte,reduceCtorEq,jB,jC,jD,jE,jF,jG];exact out _ _ _ (by rw[hq,hrec,se hlt hlt'];simp_all) rfl
      .simp -dsimp only[aw,jV,jW,jX,jY,jZ,jA,reduceIte,reduceCtorEq,jB,jC,jD,jE,jF,jG,aH hlt hm];refine⟨hlt,Nxt.same (by simp) (ax hb rfl) ?_ ?_⟩
       .simp[aq,V.under]
       .exact⟨rfl,rfl,by rw[hrec,se hlt hlt'];simp_all⟩
     .simp -dsimp only[aw,jV,jW,jX,jY,jZ,jA,reduceIte,reduceCtorEq,jB,jC,jD,jE,jF,jG,TY,hlt,decide_false];exact out _ _ _ (by rw[hq,hrec,Uc (by omega),Uc (by omega)];simp_all[lQ]) rfl
   .simp -dsimp only[aw,jV,jW,jX,jY,jZ,jA,reduceIte,reduceCtorEq,jB,jC,jD,jE,jF,jG];exact out _ _ _ (by rw[hq];simp_all) rfl
  .simp -dsimp only[aw,jV,jW,jX,jY,jZ,jA,reduceIte,reduceCtorEq,jB,jC,jD,jE,jF,jG];exact out _ _ _ (by rw[hq];simp_all) rfl
 .simp -dsimp only[aw,jV,jW,jX,jY,jZ,jA,reduceIte,reduceCtorEq,jB,jC,jD,jE,jF,jG];exact out _ _ _ (by rw[hq];simp_all) rfl
theorem ia0(a b:Int)(c:ByteArray)(q:D)(r:LLD):iaV 4 (V.d (.sl ([ac a,ac b,ab c,q]::r))) (V.d (D.lit (Value.int IntKind.i64 0)))=some (.row [ac a,ac b,ab c,q] 0):=rfl
theorem ia1(a b:Int)(c:ByteArray)(q:D)(u:List D)(r:LLD):iaV 4 (V.d (.sl (u::[ac a,ac b,ab c,q]::r))) (V.d (D.lit (Value.int IntKind.i64 1)))=some (.row [ac a,ac b,ab c,q] 0):=rfl
theorem ia2(a b:Int)(c:ByteArray)(q:D)(u u':List D)(r:LLD):iaV 4 (V.d (.sl (u::u'::[ac a,ac b,ab c,q]::r))) (V.d (D.lit (Value.int IntKind.i64 2)))=some (.row [ac a,ac b,ab c,q] 0):=rfl
theorem bX(o n:Int)(s:ByteArray)(l:List Ex):(Ex.mk o n s l).op=o:=rfl
theorem bp(o n:Int)(s:ByteArray)(l:List Ex):(Ex.mk o n s l).num=n:=rfl
theorem aK(o n:Int)(s:ByteArray)(l:List Ex):(Ex.mk o n s l).name=s:=rfl
theorem aL(o n:Int)(s:ByteArray)(l:List Ex):(Ex.mk o n s l).args=l:=rfl
theorem QF:iw 22=none:=by decide +kernel
theorem QT:iw 23=none:=by decide +kernel
theorem nW{x:Ex}(k:Nat)(hl:(bh x).length≤1200000)(h:∀σ,Fun G 240 [vex x] σ (aP (.d (ab (bs (bh x)))) σ))(σ:LLV):Fun G 272 [vex x,.d (ac k)] σ (aP (.d (ab (bs (opS k x)))) σ):=by
 refine ai Tryz.func272 RG (by simp only[an];rfl) fun hb hw=>?_;unfold NN;have hL:=EG x;have a1:bE .add (V.d (ab ⟨#[40]⟩)) (V.d (ab (bs (bh x))))=some (V.d (ab (bs (40::bh x)))):=bK [40] (bh x) (by simp;omega);have a2:bE .add (V.d (ab (bs (40::bh x)))) (V.d (ab ⟨#[41]⟩))=some (V.d (ab (bs (40::(bh x++[41]))))):=bK (40::bh x) [41] (by simp;omega);unfold opS;generalize bh x=T at *;generalize mG x.op=L at *;by_cases hk:L<k
 .rw[if_pos hk];simp -dsimp only[aw,jV,jW,jX,jY,jZ,jA,reduceIte,reduceCtorEq,jB,jC,jD,jE,jF,jG,an];refine ae (by simpa only[an]using hL _) ?_;simp -dsimp only[aw,jV,jW,jX,jY,jZ,jA,reduceIte,reduceCtorEq,jB,jC,jD,jE,jF,jG,TY,hk,decide_true];refine ae (by simpa only[an]using h _) ?_;simp -dsimp only[aw,jV,jW,jX,jY,jZ,jA,reduceIte,reduceCtorEq,jB,jC,jD,jE,jF,jG,a1,a2];first|exact av hb rfl rfl|exact au hb rfl rfl
 .rw[if_neg hk];simp -dsimp only[aw,jV,jW,jX,jY,jZ,jA,reduceIte,reduceCtorEq,jB,jC,jD,jE,jF,jG,an];refine ae (by simpa only[an]using hL _) ?_;simp -dsimp only[aw,jV,jW,jX,jY,jZ,jA,reduceIte,reduceCtorEq,jB,jC,jD,jE,jF,jG,TY,hk,decide_false];refine ae (by simpa only[an]using h _) ?_;simp -dsimp only[aw,jV,jW,jX,jY,jZ,jA,reduceIte,reduceCtorEq,jB,jC,jD,jE,jF,jG];first|exact av hb rfl rfl|exact au hb rfl rfl
def prL:List Ex->List ByteArray
 | a::b::r=>bs (bh a++([32,46,46,32]++bh b))::prL r
 | _=>[]
theorem xm:∀l:List Ex,l.length%2=0->Lib.join ((prL l).map (·.data.toList)) [44,32]=gB l
 | [],_=>rfl
 | [_],h=>by simp at h
 | [a,b],_=>by simp only[prL,Uj,List.map_nil,Lib.join_one,bJ,gB]
 | a::b::c::r,h=>by
  have ih:=xm (c::r) (by simp only[T0]at h ⊢;omega)
  match r,h,ih with
  | [],h,_=>simp at h
  | d::r,_,ih=>
   simp only[prL,Uj]at ih ⊢;rw[Lib.join_cons]at ih ⊢;simp only[gB,<-ih,bJ];simp[Lib.joinTail]
theorem Br:∀l:List Ex,l.length%2=0->2*(prL l).length=l.length
 | [],_=>rfl
 | [_],h=>by simp at h
 | a::b::r,h=>by
  have:=Br r (by simp only[T0]at h;omega);simp only[prL,T0];omega
theorem Ce:∀(l:List Ex) (j:Nat) (h:2*j+1<l.length) (h':j<(prL l).length),(prL l)[j]=bs (bh (l[2*j]'(by omega))++([32,46,46,32]++bh l[2*j+1]))
 | [],j,h,_=>by simp at h
 | [_],j,h,_=>by simp at h
 | a::b::r,0,_,_=>rfl
 | a::b::r,j+1,h,h'=>by
  have:=Ce r j (by simp only[T0]at h;omega) (by simp only[prL,T0]at h';omega);simp only[prL,T7,this];rfl
theorem BO:∀(l:List Ex) (j:Nat) (h:2*j+1<l.length),(bh (l[2*j]'(by omega))).length+(bh l[2*j+1]).length+4≤(gB l).length
 | [],j,h=>by simp at h
 | [_],j,h=>by simp at h
 | [a,b],0,_=>by simp only[gB,TZ,T0,T3,T6,T7];simp;omega
 | [a,b],j+1,h=>by simp at h;omega
 | a::b::c::r,0,_=>by simp only[gB,TZ,T0,T3,T6,T7];simp;omega
 | a::b::c::r,j+1,h=>by
  have:=BO (c::r) j (by simp only[T0]at h ⊢;omega);have e1:(a::b::c::r)[2*(j+1)]'(by omega)=(c::r)[2*j]'(by simp only[T0]at h ⊢;omega):=rfl;have e2:(a::b::c::r)[2*(j+1)+1]=(c::r)[2*j+1]'(by simp only[T0]at h ⊢;omega):=rfl;rw[e1,e2];simp only[gB,TZ];omega
theorem Gu(e:Ex):dj e=0->(bh e).length≤1200000->∀σ:LLV,Fun G 240 [vex e] σ (aP (.d (ab (bs (bh e)))) σ):=by
 induction e using Ex.ind2 with
 | h e ih=>
 intro he hlen σ;have hs:=Fv he;refine ai Tryz.func240 S9 (by simp only[an];rfl) fun hb hw=>?_;unfold Qa;simp -dsimp only[aw,jV,jW,jX,jY,jZ,jA,reduceIte,reduceCtorEq,jB,jC,jD,jE,jF,jG,an];refine ae (yJ _ _) ?_;rw[xV];cases hs with
 | const n h0 h1=>
  rw[(show iw (Ex.mk 1 n ⟨#[]⟩ []).op=none from(mj 1 (by simp)).2),sT];simp -dsimp only[aw,jV,jW,jX,jY,jZ,jA,reduceIte,reduceCtorEq,jB,jC,jD,jE,jF,jG,bX,bp,aK,aL];refine ae (cX _ _) ?_;rw[show iY 1=[]from rfl];simp -dsimp only[aw,jV,jW,jX,jY,jZ,jA,reduceIte,reduceCtorEq,jB,jC,jD,jE,jF,jG,ik,TX,decide_true,decide_false];refine ae (il n h0 h1 _) ?_;simp -dsimp only[aw,jV,jW,jX,jY,jZ,jA,reduceIte,reduceCtorEq,jB,jC,jD,jE,jF,jG];first|exact av hb rfl rfl|exact au hb rfl rfl
 | var s h=>
  rw[(show iw (Ex.mk 2 0 s []).op=none from(mj 2 (by simp)).2)];simp -dsimp only[aw,jV,jW,jX,jY,jZ,jA,reduceIte,reduceCtorEq,jB,jC,jD,jE,jF,jG,bX,bp,aK,aL];refine ae (cX _ _) ?_;rw[show iY 2=[]from rfl];simp -dsimp only[aw,jV,jW,jX,jY,jZ,jA,reduceIte,reduceCtorEq,jB,jC,jD,jE,jF,jG,ik,TX,decide_true,decide_false];refine ae (CE s h _) ?_;simp -dsimp only[aw,jV,jW,jX,jY,jZ,jA,reduceIte,reduceCtorEq,jB,jC,jD,jE,jF,jG];first|exact av hb rfl rfl|exact au hb rfl rfl
 | elem s x h hx=>
  rw[(show iw (Ex.mk 3 0 s [x]).op=none from(mj 3 (by simp)).2)];rw[uV]at hlen ⊢;have hT:=ih x (by simp[Ex.args]) hx (by simp only[TZ,T0]at hlen;omega);obtain⟨ss,rfl⟩:∃ss,s=bs ss:=⟨_,(ec s).symm⟩
  rw[bJ]at hlen ⊢;simp only[TZ,T0,T3]at hlen;generalize bh x=T at *;have a1:bE .add (V.d (ab (bs ss))) (V.d (ab ⟨#[91]⟩))=some (V.d (ab (bs (ss++[91])))):=bK ss [91] (by simp;omega);have a2:bE .add (V.d (ab (bs (ss++[91])))) (V.d (ab (bs T)))=some (V.d (ab (bs ((ss++[91])++T)))):=bK (ss++[91]) T (by simp;omega);have a3:bE .add (V.d (ab (bs ((ss++[91])++T)))) (V.d (ab ⟨#[93]⟩))=some (V.d (ab (bs (((ss++[91])++T)++[93])))):=bK ((ss++[91])++T) [93] (by simp;omega);have hf:ss++91::(T++[93])=((ss++[91])++T)++[93]:=by simp
  rw[hf];generalize ((ss++[91])++T)++[93]=R3 at *;generalize (ss++[91])++T=R2 at *;generalize ss++[91]=R1 at *;simp -dsimp only[aw,jV,jW,jX,jY,jZ,jA,reduceIte,reduceCtorEq,jB,jC,jD,jE,jF,jG,bX,bp,aK,aL];refine ae (cX _ _) ?_;rw[show iY 3=[]from rfl];simp -dsimp only[aw,jV,jW,jX,jY,jZ,jA,reduceIte,reduceCtorEq,jB,jC,jD,jE,jF,jG,ik,TX,decide_true,decide_false,a1,ia0,bC];refine aA (by simpa only[an]using hT _) ?_;simp -dsimp only[aw,jV,jW,jX,jY,jZ,jA,reduceIte,reduceCtorEq,jB,jC,jD,jE,jF,jG,a2,a3];first|exact av hb rfl rfl|exact au hb rfl rfl
 | pre o x h hx=>
  rw[J9 (Ex.mk o 0 ⟨#[]⟩ [x]).op (by simpa[Ex.op]using h)];rw[xB h]at hlen ⊢;have hp:¬iY o=[]:=fun hn=>(wI _).1 hn h;have hd:decide (bs (iY o)=(⟨#[]⟩:ByteArray))=false:=by rw[decide_eq_false_iff_not];intro hh;exact hp (rJ.1 (hh:_=bs []))
  have hle:(bh x).length≤(opS 13 x).length:=by unfold opS;split<;>simp<;>omega
  rw[TZ]at hlen;have hA:∀σ,Fun G 272 [vex x,.d (ac 13)] σ (aP (.d (ab (bs (opS 13 x)))) σ):=nW (x:=x) 13 (by omega) (ih x (by simp[Ex.args]) hx (by omega));generalize opS 13 x=A at *;have a1:bE .add (V.d (ab (bs (iY o)))) (V.d (ab (bs A)))=some (V.d (ab (bs (iY o++A)))):=bK _ _ (by omega);generalize iY o++A=R1 at *;simp -dsimp only[aw,jV,jW,jX,jY,jZ,jA,reduceIte,reduceCtorEq,jB,jC,jD,jE,jF,jG,bX,bp,aK,aL];refine ae (cX _ _) ?_;simp -dsimp only[aw,jV,jW,jX,jY,jZ,jA,reduceIte,reduceCtorEq,jB,jC,jD,jE,jF,jG,hd,ia0,bC];refine ae (by simpa only[an]using hA _) ?_;simp -dsimp only[aw,jV,jW,jX,jY,jZ,jA,reduceIte,reduceCtorEq,jB,jC,jD,jE,jF,jG,a1];first|exact av hb rfl rfl|exact au hb rfl rfl
 | bin o m k x y h hx hy=>
  have h':iw (Ex.mk o 0 ⟨#[]⟩ [x,y]).op=some (m,k):=h;rw[h'];rw[wW h]at hlen ⊢;have hle:∀k z,(bh z).length≤(opS k z).length:=fun k z=>by unfold opS;split<;>simp<;>omega
  have l1:=hle (if k=2 then 3 else k) x;have l2:=hle (if k=2 then 2 else k+1) y;obtain⟨ms,rfl⟩:∃ms,m=bs ms:=⟨_,(ec m).symm⟩
  rw[bJ]at hlen ⊢;simp only[TZ,T0]at hlen;have hA:=nW (x:=x) (if k=2 then 3 else k) (by omega) (ih x (by simp[Ex.args]) hx (by omega));have hB:=nW (x:=y) (if k=2 then 2 else k+1) (by omega) (ih y (by simp[Ex.args]) hy (by omega));have hk12:=(wF _ (ku h)).2.1;simp only at hk12;generalize opS (if k=2 then 3 else k) x=A at *;generalize opS (if k=2 then 2 else k+1) y=B at *;have a1:bE .add (V.d (ab (bs A))) (V.d (ab ⟨#[32]⟩))=some (V.d (ab (bs (A++[32])))):=bK A [32] (by simp;omega);have a2:bE .add (V.d (ab (bs (A++[32])))) (V.d (ab (bs ms)))=some (V.d (ab (bs ((A++[32])++ms)))):=bK _ _ (by simp;omega);have a3:bE .add (V.d (ab (bs ((A++[32])++ms)))) (V.d (ab ⟨#[32]⟩))=some (V.d (ab (bs (((A++[32])++ms)++[32])))):=bK _ [32] (by simp;omega)
  have a4:bE .add (V.d (ab (bs (((A++[32])++ms)++[32])))) (V.d (ab (bs B)))=some (V.d (ab (bs ((((A++[32])++ms)++[32])++B)))):=bK _ _ (by simp;omega);have hf:A++(32::(ms++(32::B)))=(((A++[32])++ms)++[32])++B:=by simp
  rw[hf];generalize (((A++[32])++ms)++[32])++B=R4 at *;generalize ((A++[32])++ms)++[32]=R3 at *;generalize (A++[32])++ms=R2 at *;generalize A++[32]=R1 at *;have hw1:IntKind.i64.wrap (((k:Nat):Int)+1)=((k+1:Nat):Int):=by rw[ba (by omega) (by omega)];omega
  by_cases hk2:k=2
  .subst hk2;have hA:∀σ,Fun G 272 [vex x,.d (ac 3)] σ (aP (.d (ab (bs A))) σ):=hA;have hB:∀σ,Fun G 272 [vex y,.d (ac 2)] σ (aP (.d (ab (bs B))) σ):=hB;simp -dsimp only[aw,jV,jW,jX,jY,jZ,jA,reduceIte,reduceCtorEq,jB,jC,jD,jE,jF,jG,bX,bp,aK,aL,hw1,ia0,ia1,bC,show(((2:Nat):Int))=2 from rfl,TX,decide_true];refine aA (by simpa only[an]using hA _) ?_;simp -dsimp only[aw,jV,jW,jX,jY,jZ,jA,reduceIte,reduceCtorEq,jB,jC,jD,jE,jF,jG,a1,a2,a3,ia0,ia1,bC];refine aA (by simpa only[an]using hB _) ?_;simp -dsimp only[aw,jV,jW,jX,jY,jZ,jA,reduceIte,reduceCtorEq,jB,jC,jD,jE,jF,jG,a4];first|exact av hb rfl rfl|exact au hb rfl rfl
  .have hk2':¬((k:Nat):Int)=2:=by omega
   rw[if_neg hk2]at hA hB;simp -dsimp only[aw,jV,jW,jX,jY,jZ,jA,reduceIte,reduceCtorEq,jB,jC,jD,jE,jF,jG,bX,bp,aK,aL,hw1,ia0,ia1,bC,decide_eq_false hk2'];refine aA (by simpa only[an]using hA _) ?_;simp -dsimp only[aw,jV,jW,jX,jY,jZ,jA,reduceIte,reduceCtorEq,jB,jC,jD,jE,jF,jG,a1,a2,a3,ia0,ia1,bC];refine aA (by simpa only[an]using hB _) ?_;simp -dsimp only[aw,jV,jW,jX,jY,jZ,jA,reduceIte,reduceCtorEq,jB,jC,jD,jE,jF,jG,a4];first|exact av hb rfl rfl|exact au hb rfl rfl
 | ite x y z hx hy hz=>
  rw[show iw (Ex.mk 22 0 ⟨#[]⟩ [x,y,z]).op=none from QF];rw[BD]at hlen ⊢;have hle:∀k z,(bh z).length≤(opS k z).length:=fun k z=>by unfold opS;split<;>simp<;>omega
  have l1:=hle 2 x;have l2:=hle 1 y;have l3:=hle 1 z;simp only[TZ,T0,T3]at hlen;have hA:∀σ,Fun G 272 [vex x,.d (ac 2)] σ (aP (.d (ab (bs (opS 2 x)))) σ):=nW (x:=x) 2 (by omega) (ih x (by simp[Ex.args]) hx (by omega));have hB:∀σ,Fun G 272 [vex y,.d (ac 1)] σ (aP (.d (ab (bs (opS 1 y)))) σ):=nW (x:=y) 1 (by omega) (ih y (by simp[Ex.args]) hy (by omega));have hC:∀σ,Fun G 272 [vex z,.d (ac 1)] σ (aP (.d (ab (bs (opS 1 z)))) σ):=nW (x:=z) 1 (by omega) (ih z (by simp[Ex.args]) hz (by omega));generalize opS 2 x=A at *;generalize opS 1 y=B at *;generalize opS 1 z=E at *;have a1:bE .add (V.d (ab (bs A))) (V.d (ab ⟨#[32,63,32]⟩))=some (V.d (ab (bs (A++[32,63,32])))):=bK A [32,63,32] (by simp;omega)
  have a2:bE .add (V.d (ab (bs (A++[32,63,32])))) (V.d (ab (bs B)))=some (V.d (ab (bs ((A++[32,63,32])++B)))):=bK _ _ (by simp;omega);have a3:bE .add (V.d (ab (bs ((A++[32,63,32])++B)))) (V.d (ab ⟨#[32,58,32]⟩))=some (V.d (ab (bs (((A++[32,63,32])++B)++[32,58,32])))):=bK _ [32,58,32] (by simp;omega);have a4:bE .add (V.d (ab (bs (((A++[32,63,32])++B)++[32,58,32])))) (V.d (ab (bs E)))=some (V.d (ab (bs ((((A++[32,63,32])++B)++[32,58,32])++E)))):=bK _ _ (by simp;omega);have hf:A++([32,63,32]++(B++([32,58,32]++E)))=(((A++[32,63,32])++B)++[32,58,32])++E:=by simp
  rw[hf];generalize (((A++[32,63,32])++B)++[32,58,32])++E=R4 at *;generalize ((A++[32,63,32])++B)++[32,58,32]=R3 at *;generalize (A++[32,63,32])++B=R2 at *;generalize A++[32,63,32]=R1 at *;simp -dsimp only[aw,jV,jW,jX,jY,jZ,jA,reduceIte,reduceCtorEq,jB,jC,jD,jE,jF,jG,bX,bp,aK,aL];refine ae (cX _ _) ?_;rw[show iY 22=[]from rfl];simp -dsimp only[aw,jV,jW,jX,jY,jZ,jA,reduceIte,reduceCtorEq,jB,jC,jD,jE,jF,jG,ik,TX,decide_true,decide_false,ia0,ia1,ia2,bC];refine aA (by simpa only[an]using hA _) ?_;simp -dsimp only[aw,jV,jW,jX,jY,jZ,jA,reduceIte,reduceCtorEq,jB,jC,jD,jE,jF,jG,a1,ia0,ia1,ia2,bC];refine aA (by simpa only[an]using hB _) ?_;simp -dsimp only[aw,jV,jW,jX,jY,jZ,jA,reduceIte,reduceCtorEq,jB,jC,jD,jE,jF,jG,a2,a3,ia0,ia1,ia2,bC];refine aA (by simpa only[an]using hC _) ?_
  simp -dsimp only[aw,jV,jW,jX,jY,jZ,jA,reduceIte,reduceCtorEq,jB,jC,jD,jE,jF,jG,a4];first|exact av hb rfl rfl|exact au hb rfl rfl
 | inside x l hx hl hev hne h32=>
  rw[show iw (Ex.mk 23 0 ⟨#[]⟩ (x::l)).op=none from QT];rw[qX]at hlen ⊢;have hle:∀k z,(bh z).length≤(opS k z).length:=fun k z=>by unfold opS;split<;>simp<;>omega
  have l1:=hle 9 x;simp only[TZ,T0,T3]at hlen;have hA:∀σ,Fun G 272 [vex x,.d (ac 9)] σ (aP (.d (ab (bs (opS 9 x)))) σ):=nW (x:=x) 9 (by omega) (ih x (by simp[Ex.args]) hx (by omega));have hT:∀i (hi:i<l.length),(bh l[i]).length≤1200000->∀σ,Fun G 240 [vex l[i]] σ (aP (.d (ab (bs (bh l[i])))) σ):=fun i hi h=>ih l[i] (by simp[Ex.args]) (hl _ (Ud hi)) h;have hpl:=Br l hev;have hjn:=xm l hev;generalize opS 9 x=A at *;simp -dsimp only[aw,jV,jW,jX,jY,jZ,jA,reduceIte,reduceCtorEq,jB,jC,jD,jE,jF,jG,bX,bp,aK,aL];refine ae (cX _ _) ?_;rw[show iY 23=[]from rfl];simp -dsimp only[aw,jV,jW,jX,jY,jZ,jA,reduceIte,reduceCtorEq,jB,jC,jD,jE,jF,jG,ik,TX,decide_true,decide_false];have hlb:(gB l).length≤1200000:=by omega
  have hJ:∀σ,Fun G 244 [.d (.sl ((prL l).map fun s=>[ab s])),.d (ab ⟨#[44,32]⟩)] σ (aP (.d (ab (bs (gB l)))) σ):=fun σ=>by
   have:=qj [44,32] (prL l) (by omega) (by rw[hjn];omega) σ;rw[hjn]at this;exact this
  refine aN [1,8,9] (R:=fun(j:Nat) ρ σ'=>ρ=[(1,.ptr σ.length 0),(8,.own 9 1 (((prL l).take j).map fun s=>[ab s])),(9,aB .i64 ((2*j+1:Nat):Int))]/\σ'=σ++[[.d (ac 23),.d (ac 0),.d (ab ⟨#[]⟩),.d (.sl (dex x::l.map dex))],[.d (ab ⟨#[]⟩),.d (ac 0),.d (ac 0)]]) (prL l).length ⟨rfl,rfl⟩ ?_ _;rintro j ρ' σ' hj ⟨rfl,rfl⟩;have hw1:IntKind.i64.wrap (((2*j+1:Nat):Int)+1)=((2*j+2:Nat):Int):=by rw[ba (by omega) (by omega)];omega
  have hw2:IntKind.i64.wrap (((2*j+1:Nat):Int)+2)=((2*(j+1)+1:Nat):Int):=by rw[ba (by omega) (by omega)];omega
  by_cases hlt:j<(prL l).length
  .have h1:2*j<l.length:=by omega
   have h2:2*j+1<l.length:=by omega
   have hpt:=Ce l j h2 hlt;have hple:=BO l j h2;have hT1:=hT (2*j) h1 (by omega);have hT2:=hT (2*j+1) h2 (by omega);have htk:(prL l).take (j+1)=(prL l).take j++[(prL l)[j]]:=by rw[List.take_add_one,T4 hlt];rfl
   rw[hpt]at htk;generalize bh l[2*j]=T1 at *;generalize bh l[2*j+1]=T2 at *;have a1:bE .add (V.d (ab (bs T1))) (V.d (ab ⟨#[32,46,46,32]⟩))=some (V.d (ab (bs (T1++[32,46,46,32])))):=bK T1 [32,46,46,32] (by simp;omega)
   have a2:bE .add (V.d (ab (bs (T1++[32,46,46,32])))) (V.d (ab (bs T2)))=some (V.d (ab (bs (T1++([32,46,46,32]++T2))))):=by
    rw[<-T5];exact bK _ T2 (by simp;omega)
   generalize T1++([32,46,46,32]++T2)=R2 at *;generalize T1++[32,46,46,32]=R1 at *;have hc:decide (((2*j+2:Nat):Int)<((l.length+1:Nat):Int))=true:=by rw[decide_eq_true_eq];omega
   simp -dsimp only[aw,jV,jW,jX,jY,jZ,jA,reduceIte,reduceCtorEq,jB,jC,jD,jE,jF,jG,hw1,hc,T4 h1,fL,bC];refine aA (by simpa only[an]using hT1 _) ?_;simp -dsimp only[aw,jV,jW,jX,jY,jZ,jA,reduceIte,reduceCtorEq,jB,jC,jD,jE,jF,jG,hw1,a1,T4 h2,fL,bC];refine aA (by simpa only[an]using hT2 _) ?_;simp -dsimp only[aw,jV,jW,jX,jY,jZ,jA,reduceIte,reduceCtorEq,jB,jC,jD,jE,jF,jG,a2];refine bI (by simp only[Ug,List.length_take];omega) ?_;simp -dsimp only[aw,jV,jW,jX,jY,jZ,jA,reduceIte,reduceCtorEq,jB,jC,jD,jE,jF,jG,hw2];refine⟨hlt,Nxt.same (by simp) (ax hb rfl) (by simp[aq,V.under]) ⟨?_,by rw[bC x]⟩⟩;rw[htk,List.map_append];rfl
  .have hc:decide (((2*j+2:Nat):Int)<((l.length+1:Nat):Int))=false:=by rw[decide_eq_false_iff_not];omega
   have hje:(prL l).take j=prL l:=List.take_of_length_le (by omega);rw[hje];generalize gB l=B at *;have a1:bE .add (V.d (ab (bs A))) (V.d (ab ⟨#[32,105,110,115,105,100,101,32,123,32]⟩))=some (V.d (ab (bs (A++[32,105,110,115,105,100,101,32,123,32])))):=bK A [32,105,110,115,105,100,101,32,123,32] (by simp;omega);have a2:bE .add (V.d (ab (bs (A++[32,105,110,115,105,100,101,32,123,32])))) (V.d (ab (bs B)))=some (V.d (ab (bs ((A++[32,105,110,115,105,100,101,32,123,32])++B)))):=bK _ _ (by simp;omega);have a3:bE .add (V.d (ab (bs ((A++[32,105,110,115,105,100,101,32,123,32])++B)))) (V.d (ab ⟨#[32,125]⟩))=some (V.d (ab (bs (((A++[32,105,110,115,105,100,101,32,123,32])++B)++[32,125])))):=bK _ [32,125] (by simp;omega);have hf:A++([32,105,110,115,105,100,101,32,123,32]++(B++[32,125]))=((A++[32,105,110,115,105,100,101,32,123,32])++B)++[32,125]:=by simp
   rw[hf];generalize ((A++[32,105,110,115,105,100,101,32,123,32])++B)++[32,125]=R3 at *;generalize (A++[32,105,110,115,105,100,101,32,123,32])++B=R2 at *;generalize A++[32,105,110,115,105,100,101,32,123,32]=R1 at *;simp -dsimp only[aw,jV,jW,jX,jY,jZ,jA,reduceIte,reduceCtorEq,jB,jC,jD,jE,jF,jG,hw1,hc,ia0,bC];refine ae (by simpa only[an]using hA _) ?_;simp -dsimp only[aw,jV,jW,jX,jY,jZ,jA,reduceIte,reduceCtorEq,jB,jC,jD,jE,jF,jG,a1];refine ae (hJ _) ?_;simp -dsimp only[aw,jV,jW,jX,jY,jZ,jA,reduceIte,reduceCtorEq,jB,jC,jD,jE,jF,jG,a2,a3];first|exact av hb rfl rfl|exact au hb rfl rfl
 | sum s h=>
  rw[show iw (Ex.mk 24 0 s []).op=none from(mj 24 (by simp)).2];rw[xS]at hlen ⊢;obtain⟨ss,rfl⟩:∃ss,s=bs ss:=⟨_,(ec s).symm⟩
  rw[bJ]at hlen ⊢;simp only[TZ,T0,T3]at hlen;have a1:bE .add (V.d (ab ⟨#[115,117,109,40]⟩)) (V.d (ab (bs ss)))=some (V.d (ab (bs ([115,117,109,40]++ss)))):=bK [115,117,109,40] ss (by simp;omega);have a2:bE .add (V.d (ab (bs ([115,117,109,40]++ss)))) (V.d (ab ⟨#[41]⟩))=some (V.d (ab (bs (([115,117,109,40]++ss)++[41])))):=bK _ [41] (by simp;omega);rw[<-T5];generalize ([115,117,109,40]++ss)++[41]=R2 at *;generalize [115,117,109,40]++ss=R1 at *;simp -dsimp only[aw,jV,jW,jX,jY,jZ,jA,reduceIte,reduceCtorEq,jB,jC,jD,jE,jF,jG,bX,bp,aK,aL];refine ae (cX _ _) ?_;rw[show iY 24=[]from rfl];simp -dsimp only[aw,jV,jW,jX,jY,jZ,jA,reduceIte,reduceCtorEq,jB,jC,jD,jE,jF,jG,ik,TX,decide_true,decide_false,a1,a2];first|exact av hb rfl rfl|exact au hb rfl rfl
 | ones x hx=>
  rw[show iw (Ex.mk 25 0 ⟨#[]⟩ [x]).op=none from(mj 25 (by simp)).2];rw[uC]at hlen ⊢;simp only[TZ,T0,T3]at hlen;have hT:=ih x (by simp[Ex.args]) hx (by omega);generalize bh x=T at *;have a1:bE .add (V.d (ab ⟨#[111,110,101,115,40]⟩)) (V.d (ab (bs T)))=some (V.d (ab (bs ([111,110,101,115,40]++T)))):=bK [111,110,101,115,40] T (by simp;omega);have a2:bE .add (V.d (ab (bs ([111,110,101,115,40]++T)))) (V.d (ab ⟨#[41]⟩))=some (V.d (ab (bs (([111,110,101,115,40]++T)++[41])))):=bK _ [41] (by simp;omega);rw[<-T5];generalize ([111,110,101,115,40]++T)++[41]=R2 at *;generalize [111,110,101,115,40]++T=R1 at *;simp -dsimp only[aw,jV,jW,jX,jY,jZ,jA,reduceIte,reduceCtorEq,jB,jC,jD,jE,jF,jG,bX,bp,aK,aL];refine ae (cX _ _) ?_;rw[show iY 25=[]from rfl]
  simp -dsimp only[aw,jV,jW,jX,jY,jZ,jA,reduceIte,reduceCtorEq,jB,jC,jD,jE,jF,jG,ik,TX,decide_true,decide_false,ia0,bC];refine ae (by simpa only[an]using hT _) ?_;simp -dsimp only[aw,jV,jW,jX,jY,jZ,jA,reduceIte,reduceCtorEq,jB,jC,jD,jE,jF,jG,a1,a2];first|exact av hb rfl rfl|exact au hb rfl rfl
abbrev Ln:=Nat×Bs
def blk(k:Nat):Bs:=List.replicate (4*k) 32
def lnT(k:Nat)(x:Ln):Bs:=blk (k+x.1)++(x.2++[10])
def aZ(k:Nat)(l:List Ln):Bs:=l.flatMap (lnT k)
def upL(l:List Ln):List Ln:=l.map fun x=>(x.1+1,x.2)
def lC(n:Int):Bs:=Lib.itoa n
def jk(sep:Bs):List Bs->Bs
 | []=>[]
 | [a]=>a
 | a::b::r=>a++(sep++jk sep (b::r))
def wtT(w:Wt):Bs:=lC w.lo++((if w.hi=w.lo then[]else[32,46,46,32]++lC w.hi)++((if w.each=true then[32,58,61,32]else[32,58,47,32])++lC w.w))
def rc(l:List Wt):Bs:=jk [44,32] (l.map wtT)
def bw(s:ByteArray):Bs:=s.data.toList
mutual
def fJ:It->List Ln
 | .mk k e nm ix ws l m bf af=>
  if k=1 then[(0,bh e++[59])]
  else if k=2 then[(0,[115,111,102,116,32]++(bh e++[59]))]
  else if k=3 then[(0,[100,105,115,116,32]++(bw nm++([32,123,32]++(rc ws++[32,125,59]))))]
  else if k=4 then(0,[105,102,32,40]++(bh e++[41,32,123]))::(upL (lns l)++((if m.isEmpty=true then[]else(0,[125,32,101,108,115,101,32,123])::upL (lns m))++[(0,[125])]))
  else if k=5 then(0,[101,97,99,104,32]++(bw ix++([32,105,110,32]++(bw nm++[32,123]))))::(upL (lns l)++[(0,[125])])
  else[(0,[115,111,108,118,101,32]++(jk [44,32] (bf.map bw)++([32,98,101,102,111,114,101,32]++(jk [44,32] (af.map bw)++[59]))))]
def lns:List It->List Ln
 | []=>[]
 | x::r=>fJ x++lns r
end
theorem kO(x:It):fJ x=
 if x.kind=1 then[(0,bh x.ex++[59])]
 else if x.kind=2 then[(0,[115,111,102,116,32]++(bh x.ex++[59]))]
 else if x.kind=3 then[(0,[100,105,115,116,32]++(bw x.name++([32,123,32]++(rc x.ws++[32,125,59]))))]
 else if x.kind=4 then(0,[105,102,32,40]++(bh x.ex++[41,32,123]))::(upL (lns x.items)++((if x.els.isEmpty=true then[]else(0,[125,32,101,108,115,101,32,123])::upL (lns x.els))++[(0,[125])]))
 else if x.kind=5 then(0,[101,97,99,104,32]++(bw x.idx++([32,105,110,32]++(bw x.name++[32,123]))))::(upL (lns x.items)++[(0,[125])])
 else[(0,[115,111,108,118,101,32]++(jk [44,32] (x.bef.map bw)++([32,98,101,102,111,114,101,32]++(jk [44,32] (x.aft.map bw)++[59]))))]:=by
 cases x;rw[fJ];rfl
theorem Cc(l m:List It):lns (l++m)=lns l++lns m:=by
 induction l with
 | nil=>rfl
 | cons a r ih=>rw[Ue,lns,lns,ih,T5]
theorem bj(k:Nat)(a b:List Ln):aZ k (a++b)=aZ k a++aZ k b:=List.flatMap_append
theorem ed(k:Nat)(l:List Ln):aZ k (upL l)=aZ (k+1) l:=by
 unfold aZ upL;rw[List.flatMap_map];congr 1;funext x;show blk (k+(x.1+1))++_=blk (k+1+x.1)++_;rw[show k+(x.1+1)=k+1+x.1 by omega]
theorem lk{x:It}{d:Nat}(h:bP x d=0):(if x.kind=3 then qw x else if x.kind=6 then om x else if x.kind=5 then tl x else bz x.ex)=0:=by
 unfold bP at h;split at h
 .cases h
 .exact h
theorem BS{x:It}{d:Nat}(h:bP x d=0)(hk:x.kind=3):x.ws≠[]/\x.ws.all wtB=true/\bv x.name=true:=by
 have:=lk h;rw[if_pos hk]at this;unfold qw at this;split at this
 .cases this
 .split at this
  .cases this
  .rename_i h1;split at this
   .cases this
   .rename_i h2;split at this
    .rename_i h3;exact⟨h1,by simpa using h2,h3⟩
    .cases this
theorem xx{x:It}{d:Nat}(h:bP x d=0)(hk:x.kind=6):x.bef≠[]/\x.aft≠[]/\(∀s,s∈x.bef->bv s=true)/\∀s,s∈x.aft->bv s=true:=by
 have:=lk h;rw[if_neg (by omega),if_pos hk]at this;unfold om at this;split at this
 .cases this
 .rename_i h1;split at this
  .rename_i h2;rw[List.all_append,TU,Uf,Uf]at h2;exact⟨fun e=>h1 (.inl e),fun e=>h1 (.inr e),h2.1,h2.2⟩
  .cases this
theorem KQ{x:It}{d:Nat}(h:bP x d=0)(hk:x.kind=5):aS x.name=true/\aS x.idx=true:=by
 have:=lk h;rw[if_neg (by omega),if_neg (by omega),if_pos hk]at this;unfold tl at this;split at this
 .assumption
 .cases this
theorem wG{x:It}{d:Nat}(h:bP x d=0)(hk:x.kind=1\/x.kind=2\/x.kind=4):dj x.ex=0:=by
 have:=lk h;rw[if_neg (by omega),if_neg (by omega),if_neg (by omega)]at this;exact fZ this
theorem MA(k:Nat):[32,32,32,32]++blk k=blk (k+1):=by
 unfold blk;rw[show 4*(k+1)=4+4*k by omega,<-List.replicate_append_replicate];rfl
theorem mX{n:Int}(h0:0≤n)(h1:n≤65535):(lC n).length≤5:=by
 have h:=jl n.toNat (by omega);unfold lC Lib.itoa;rw[if_neg (by omega)];exact h
theorem B4{s:ByteArray}(h:bv s=true):(bw s).length≤23:=by
 unfold bv at h;rw[TV]at h;rcases h with h|h;case inr=>have:=dg h;unfold bw;omega
 .obtain⟨g1,g2,g3,g4⟩:=dX h;have hl:=dg g1;have h5:=jl (ci s).toNat (by omega);have:=congrArg (fun s:ByteArray=>s.data.toList.length) g4;simp only[iP,rH]at this;have hsz:(ff s 91).size=(ff s 91).data.toList.length:=rfl;unfold bw;rw[<-this];simp[aa];omega
theorem MJ{w:Wt}(h:wtB w=true):(wtT w).length≤23:=by
 unfold wtB at h;simp only[TU,decide_eq_true_eq]at h;have h1:=mX (n:=w.lo) (by omega) (by omega);have h2:=mX (n:=w.hi) (by omega) (by omega);have h3:=mX (n:=w.w) (by omega) (by omega);unfold wtT;split<;>split<;>simp only[TZ,T0,T3]<;>omega
theorem ro(sep:Bs)(m:Nat):∀l:List Bs,(∀a,a∈l->a.length≤m)->(jk sep l).length≤l.length*(m+sep.length)
 | [],_=>by simp[jk]
 | [a],h=>by
  have:=h a (by simp);simp only[jk,T0,T3];omega
 | a::b::r,h=>by
  have h1:=h a (by simp);have h2:=ro sep m (b::r) fun x hx=>h x (by simp only[Ui]at hx ⊢;exact .inr hx);rw[jk,TZ,TZ];rw[T0,Um];omega
theorem eJ(k:Nat)(x:Ln):(lnT k x).length=4*(k+x.1)+x.2.length+1:=by
 unfold lnT blk;simp only[TZ,List.length_replicate,T0,T3];omega
theorem aM(k:Nat)(x:Ln)(r:List Ln):aZ k (x::r)=lnT k x++aZ k r:=rfl
theorem cd(k:Nat):aZ k []=[]:=rfl
theorem sU{l:List ByteArray}(h:∀s,s∈l->bv s=true):(jk [44,32] (l.map bw)).length≤l.length*25:=by
 have:=ro [44,32] 23 (l.map bw) fun a ha=>by
  obtain⟨s,hs,rfl⟩:=List.mem_map.1 ha;exact B4 (h s hs)
 simpa using this
theorem J1{l:List Wt}(h:l.all wtB=true):(rc l).length≤l.length*25:=by
 have:=ro [44,32] 23 (l.map wtT) fun a ha=>by
  obtain⟨w,hw,rfl⟩:=List.mem_map.1 ha;exact MJ (List.all_eq_true.1 h w hw)
 simpa[rc]using this
theorem nh{a b c m:Nat}(h:172≤m)(h2:c+64*a+25*b+172≤64*a+25*b+m+172):64*a+25*b+c≤(1+a+b)*m:=by
 have h3:a*172≤a*m:=Uo _ h;have h4:b*172≤b*m:=Uo _ h;rw[Um,Um];omega
theorem A3(e:Nat):∀(l:List It) (d:Nat),rvl l d=0->(aZ (e+d) (lns l)).length≤aF l*(12*e+172):=by
 refine lx (fun d _=>by rw[lns,cd];simp) fun x r h1 h2 h3 d hv=>?_;obtain⟨s1,s2,s3⟩:=wV hv (List.mem_cons_self ..)
 have hr:=h3 d (by
  rw[rvl]at hv;split at hv
  .exact hv
  .rename_i hn;exact absurd hv hn)
 obtain⟨hk,-,hd⟩:=kU s1;rw[lns,bj,TZ,aF,Um];refine Nat.add_le_add ?_ hr;have i1:=h1 (d+1) s2;have i2:=h2 (d+1) s3;rw[<-Nat.add_assoc,<-ed]at i1 i2;rw[kO,dI];have hm:172≤12*e+172:=by omega
 have add:∀a b c y z:Nat,64*a+25*b+c≤(1+a+b)*(12*e+172)->y≤aF x.items*(12*e+172)->z≤aF x.els*(12*e+172)->a≤aX x.ex->b≤x.ws.length+x.bef.length+x.aft.length->
  64*a+25*b+c+y+z≤(1+aX x.ex+x.ws.length+x.bef.length+x.aft.length+aF x.items+aF x.els)*(12*e+172):=by
  intro a b c y z g1 g2 g3 g4 g5;have g6:(1+a+b)*(12*e+172)≤(1+aX x.ex+x.ws.length+x.bef.length+x.aft.length)*(12*e+172):=Nat.mul_le_mul_right _ (by omega);rw[Um _ (aF x.els),Um _ (aF x.items)];omega
 split
 .rename_i k;have he:=oU _ (wG s1 (.inl k));rw[aM,cd,TZ,eJ];simp only[TZ,T0,T3];have:=add (aX x.ex) 0 (4*(e+d)+2) 0 0 (nh hm (by omega)) (Ul _) (Ul _) (Un _) (Ul _);omega
 .split
  .rename_i k;have he:=oU _ (wG s1 (.inr (.inl k)));rw[aM,cd,TZ,eJ];simp only[TZ,T0,T3];have:=add (aX x.ex) 0 (4*(e+d)+7) 0 0 (nh hm (by omega)) (Ul _) (Ul _) (Un _) (Ul _);omega
  .split
   .rename_i k;obtain⟨-,hw,hn⟩:=BS s1 k;have e1:=B4 hn;have e2:=J1 hw;rw[aM,cd,TZ,eJ];simp only[TZ,T0,T3];have:=add 0 x.ws.length (4*(e+d)+40) 0 0 (nh hm (by omega)) (Ul _) (Ul _) (Ul _) (by omega);omega
   .split
    .rename_i k;have he:=oU _ (wG s1 (.inr (.inr k)));simp only[aM,bj,cd,TZ,eJ,T0,T3];have:=add (aX x.ex) 0 (12*(e+d)+40) _ _ (nh hm (by omega)) i1 i2 (Un _) (Ul _);split
     .simp only[cd,T3];omega
     .simp only[aM,TZ,eJ,T0,T3];omega
    .split
     .rename_i k;obtain⟨n1,n2⟩:=KQ s1 k;have e1:=dg n1;have e2:=dg n2;simp only[aM,bj,cd,TZ,eJ,T0,T3];have:=add 0 0 (8*(e+d)+60) _ 0 (nh hm (by omega)) i1 (Ul _) (Ul _) (Ul _);simp only[bw];omega
     .have k:x.kind=6:=by omega
      obtain⟨-,-,n1,n2⟩:=xx s1 k;have e1:=sU n1;have e2:=sU n2;rw[aM,cd,TZ,eJ];simp only[TZ,T0,T3];have:=add 0 (x.bef.length+x.aft.length) (4*(e+d)+40) 0 0 (nh hm (by omega)) (Ul _) (Ul _) (Ul _) (by omega);omega
structure Fl where
 name:ByteArray
 width:Int
 size:Int
 mode:Int
 init:Int
structure Kl where
 name:ByteArray
 par:ByteArray
 flds:List Fl
 blks:List (ByteArray×List It)
def nK(m:Int):Bs:=if m=1 then[114,97,110,100,32]else if m=2 then[114,97,110,100,99,32]else[115,116,97,116,101,32]
def nw(f:Fl):Bs:=nK f.mode++(bw f.name++((if 0<f.size then 91::(lC f.size++[93])else[])++([32,58,32]++(lC f.width++((if f.mode=0 then[32,61,32]++lC f.init else[])++[59])))))
def gw(b:ByteArray×List It):List Ln:=(0,[99,111,110,115,116,114,97,105,110,116,32]++(bw b.1++[32,123]))::(upL (lns b.2)++[(0,[125])])
def tL(p:ByteArray):Bs:=if p=⟨#[]⟩then[]else[32,101,120,116,101,110,100,115,32]++bw p
def Ez(c:Kl):List Ln:=(0,[99,108,97,115,115,32]++(bw c.name++(tL c.par++[32,123])))::(upL (c.flds.map (fun f=>(0,nw f))++c.blks.flatMap gw)++[(0,[125])])
def fY(c:Kl):Bs:=aZ 0 (Ez c)
end Go.Proofs.YtnhphlmblenapaaGreatDoor
