import Derived.LaidLaws
import Derived.OpenShut
import Derived.ChangeSame
import Derived.ChangeVars
import Derived.JoinedOf
import Derived.RowKitTokens
import Derived.ChangeOld
import Derived.Below
import Derived.Deep.DeepHandedRow
import Derived.Deep.DeepWitnessRowRef
import Derived.Test.YthekkgfmagliiaaGreatDoorTok7
set_option linter.unusedVariables false
set_option linter.unusedSimpArgs false
set_option linter.unusedSectionVars false
set_option maxRecDepth 100000
set_option maxHeartbeats 1000000
open Bool renaming true_and->RS,eq_iff_iff->RU
open Int renaming reduceEq->RW,ofNat_lt->RX
open List renaming getElem?_eq_getElem->RY,take_left->RZ,map_cons->R0,sum_cons->R5,map_nil->R6,flatten_cons->R7,take_length->R8,length_drop->R9,map_append->Sa,length_map->Sb,getElem_cons_zero->Sc,range->Sd,length_append->Se,length_cons->Sf,getElem_map->Si,cons_append->Sj,map_map->Sk
open Nat renaming le_refl->Sl,strongRecOn->Sm
open Option renaming getD_some->Sn
namespace Go.Proofs.YthekkgfmagliiaaGreatDoor
open Go.RowKit
open Nat renaming reduceLeDiff -> jA, reduceBEq -> jB, reduceLT -> jC, reduceEqDiff -> jD, reduceAdd -> jE, reduceSub -> jF, reduceMul -> jG
open V renaming copy -> jV, lend -> jW, lend1 -> jX, cells -> jY, boxable -> jZ
theorem bg{K P:V->LLV->Prop}{v:V}{σ:LLV}:Dd K P (.ret v) σ=K v σ:=rfl
def eA(t:Tok):List D:=[ab t.kind,ab t.num,ae t.text,ab t.line]
def xQ:Lx->V
 | .ok ts=>.tup [.d (.sl (ts.map eA)),.d (ab 0),.d (ab 0)]
 | .err n e=>.tup [.d (.sl []),.d (ab n),.d (ab e)]
def wM(l:Bs):V:=if 16384<l.length then .tup [.d (.sl []),.d (ab 0),.d (ab 2)]else xQ (dP l)
theorem yb{l:Bs}{e:Int}(h:bY l=.err e):e≠0:=by
 match l with
 | []=>cases h;decide
 | c::r=>
  simp only[bY]at h;split at h
  .split at h<;>cases h<;>decide
  .split at h
   .split at h
    .cases h;decide
    .split at h<;>cases h<;>decide
   .split at h<;>cases h<;>decide
theorem rK(N:Int)(l:Bs):d8 N (bM l)=d8 N l:=by rw[bF,bF N l,mi]
theorem GS(x:Lx)(t:Tok)(a:List Tok):(x.cons t).app a=x.app (a++[t]):=by cases x<;>simp[Lx.cons,Lx.app]
theorem Jw(x:Lx):x.app []=x:=by cases x<;>rfl
theorem AF(l:Bs)(hl:l.length≤1000000)(σ:LLV):Fun G 43 [.d (ae (bs l))] σ (az (wM l) σ):=by
 have hcl:l.count 10≤l.length:=List.count_le_length;refine ai Tryz.func43 k43 rfl fun hb hw=>?_;unfold c43;by_cases hbig:16384<l.length
 .have hbig':(16384:Int)<((l.length:Nat):Int):=by omega
  simp -dsimp only[aw,jV,jW,jX,jY,jZ,jA,reduceIte,reduceCtorEq,jB,jC,jD,jE,jF,jG,bO,decide_eq_true hbig'];exact ao hb (v:=wM l) (by unfold wM;rw[if_pos hbig];rfl) (by unfold wM;rw[if_pos hbig];rfl) R8 ⟨rfl,rfl⟩
 .have hbig':¬(16384:Int)<((l.length:Nat):Int):=by omega
  have hR:wM l=xQ (dP l):=by unfold wM;rw[if_neg hbig]
  rw[hR];obtain⟨T,hT⟩:∃T:Int,T=1+(l.count 10:Nat):=⟨_,rfl⟩
  have hT0:0≤T:=by omega
  have hT1:T≤1000000000:=by omega
  have htk:dP l=d8 T l:=by rw[hT];rfl
  have h1:(1:Int)=T-(l.count 10:Nat):=by omega
  have hbox:[V.d (ae (bs l)),V.d (ab 1)]=rdr T l:=by unfold rdr rd;rw[h1]
  simp -dsimp only[aw,jV,jW,jX,jY,jZ,jA,reduceIte,reduceCtorEq,jB,jC,jD,jE,jF,jG,bO,decide_eq_false hbig',hbox];refine dG (wt T l σ.length hl hT0 hT1 _ (ql _)) ?_;rw[nC];simp -dsimp only[aw,jV,jW,jX,jY,jZ,jA,reduceIte,reduceCtorEq,jB,jC,jD,jE,jF,jG];refine ng (R:=fun(j:Nat) ρ σ'=>∃(acc:List Tok) (r:Bs),bM r=r/\dP l=(d8 T r).app acc/\r.length+j≤l.length/\acc.length≤j/\ρ=[(5,.ptr σ.length 0),(6,.own 61 4 (acc.map eA))]/\σ'=σ++[rdr T r]) l.length ⟨[],bM l,mi l,by rw[Jw,rK,htk],by have:=(eU l).length_le;omega,by simp,rfl,rfl⟩ ?_ _;rintro j ρ' σ' hj ⟨acc,r,hs,hr,hrl,hal,rfl,rfl⟩
  match hre:r with
  | []=>
   simp -dsimp only[aw,jV,jW,jX,jY,jZ,jA,reduceIte,reduceCtorEq,jB,jC,jD,jE,jF,jG,rdr,rd,gV];refine ao hb (v:=xQ (dP l)) ?_ ?_ RZ ⟨rfl,rfl⟩
   .rw[hr,bF,dZ];simp only[Lx.app,List.append_nil,xQ];rfl
   .rw[hr,bF,dZ];rfl
  | c::r'=>
   have hnil:=Is c r';simp -dsimp only[aw,jV,jW,jX,jY,jZ,jA,reduceIte,reduceCtorEq,jB,jC,jD,jE,jF,jG,rdr,rd,hnil];rw[<-hre]at hs hr hrl ⊢;have hfold:[V.d (ae (bs r)),V.d (ab (T-(r.count 10:Nat)))]=rdr T r:=rfl;rw[hfold];refine aW (Er (cG r) T r rfl c r' hre σ.length (by omega) hT0 hT1 _ (ql _)) fun o σ' hq=>?_;unfold rf at hq;have hst:=bF T r;rw[hs]at hst;cases hrd:bY r with
   | err e=>
    rw[hrd]at hq;obtain⟨rfl,l',rfl⟩:=hq;have he0:=yb hrd;rw[nC];simp -dsimp only[aw,jV,jW,jX,jY,jZ,jA,reduceIte,reduceCtorEq,jB,jC,jD,jE,jF,jG,bg,cJ,dC,decide_eq_false he0]
    have hv:dP l=.err (T-(r.count 10:Nat)) e:=by
     rw[hr,hst];rw[hre]at hrd ⊢;simp only[hrd,Lx.app]
    exact ao hb (v:=xQ (dP l)) (by rw[hv];rfl) (by rw[hv];rfl) RZ ⟨rfl,rfl⟩
   | tok kd n len=>
    rw[hrd]at hq;obtain⟨rfl,rfl⟩:=hq;obtain⟨g1,g2⟩:=jU hrd;rw[nC];simp -dsimp only[aw,jV,jW,jX,jY,jZ,jA,reduceIte,reduceCtorEq,jB,jC,jD,jE,jF,jG,bg,dC,decide_true,Sb];refine bH (by omega) ?_;simp -dsimp only[aw,jV,jW,jX,jY,jZ,jA,reduceIte,reduceCtorEq,jB,jC,jD,jE,jF,jG];refine dG (wt T (r.drop len) σ.length (by rw[R9];omega) hT0 hT1 _ (ql _)) ?_;rw[nC];simp -dsimp only[aw,jV,jW,jX,jY,jZ,jA,reduceIte,reduceCtorEq,jB,jC,jD,jE,jF,jG];have hsl:=(eU (r.drop len)).length_le;rw[R9]at hsl
    have hv:dP l=(d8 T (bM (r.drop len))).app (acc++[gJ T r kd n len]):=by
     rw[hr,hst,rK,<-GS];rw[hre]at hrd ⊢;simp only[hrd]
    have ha2:∀a b:List V,σ++[a,b]=(σ++[a])++[b]:=fun a b=>by simp
    rw[ha2];refine⟨by omega,Nxt.drop (by simp) (av hb rfl) (by simp[am,V.under]) ⟨acc++[gJ T r kd n len],bM (r.drop len),mi _,hv,by omega,by simp;omega,?_,rfl⟩⟩;simp only[Sa,R0,R6];rfl
section
variable {α : Type}
def Pp(z:α)(valid:α->Int):QR α->Option (α×Int×Int)
 | .out=>none
 | .late=>none
 | .bad l e=>some (z,l,e)
 | .ok s []=>some (if valid s=0 then(s,0,0)else(z,0,valid s))
 | .ok _ (t::_)=>some (z,t.line,5)
def wX(z:α)(valid:α->Int)(f:List Tok->QR α)(l:Bs):Option (α×Int×Int):=
 if 16384<l.length then some (z,0,2)else match dP l with
  | .err n e=>some (z,n,e)
  | .ok ts=>Pp z valid (f ts)
theorem uu{l:Bs}{n e:Int}(h:dP l=.err n e):e≠0:=by
 suffices H:∀(k:Nat) (N:Int) (l:Bs),l.length≤k->d8 N l=.err n e->e≠0 from H _ _ l (Sl _) h
 intro k
 induction k with
 | zero=>
  intro N l h ht;have:l=[]:=List.eq_nil_of_length_eq_zero (by omega);subst this;rw[bF,dZ]at ht;cases ht
 | succ k ih=>
  intro N l h ht;rw[bF]at ht;have hs:=(eU l).length_le;cases hsk:bM l with
  | nil=>rw[hsk]at ht;cases ht
  | cons c r=>
   rw[hsk]at ht hs;simp only at ht;cases hrd:bY (c::r)with
   | err e'=>rw[hrd]at ht;cases ht;exact yb hrd
   | tok kd n' len=>
    obtain⟨g1,g2⟩:=jU hrd;rw[hrd]at ht;simp only at ht;have hdl:=R9 (l:=c::r) (i:=len);cases hq:d8 N ((c::r).drop len)with
    | err x e'=>
     rw[hq]at ht;cases ht;exact ih N _ (by omega) hq
    | ok us=>rw[hq]at ht;cases ht
theorem vt{z:α}{valid:α->Int}{f:List Tok->QR α}{l:Bs}{v:α}{ts:List Tok}(ht:dP l=.ok ts)(hf:f ts=.ok v [])(hv:valid v=0):wX z valid f l=if 16384<l.length then some (z,0,2)else some (v,0,0):=by
 unfold wX;rw[ht];simp only[hf,Pp,hv,if_true]
def Gx(z:α)(x:Option (α×Int×Int))(v:α)(n e:Int):Prop:=match x with
 | some r=>r=(v,n,e)
 | none=>v=z/\e≠0
end
def PD(ts:List Tok):QR Ts:=qp (dm ts) .S ts
def Ko(ts:List Tok):QR Pr:=i6 (dm ts) ts
def nU(l:Bs):Option (Ts×Int×Int):=wX zT cy PD l
def zPr:Pr:=⟨⟨#[]⟩,false,false,zT,zT⟩
def m8(l:Bs):Option (Pr×Int×Int):=wX zPr cm Ko l
section
variable {α β : Type}
end
def ir(N:Int):Nat->List Pr->List Tok->QR (List Pr)
 | _,l,[]=>.ok l []
 | 0,_,_::_=>.out
 | n+1,l,t::r=>(i6 N (t::r)).bind fun p r1=>ir N n (l++[p]) r1
def se(ts:List Tok):QR (List Pr):=ir (dm ts) ts.length [] ts
def iv:List ByteArray->List Pr->Int
 | _,[]=>0
 | known,p::l=>if inB p.name known=true then 8 else if cm p=0 then iv (p.name::known) l else cm p
def xW(l:Bs):Option (List Pr×Int×Int):=wX [] (iv []) se l
theorem A7{t:Tok}{r r':List Tok}(h:Sq (t::r) r'):∃t' r1,r'=t'::r1:=by
 cases r' with
 | nil=>have:=h.len;simp at this
 | cons t' r1=>exact⟨t',r1,rfl⟩
theorem wO{N N':Int}:∀(n:Nat) (l:List Pr) (r r':List Tok),Sq r r'->SR (ir N n l r) (ir N' n l r')
 | 0,l,[],r',h=>by rw[rC h];exact⟨rfl,Sq.refl _⟩
 | n+1,l,[],r',h=>by rw[rC h];exact⟨rfl,Sq.refl _⟩
 | 0,l,t::r,r',h=>by obtain⟨t',r1,rfl⟩:=A7 h;trivial
 | n+1,l,t::r,r',h=>by
  obtain⟨t',r1,rfl⟩:=A7 h;exact ei (A2 h) fun p a b hab=>wO n (l++[p]) a b hab
theorem BI(p:Pr):∃t r,vH p=t::r:=⟨_,_,rfl⟩
theorem pH{N:Int}:∀(l x:List Pr) (n:Nat),(∀p,p∈l->PrV p)->l.length≤n->ir N n x ((l.map vH).flatten)=.ok (x++l) []
 | [],x,n,_,_=>by cases n<;>simp[ir]
 | p::l,x,0,_,h=>by simp at h
 | p::l,x,n+1,hp,h=>by
  have h1:=qB (N:=N) (hp p (by simp)) ((l.map vH).flatten);obtain⟨t,r,e⟩:=BI p;rw[R0,R7];rw[e,Sj]at h1 ⊢;simp only[ir,h1,QR.bind];rw[pH l (x++[p]) n (fun q hq=>hp q (by simp[hq])) (by simpa using h)];simp
def fP:List Pr->Bs
 | []=>[]
 | p::l=>eQ p++10::fP l
theorem oF:∀(l:List Pr) (p:Pr),fP (l++[p])=fP l++(eQ p++[10])
 | [],p=>rfl
 | a::l,p=>by simp only[Sj,fP,oF l p,List.append_assoc]
theorem Sq.app{a a' b b':List Tok}(h:Sq a a')(h':Sq b b'):Sq (a++b) (a'++b'):=by
 unfold Sq at *;rw[Sa,Sa,h,h']
theorem m0:∀(l:List Pr) (N:Int),(∀p,p∈l->PrV p)->∃ts,d8 N (fP l)=.ok ts/\Sq ts ((l.map vH).flatten)
 | [],N,_=>⟨[],by simp only[fP];rw[bF,dZ],rfl⟩
 | p::l,N,hp=>by
  obtain⟨ts,h1,h2⟩:=m0 l N fun q hq=>hp q (by simp[hq]);have hpv:=hp p (by simp);obtain⟨g1,g2⟩:=mc (pcP p) (N-((10::fP l).count 10:Nat)) (tI hpv);rw[xV hpv]at g1;have:=EL (eQ p).length N (eQ p) (fP l) _ (Sl _) g1;refine⟨_,by simp only[fP];rw[this,h1];rfl,?_⟩;rw[R0,R7];refine Sq.app ?_ h2;unfold Sq vH;rw[Sk];exact List.map_congr_left fun _ _=>rfl
theorem Ix{l:List Pr}:l.length≤((l.map vH).flatten).length:=by
 induction l with
 | nil=>simp
 | cons p l ih=>
  obtain⟨t,r,e⟩:=BI p;rw[R0,R7,e];simp only[Sf,Se];omega
theorem zg{l:List Pr}{ts:List Tok}(hp:∀p,p∈l->PrV p)(ht:dP (fP l)=.ok ts):se ts=.ok l []:=by
 obtain⟨ts',h1,h2⟩:=m0 l (1+((fP l).count 10:Nat)) hp
 have e:ts=ts':=by have:dP (fP l)=.ok ts':=h1
                   rw[ht]at this;cases this;rfl
 subst e;have h3:=pH (N:=dm ts) l [] ts.length hp (by rw[h2.len];exact Ix);obtain⟨b,h4,h5⟩:=(wO (N':=dm ts) ts.length [] _ _ h2.symm).ok_left h3;unfold se;rw[h4,rC h5];rfl
theorem FK{l:List Pr}(hp:∀p,p∈l->PrV p):∃ts,dP (fP l)=.ok ts:=by
 obtain⟨ts,h1,-⟩:=m0 l (1+((fP l).count 10:Nat)) hp;exact⟨ts,h1⟩
theorem wT:∀(l:List Pr) (known:List ByteArray),(∀p,p∈l->cm p=0)->(l.map (·.name)).Nodup->(∀p,p∈l->p.name∉known)->iv known l=0
 | [],_,_,_,_=>rfl
 | p::l,known,hv,hn,hk=>by
  rw[R0,List.nodup_cons]at hn;unfold iv;rw[if_neg (by rw[gn];exact hk p (by simp)),if_pos (hv p (by simp))];refine wT l _ (fun q hq=>hv q (by simp[hq])) hn.2 fun q hq=>?_;rw[List.mem_cons];rintro(e|e)
  .exact hn.1 (List.mem_map.2 ⟨q,hq,e⟩)
  .exact hk q (by simp[hq]) e
theorem CV{s:Ts}(h:cy s=0):nU (d6 s)=if 16384<(d6 s).length then some (zT,0,2)else some (s,0,0):=by
 obtain⟨ts,h1,h2⟩:=xu (cR h);exact vt h1 (GI (cR h) h1) h
theorem zd{p:Pr}(h:cm p=0):m8 (eQ p)=if 16384<(eQ p).length then some (zPr,0,2)else some (p,0,0):=by
 obtain⟨ts,h1,h2⟩:=ux (oq h);exact vt h1 (CF (oq h) h1) h
theorem EA{l:List Pr}(hv:∀p,p∈l->cm p=0)(hn:(l.map (·.name)).Nodup):xW (fP l)=if 16384<(fP l).length then some ([],0,2)else some (l,0,0):=by
 obtain⟨ts,h1⟩:=FK fun p hp=>oq (hv p hp);exact vt h1 (zg (fun p hp=>oq (hv p hp)) h1) (wT l [] hv hn fun _ _=>by simp)
end Go.Proofs.YthekkgfmagliiaaGreatDoor
namespace Go.Proofs.YthekkgfmagliiaaGreatDoor
open Go.RowKit
open Nat renaming reduceLeDiff -> jA, reduceBEq -> jB, reduceLT -> jC, reduceEqDiff -> jD, reduceAdd -> jE, reduceSub -> jF, reduceMul -> jG
open V renaming copy -> jV, lend -> jW, lend1 -> jX, cells -> jY, boxable -> jZ
section
variable {H : Type} {enc : TypeId × Value -> H} {P : Program} {W : World} {base : Nat} {spare : Nat -> Bool} {held : Bool} {fuel : Nat} {t : TypeId} {cs : List Value} {x : DataW H × List MemPlace}
theorem kH{e:TypeId}{k:Nat}(hu:P.underlying t=some (.slice e))(hk:P.cellsOf e=k)(hk0:0<k){α:Type}[Inhabited α](dr:α->List D)(hdr:∀a,(dr a).length=k)(Q:α->DataW H->Prop)
 (h:DataW.trod enc P W base spare held fuel t cs=some x)(he:∀n,n<fuel->∀cs' y,DataW.trod enc P W base spare held n e cs'=some y->∃a,iA (mem W) (dr a) cs'/\Q a y.1):
 ∃(l:List α) (v:Value),cs=[v]/\DRep (mem W) (.sl (l.map dr)) v/\((x.1=.nil/\l=[])\/∃elems rest:List (DataW H),x.1=.slice elems rest/\elems.length=l.length/\∀i (h:i<l.length) (h':i<elems.length),Q l[i] elems[i]):=by
 rcases DataW.trod_slice hu h with⟨rfl,hx⟩|⟨ad,len,cap,elems,rest,n',hn',rfl,hx,hb,hl,hm,hlen2,hel,-,-⟩
 .exact⟨[],_,rfl,DRep.nil _,.inl ⟨by rw[hx],rfl⟩⟩
 .have hsp:0<len->ad.spot=none:=by
   intro hi;have h1:=hel 0 hi;rw[hk,RY (by omega)]at h1;obtain⟨cs',hc,ht⟩:=Option.bind_eq_some_iff.1 h1;obtain⟨-,hcl,hcc⟩:=World.cells?_some hc;have h2:=hcc 0 hk0;rw[RY (by omega)]at h2;have h3:=uP h2;simpa[Addr.add]using h3
  have hall:∀i,i<len->∃q:α×List Value,ad.spot=none/\(∀j,j<k->mem W ad.block (ad.off+i*k+j)=some (q.2[j]?.getD .nilIface))/\q.2.length=k/\iA (mem W) (dr q.1) q.2/\∀y,elems[i]? = some y->Q q.1 y.1:=by
   intro i hi;have h1:=hel i hi;rw[hk,RY (by omega)]at h1;obtain⟨cs',hc,ht⟩:=Option.bind_eq_some_iff.1 h1;obtain⟨a,ha,hq⟩:=he n' (by omega) cs' _ ht;obtain⟨-,hcl,hcc⟩:=World.cells?_some hc;have hs0:=hsp (by omega);refine⟨(a,cs'),hs0,fun j hj=>?_,hcl,ha,fun y hy=>by rw[RY (by omega)]at hy;cases hy;exact hq⟩;have h2:=hcc j hj;rw[RY (by omega)]at h2
   have ha:(ad.add (i*k)).add j=⟨ad.block,ad.off+i*k+j,none⟩:=by
    cases ad;simp only at hs0;subst hs0;unfold Addr.add;by_cases h1:i*k=0
    .by_cases h2:j=0
     .subst h2;simp[h1]
     .simp[h1,h2]
    .by_cases h2:j=0
     .subst h2;simp[h1]
     .simp[h1,h2]
   rw[ha]at h2;show mem W _ _=some (cs'[j]?.getD .nilIface);rw[RY (by omega),Sn];exact h2
  obtain⟨f,hfx⟩:=Go.Deep.choose_lt hall;refine⟨(Sd len).map fun i=>(f i).1,_,rfl,?_,.inr ⟨_,_,by rw[hx],by simp[hlen2],fun i h1 h2=>?_⟩⟩
  .have hlen:(((Sd len).map fun i=>(f i).1).map dr).length=len:=by simp
   generalize hrs:((Sd len).map fun i=>(f i).1).map dr=rows at hlen;have hri:∀i (h:i<rows.length),rows[i]=dr (f i).1:=fun i h=>by subst hrs;simp
   subst hlen;refine .sl rows k (some ad) cap (fun i j=>(f i).2[j]?.getD .nilIface) (fun r hr=>?_) (fun i j hi hj=>?_) (fun i hi=>?_) hl hm
   .obtain⟨i,hi,rfl⟩:=List.getElem_of_mem hr;rw[hri i hi];exact hdr _
   .obtain⟨k1,k2,k3,k4,-⟩:=hfx i hi;have hjk:j<k:=by rw[hri i hi,hdr]at hj;exact hj
    simp only[hri i hi];rw[RY (by omega:j<(f i).2.length),Sn];exact k4.2 j (by rw[hdr];exact hjk) (by omega)
   .obtain⟨k1,k2,k3,k4,-⟩:=hfx i hi;exact⟨ad.block,ad.off,by cases ad;simp_all,fun j hj=>k2 j hj⟩
  .have hi:i<len:=by simpa using h1
   obtain⟨-,-,-,-,hq⟩:=hfx i hi;simp only[Si,List.getElem_range];exact hq _ (RY (by omega))
end
end Go.Proofs.YthekkgfmagliiaaGreatDoor
namespace Go.Proofs.YthekkgfmagliiaaGreatDoor
open Go.RowKit
open Nat renaming reduceLeDiff -> jA, reduceBEq -> jB, reduceLT -> jC, reduceEqDiff -> jD, reduceAdd -> jE, reduceSub -> jF, reduceMul -> jG
open V renaming copy -> jV, lend -> jW, lend1 -> jX, cells -> jY, boxable -> jZ
def m4:List ByteArray:=aS.map bs
theorem Kk{σ:LLV}{ρ:ah}{rs:List RV}{v:V}{l:LLV}(hb:aj σ.length σ=true)(h:aU (σ++l) ρ rs=some v)(hv:V.under σ.length v=true):fin σ.length rs (az v σ) .ret ρ (σ++l):=
 ao hb h hv RZ ⟨rfl,rfl⟩
theorem zl(l:Bs)(σ:LLV):Fun G 49 [.d (ae (bs l))] σ (az (.d (.lit (.bool (bt (bs l))))) σ):=
 nH Tryz.func49 (by kernel_rfl) (by kernel_rfl) trivial fun M bm pr w v hG hM h1=>by
  have hs:(bs l).size≤9223372036854775807:=by
   cases h1 with|d h=>cases h with|lit _ hf=>exact hf
  cases eM h1;exact gO (bs l) w hs (qr hG.1 hM)
theorem EC(l:List ByteArray)(s:ByteArray)(hl:l.length≤1000000)(σ:LLV):Fun G 157 [.d (dA l),.d (ae s)] σ fun o σ'=>∃i:Int,o=.ret (.d (ab i))/\σ'=σ/\decide (0≤i)=inB s l:=by
 refine ai Tryz.func157 RB rfl fun hb hw=>?_;unfold OT;simp -dsimp only[aw,jV,jW,jX,jY,jZ,jA,reduceIte,reduceCtorEq,jB,jC,jD,jE,jF,jG,dA];refine aY [0,1,7,8] (R:=fun(j:Nat) ρ σ'=>ρ=[(0,.d (.sl (l.map fun s=>[ae s]))),(1,.d (ae s)),(7,aI .i64 l.length),(8,aI .i64 j)]/\σ'=σ/\inB s l=inB s (l.drop j)) l.length ⟨rfl,rfl,rfl⟩ ?_ _;rintro j ρ' σ' hj ⟨rfl,rfl,hr⟩;by_cases hlt:j<l.length
 .have hd:inB s (l.drop j)=(decide (l[j]=s)||inB s (l.drop (j+1))):=by rw[List.drop_eq_getElem_cons hlt];rfl
  by_cases he:l[j]=s
  .simp -dsimp only[aw,jV,jW,jX,jY,jZ,jA,reduceIte,reduceCtorEq,jB,jC,jD,jE,jF,jG,RX,hlt,decide_true,RY hlt,decide_eq_true he.symm];rw[hd,decide_eq_true he]at hr;exact ao hb rfl rfl R8 ⟨j,rfl,rfl,by rw[hr,decide_eq_true (by omega)];rfl⟩
  .simp -dsimp only[aw,jV,jW,jX,jY,jZ,jA,reduceIte,reduceCtorEq,jB,jC,jD,jE,jF,jG,RX,hlt,decide_true,RY hlt,decide_eq_false (Ne.symm he),bl hlt (show l.length≤9223372036854775807 by omega)];rw[hd,decide_eq_false he,Bool.false_or]at hr;exact Nxt.same (Sl _) hb rfl ⟨rfl,rfl,hr⟩
 .simp -dsimp only[aw,jV,jW,jX,jY,jZ,jA,reduceIte,reduceCtorEq,jB,jC,jD,jE,jF,jG,RX,hlt,decide_false];rw[List.drop_eq_nil_of_le (by omega)]at hr;exact ao hb rfl rfl R8 ⟨-1,rfl,rfl,by rw[hr];rfl⟩
theorem vQ(l:List ByteArray)(s:ByteArray)(hl:l.length≤1000000)(σ:LLV):Fun G 121 [.d (dA l),.d (ae s)] σ (az (.d (.lit (.bool (inB s l)))) σ):=by
 refine ai Tryz.func121 QA rfl fun hb hw=>?_;unfold Py;simp -dsimp only[aw,jV,jW,jX,jY,jZ,jA,reduceIte,reduceCtorEq,jB,jC,jD,jE,jF,jG];refine aW (EC l s hl _) fun o σ' ⟨i,h1,h2,h3⟩=>?_;subst h1;subst h2;simp -dsimp only[aw,jV,jW,jX,jY,jZ,jA,reduceIte,reduceCtorEq,jB,jC,jD,jE,jF,jG,bg,h3];first|exact aA hb rfl rfl|exact aB hb rfl rfl
theorem I0(l:Bs):inB (bs l) m4=aS.contains l:=by
 unfold inB m4;rw[List.any_map,List.contains_eq_any_beq];congr 1;funext x;rw[RU];simp only[Function.comp,decide_eq_true_eq,sa,beq_iff_eq];exact eq_comm
theorem y8(l:Bs)(σ:LLV):Fun G 256 [.d (ae (bs l))] σ (az (.d (.lit (.bool (aS.contains l)))) σ):=by
 refine ai Tryz.func256 Rl rfl fun hb hw=>?_;unfold Nx;have hg:∀ρ,ev G ρ (.g 1)=.row [.sl (aS.map fun s=>[.lit (.string (bs s))])] 0:=fun _=>rfl;simp -dsimp only[aw,jV,jW,jX,jY,jZ,jA,reduceIte,reduceCtorEq,jB,jC,jD,jE,jF,jG,hg];refine ac (vQ m4 (bs l) (by decide) _) ?_;rw[I0];simp -dsimp only[aw,jV,jW,jX,jY,jZ,jA,reduceIte,reduceCtorEq,jB,jC,jD,jE,jF,jG];first|exact aA hb rfl rfl|exact aB hb rfl rfl
theorem BV:∀(k u:Nat),u<10^(k+1)->(Lib.decDigits u).length≤k+1
 | 0,u,h=>by rw[Lib.decDigits,dif_pos (by simpa using h)];exact Sl _
 | k+1,u,h=>by
  rw[Lib.decDigits];split
  .simp
  .rw[Se];have:=BV k (u/10) (by rw[Nat.pow_succ]at h;omega);simp;omega
theorem Ib(n:Int)(h0:0≤n)(h1:n≤2147483647):(Lib.itoa n).length≤10:=by
 unfold Lib.itoa;rw[if_neg (by omega)];exact BV 9 _ (by omega)
def fy(t:Tok):V:=.agg [.d (ab t.kind),.d (ab t.num),.d (ae t.text),.d (ab t.line)]
theorem Gk(n:Int)(l:Bs)(ln:Int)(h0:0≤n):bC ⟨3,n,bs l,ln⟩=(decide (n≤2147483647)&&decide (bs l=bs (Lib.itoa n))):=by
 have e:Lib.itoa n=Lib.decDigits n.toNat:=by unfold Lib.itoa;rw[if_neg (by omega)]
 unfold bC;rw[if_pos rfl,e,cq,Hn,decide_eq_true h0,RS];show(decide (n≤2147483647)&&(l==Lib.decDigits n.toNat))=_;congr 1;rw[RU];simp
theorem EQ(n:Int)(l:Bs)(ln:Int)(h0:¬0≤n):bC ⟨3,n,bs l,ln⟩=false:=by
 unfold bC;rw[if_pos rfl,decide_eq_false h0];rfl
theorem Mk(n:Int)(l:Bs)(ln:Int):bC ⟨1,n,bs l,ln⟩=(decide (n=0)&&bt (bs l)):=rfl
theorem MJ(n:Int)(l:Bs)(ln:Int):bC ⟨2,n,bs l,ln⟩=(decide (n=0)&&inB (bs l) dn):=rfl
theorem NC(n:Int)(l:Bs)(ln:Int):bC ⟨4,n,bs l,ln⟩=(decide (n=0)&&aS.contains l):=by
 unfold bC;rw[if_neg (by show ¬(4:Int)=3;decide),if_neg (by show ¬(4:Int)=1;decide),if_neg (by show ¬(4:Int)=2;decide),if_pos rfl,cq]
theorem Ob(k n:Int)(l:Bs)(ln:Int)(h1:¬k=1)(h2:¬k=2)(h3:¬k=3)(h4:¬k=4):bC ⟨k,n,bs l,ln⟩=false:=by
 unfold bC;rw[if_neg h3,if_neg h1,if_neg h2,if_neg h4]
theorem uS(k n:Int)(l:Bs)(ln:Int)(σ:LLV):Fun G 255 [fy ⟨k,n,bs l,ln⟩] σ (az (.d (.lit (.bool (bC ⟨k,n,bs l,ln⟩)))) σ):=by
 unfold fy;refine ai Tryz.func255 Qz rfl fun hb hw=>?_;have hn:=Lh (B2 (hw 0 (by simp)) 1 (by simp));unfold OJ;by_cases h3:k=3
 .subst h3;by_cases h0:0≤n
  .rw[Gk n l ln h0];by_cases hm:n≤2147483647
   .simp -dsimp only[aw,jV,jW,jX,jY,jZ,jA,reduceIte,reduceCtorEq,jB,jC,jD,jE,jF,jG,RW,decide_true,decide_false,decide_eq_true h0,decide_eq_true hm];refine aN (qL n (by omega) (by omega) (by have:=Ib n h0 hm;unfold maxLen;omega) _) ?_;simp -dsimp only[aw,jV,jW,jX,jY,jZ,jA,reduceIte,reduceCtorEq,jB,jC,jD,jE,jF,jG,Hn];rw[decide_eq_true hm,RS];exact ao hb rfl rfl RZ ⟨rfl,rfl⟩
   .simp -dsimp only[aw,jV,jW,jX,jY,jZ,jA,reduceIte,reduceCtorEq,jB,jC,jD,jE,jF,jG,RW,decide_true,decide_false,decide_eq_true h0,decide_eq_false hm];exact ao hb rfl rfl RZ ⟨rfl,rfl⟩
  .rw[EQ n l ln h0];simp -dsimp only[aw,jV,jW,jX,jY,jZ,jA,reduceIte,reduceCtorEq,jB,jC,jD,jE,jF,jG,RW,decide_true,decide_false,decide_eq_false h0];exact ao hb rfl rfl RZ ⟨rfl,rfl⟩
 by_cases h1:k=1
 .subst h1;rw[Mk];by_cases hz:n=0
  .simp -dsimp only[aw,jV,jW,jX,jY,jZ,jA,reduceIte,reduceCtorEq,jB,jC,jD,jE,jF,jG,RW,decide_true,decide_false,decide_eq_true hz];refine ac (zl l _) ?_;simp -dsimp only[aw,jV,jW,jX,jY,jZ,jA,reduceIte,reduceCtorEq,jB,jC,jD,jE,jF,jG];rw[decide_eq_true hz,RS];exact ao hb rfl rfl RZ ⟨rfl,rfl⟩
  .simp -dsimp only[aw,jV,jW,jX,jY,jZ,jA,reduceIte,reduceCtorEq,jB,jC,jD,jE,jF,jG,RW,decide_true,decide_false,decide_eq_false hz];exact ao hb rfl rfl RZ ⟨rfl,rfl⟩
 by_cases h2:k=2
 .subst h2;rw[MJ];by_cases hz:n=0
  .simp -dsimp only[aw,jV,jW,jX,jY,jZ,jA,reduceIte,reduceCtorEq,jB,jC,jD,jE,jF,jG,RW,decide_true,decide_false,decide_eq_true hz];refine ac (wP l _) ?_;simp -dsimp only[aw,jV,jW,jX,jY,jZ,jA,reduceIte,reduceCtorEq,jB,jC,jD,jE,jF,jG];rw[decide_eq_true hz,RS];exact ao hb rfl rfl RZ ⟨rfl,rfl⟩
  .simp -dsimp only[aw,jV,jW,jX,jY,jZ,jA,reduceIte,reduceCtorEq,jB,jC,jD,jE,jF,jG,RW,decide_true,decide_false,decide_eq_false hz];exact ao hb rfl rfl RZ ⟨rfl,rfl⟩
 by_cases h4:k=4
 .subst h4;rw[NC];by_cases hz:n=0
  .simp -dsimp only[aw,jV,jW,jX,jY,jZ,jA,reduceIte,reduceCtorEq,jB,jC,jD,jE,jF,jG,RW,decide_true,decide_false,decide_eq_true hz];refine ac (y8 l _) ?_;simp -dsimp only[aw,jV,jW,jX,jY,jZ,jA,reduceIte,reduceCtorEq,jB,jC,jD,jE,jF,jG];rw[decide_eq_true hz,RS];exact ao hb rfl rfl RZ ⟨rfl,rfl⟩
  .simp -dsimp only[aw,jV,jW,jX,jY,jZ,jA,reduceIte,reduceCtorEq,jB,jC,jD,jE,jF,jG,RW,decide_true,decide_false,decide_eq_false hz];exact ao hb rfl rfl RZ ⟨rfl,rfl⟩
 rw[Ob k n l ln h1 h2 h3 h4];simp -dsimp only[aw,jV,jW,jX,jY,jZ,jA,reduceIte,reduceCtorEq,jB,jC,jD,jE,jF,jG,decide_eq_false h1,decide_eq_false h2,decide_eq_false h3,decide_eq_false h4];exact ao hb rfl rfl RZ ⟨rfl,rfl⟩
theorem pA{P:Program}{W:World}{n:String}{d:DataW Unit}:∀{l:List (String×DataW Unit)} {ps:List MemPlace},DataW.LaidVars P W l ps->(n,d)∈l->
 ∃g t cs fuel p,P.globalNamed n=some g/\(P.globals[g]?).map (·.type)=some t/\W.var? P n=some cs/\DataW.trod (fun _=>()) P W 0 (fun _=>true) false fuel t cs.toList=some (d,p)
 | [],_,_,h=>by cases h
 | (n',d')::r,ps,hv,h=>by
  obtain⟨g,t,cs,fuel,p,q,h1,h2,h3,h4,h5,-⟩:=hv;rcases List.mem_cons.1 h with h|h
  .cases h;exact⟨g,t,cs,fuel,p,h1,h2,h3,h4⟩
  .exact pA h5 h
theorem nF{W:World}{n:String}{g:Nat}{l:List ByteArray}{d:DataW Unit}(hg:Tryz.prog.globalNamed n=some g)(ht:(Tryz.prog.globals[g]?).map (·.type)=some 92)(hd:d=.slice (l.map fun s=>.lit (.string s.data.toList)) [])(hl:0<l.length)
 {cs:Array Value}{fuel:Nat}{p:List MemPlace}(hvar:W.var? Tryz.prog n=some cs)(hr:DataW.trod (fun _=>()) Tryz.prog W 0 (fun _=>true) false fuel 92 cs.toList=some (d,p)):∃v,W.cell? ⟨g,0,none⟩=some v/\dR W l v:=by
 subst hd;rcases DataW.trod_slice Tryz.underlying92 hr with⟨-,hx⟩|⟨ad,len,cap,elems,rest,n',hn',g3,hx,hb,hl',hm,hlen2,hel,-,-⟩
 .simp at hx
 .simp only[Prod.mk.injEq,DataW.slice.injEq]at hx;obtain⟨⟨hx1,-⟩,-⟩:=hx;have hlen:len=l.length:=by have h9:=congrArg List.length hx1;rw[Sb,Sb]at h9;rw[<-hlen2,h9]
  have hc0:=World.var?_cell hg hvar 0;have hv:cs.toList[0]? = some (.slice (some ad) len cap):=by rw[g3];rfl
  refine⟨.slice (some ad) len cap,by rw[hc0];simpa using hv,?_⟩
  have hcell:∀i (hi:i<len),∃s:ByteArray,W.cell? (ad.add i)=some (.string s)/\l[i]? = some s:=by
   intro i hi;have h1:=hel i hi;rw[show Tryz.prog.cellsOf 9=1 by kernel_rfl,Nat.mul_one,RY (by omega)]at h1;obtain⟨cs',hc,ht⟩:=Option.bind_eq_some_iff.1 h1;obtain⟨-,hcl,hcc⟩:=World.cells?_some hc;obtain⟨s,rfl,hs,-⟩:=DataW.trod_string Tryz.underlying9 ht;have h2:=hcc 0 (by omega);refine⟨s,by simpa[Addr.add]using h2,?_⟩;have h3:=congrArg (·[i]?) hx1;simp only[List.getElem?_map,RY (show i<elems.length by omega),Option.map_some,hs]at h3;rw[Option.map_eq_some_iff]at h3;obtain⟨s',h4,h5⟩:=h3;rw[h4];simp only[DataW.lit.injEq,Lit.string.injEq]at h5;congr 1;cases s';cases s;simp at h5;simp[h5]
  have hsp:ad.spot=none:=by
   obtain⟨s,h1,-⟩:=hcell 0 (by rw[hlen];exact hl);have:=CR h1;simpa[Addr.add]using this
  rw[hlen];refine⟨some ad,cap,rfl,by omega,hm,fun i s hi=>⟨ad.block,ad.off,by cases ad;simp_all,?_⟩⟩;obtain⟨s',h1,h2⟩:=hcell i (by rw[hlen];exact(List.getElem?_eq_some_iff.1 hi).1);rw[hi]at h2;cases h2
  have ha:ad.add i=⟨ad.block,ad.off+i,none⟩:=by
   cases ad;simp only at hsp;subst hsp;unfold Addr.add;by_cases h:i=0
   .subst h;simp
   .simp[h]
  rw[ha]at h1;exact h1
theorem zv{w:World}{l:List ByteArray}{v:Value}(h:dR w l v)(hs:∀s,s∈l->s.size≤maxLen):DRep (mem w) (dA l) v:=by
 obtain⟨p,cap,rfl,h4,h5,h6⟩:=h;have hlen:l.length=(l.map fun s=>[ae s]).length:=by simp
 unfold dA;rw[hlen];refine .sl _ 1 p cap (fun i _=>.string (l[i]?.getD ⟨#[]⟩)) (fun r hr=>?_) (fun i j hi hj=>?_) (fun i hi=>?_) (by omega) h5
 .obtain⟨s,-,rfl⟩:=List.mem_map.1 hr;rfl
 .have hi':i<l.length:=by simpa using hi
  have hj0:j=0:=by simpa using hj
  subst hj0;simp only[Si,Sc,RY hi',Sn];exact .lit _ (hs _ (List.getElem_mem hi'))
 .have hi':i<l.length:=by simpa using hi
  obtain⟨b,off,h7,h8⟩:=h6 i _ (RY hi');refine⟨b,off,h7,fun j hj=>?_⟩;have hj0:j=0:=by omega
  subst hj0;simp only[RY hi',Sn];simpa[mem]using h8
def vw:List (String×DataW Unit):=[("math/bits.deBruijn32tab",Rows.laid_math_bits_deBruijn32tab),("math/bits.deBruijn64tab",Rows.laid_math_bits_deBruijn64tab),("internal/strconv.uint64pow10",Rows.laid_internal_strconv_uint64pow10),("strconv.ErrRange",Rows.laid_strconv_ErrRange),("strconv.ErrSyntax",Rows.laid_strconv_ErrSyntax),("testbench/lexer.keywords",Rows.laid_testbench_lexer_keywords),("testbench/lexer.marks",Rows.laid_testbench_lexer_marks)]
theorem Mi{w:World}(h:laidMet Tryz.prog vw w):G.glob (mem w) (fun b=>b<w.heap.size) w:=by
 obtain⟨ps,hv,-,hpl⟩:=h;have at':=fun n d=>@pA Tryz.prog w n d vw ps hv;refine⟨fun g cs hg=>?_,fun g p hg=>?_⟩
 .change (if g=0 then some [dA dn]else if g=1 then some [.sl (aS.map fun s=>[.lit (.string (bs s))])]else none)=some cs at hg
  have fin:∀(l:List ByteArray),(∃v,w.cell? ⟨g,0,none⟩=some v/\dR w l v)->(∀s,s∈l->s.size≤maxLen)->cs=[dA l]->∃val:Nat->Value,(∀j,j<cs.length->mem w g j=some (val j))/\∀j (h:j<cs.length),DRep (mem w) cs[j] (val j):=by
   rintro l ⟨v,h1,h2⟩ hs rfl;refine⟨fun _=>v,fun j hj=>?_,fun j hj=>?_⟩
   .have hj0:j=0:=by simpa using hj
    subst hj0;exact h1
   .have hj0:j=0:=by simpa using hj
    subst hj0;exact zv h2 hs
  split at hg
  .rename_i e;subst e;obtain⟨g',t,vs,fuel,p,h1,h2,h3,h4⟩:=at' "testbench/lexer.keywords" Rows.laid_testbench_lexer_keywords (by simp[vw]);obtain rfl:=Option.some.inj ((show Tryz.prog.globalNamed "testbench/lexer.keywords" = some 0 by kernel_rfl).symm.trans h1);obtain rfl:=Option.some.inj ((show(Tryz.prog.globals[0]?).map (·.type)=some 92 by kernel_rfl).symm.trans h2);exact fin dn (nF h1 h2 (show Rows.laid_testbench_lexer_keywords (H:=Unit)=.slice (dn.map fun s=>.lit (.string s.data.toList)) []by kernel_rfl) (by decide) h3 h4) (by decide +kernel) (by simpa using hg.symm)
  .split at hg
   .rename_i e;subst e;obtain⟨g',t,vs,fuel,p,h1,h2,h3,h4⟩:=at' "testbench/lexer.marks" Rows.laid_testbench_lexer_marks (by simp[vw]);obtain rfl:=Option.some.inj ((show Tryz.prog.globalNamed "testbench/lexer.marks" = some 1 by kernel_rfl).symm.trans h1);obtain rfl:=Option.some.inj ((show(Tryz.prog.globals[1]?).map (·.type)=some 92 by kernel_rfl).symm.trans h2);exact fin m4 (nF h1 h2 (show Rows.laid_testbench_lexer_marks (H:=Unit)=.slice (m4.map fun s=>.lit (.string s.data.toList)) []by kernel_rfl) (by decide) h3 h4) (by decide +kernel) (by have:=Option.some.inj hg;rw[<-this];unfold dA m4;rw[Sk];rfl)
   .cases hg
 .have block:∀{n:String} {g:Nat} {cs:Array Value},Tryz.prog.globalNamed n=some g->w.var? Tryz.prog n=some cs->g<w.heap.size/\∃T z,w.heap[g]? = some (.cells cs T z):=by
   intro n g cs h1 h2;unfold World.var? at h2;rw[h1,Option.bind_some]at h2;split at h2
   .rename_i cs' T z hh;cases h2;exact⟨(Array.getElem?_eq_some_iff.1 hh).1,T,z,hh⟩
   .cases h2
  change (if g=3 then some (fun cs=>cs=(Lib.pow10Tab.map fun z=>Value.int .u64 z).toArray)else if g=5 then some (fun cs=>∃t x,cs[0]? = some (.iface t x))else none)=some p at hg;split at hg
  .rename_i e;subst e;cases hg;obtain⟨g',t,vs,fuel,p,h1,h2,h3,h4⟩:=at' "internal/strconv.uint64pow10" Rows.laid_internal_strconv_uint64pow10 (by simp[vw]);obtain rfl:=Option.some.inj ((show Tryz.prog.globalNamed "internal/strconv.uint64pow10" = some 3 by kernel_rfl).symm.trans h1);obtain rfl:=Option.some.inj ((show(Tryz.prog.globals[3]?).map (·.type)=some 189 by kernel_rfl).symm.trans h2);obtain⟨k1,T,z,k2⟩:=block h1 h3;refine⟨k1,vs,T,z,k2,?_⟩;have e:Rows.laid_internal_strconv_uint64pow10 (H:=Unit)=Lib.tabData .u64 Lib.pow10Tab:=by kernel_rfl
   rw[e]at h4;have:=Lib.cells_of_tab (n:=20) Tryz.underlying189 Tryz.underlying171 (by kernel_rfl) (by kernel_rfl) h4;rw[<-this]
  .split at hg
   .rename_i e;subst e;cases hg;obtain⟨g',t,vs,fuel,p,h1,h2,h3,h4⟩:=at' "strconv.ErrRange" Rows.laid_strconv_ErrRange (by simp[vw]);obtain rfl:=Option.some.inj ((show Tryz.prog.globalNamed "strconv.ErrRange" = some 5 by kernel_rfl).symm.trans h1);obtain rfl:=Option.some.inj ((show(Tryz.prog.globals[5]?).map (·.type)=some 126 by kernel_rfl).symm.trans h2);obtain⟨k1,T,z,k2⟩:=block h1 h3;refine⟨k1,vs,T,z,k2,?_⟩;cases fuel with
    | zero=>simp[DataW.trod]at h4
    | succ fuel=>
     obtain⟨ms,hms⟩:∃ms,Tryz.prog.underlying 126=some (.interface ms):=⟨_,Tryz.underlying126⟩
     unfold DataW.trod at h4;rw[hms]at h4
     have hl:∃a,vs.toList=[a]/\∃t x,a=.iface t x:=by
      split at h4<;>simp_all[Rows.laid_strconv_ErrRange]
     obtain⟨a,ha,t,x,rfl⟩:=hl;exact⟨t,x,by rw[<-Array.getElem?_toList,ha];rfl⟩
   .cases hg
theorem sW{f:FuncId}{args:List V}{vs:List Value}{u:Value}{w:World}(hk:laidMet Tryz.prog vw w)(h:Fun G f args [] (az (.d (.lit u)) []))(hl:vs.length=args.length)
 (hr:∀i (h:i<args.length) (h':i<vs.length),Rep (mem w) [] args[i] vs[i]):Calls Tryz.prog f vs.toArray w fun e w'=>e=.returned u/\Ext w w':=by
 refine(h.2 _ _ _ _ _ _ (Mi hk) (CC w) (fun _=>rfl) hl hr).mono fun e w' ⟨M',bm',tk',σ',o,⟨h1,h2⟩,h3,h4,h5⟩=>?_;subst h1;obtain⟨v,h6,h7,-⟩:=h5.1 _ rfl;cases h7 with
 | d h7=>
 cases h7 with
 | lit _ _=>exact⟨h6,h4.os,h4.tape,h4.output,h4.size,fun b hb=>h4.keep b hb⟩
end Go.Proofs.YthekkgfmagliiaaGreatDoor
namespace Go.Proofs.YthekkgfmagliiaaGreatDoor
open Go.ChangeShapes Go.WideShapes Go.RowKit
theorem Tryz.own:ownKnob Tryz.prog.godebug=none:=by kernel_rfl
theorem Tryz.laidOut:laidOutB Tryz.prog=true:=by kernel_rfl
def iW(w:World)(g:Nat)(cs:Array Value):World:=
 {w with heap:=w.heap.modify g fun
   | .cells _ t frozen=>.cells cs t frozen
   | o=>o}
noncomputable def o0(os:Os):World:=
 let w0:=World.holding Tryz.prog os ⟨#[],#[],[]⟩;let n:=w0.heap.size;let w1:=(((w0.alloc (.cells (dn.map Value.string).toArray 9)).alloc (.cells (m4.map Value.string).toArray 9)).alloc (.cells #[.string ⟨#[118,97,108,117,101,32,111,117,116,32,111,102,32,114,97,110,103,101]⟩] 212)).alloc (.cells #[.string ⟨#[105,110,118,97,108,105,100,32,115,121,110,116,97,120]⟩] 212);let w2:=iW w1 0 #[.slice (some ⟨n,0,none⟩) 24 24];let w3:=iW w2 1 #[.slice (some ⟨n+1,0,none⟩) 36 36];let w4:=iW w3 5 #[.iface 210 (.pointer (some ⟨n+2,0,none⟩))];let w5:=iW w4 4 #[.iface 210 (.pointer (some ⟨n+3,0,none⟩))];let w6:=iW w5 3 (Lib.pow10Tab.map fun z=>Value.int .u64 z).toArray;let w7:=iW w6 6 (([0,1,28,2,29,14,24,3,30,22,20,15,25,17,4,8,31,27,13,23,21,19,16,7,26,12,18,6,11,5,10,9]:List Int).map fun z=>Value.int .u8 z).toArray
 iW w7 7 (([0,1,56,2,57,49,28,3,61,58,42,50,38,29,17,4,62,47,59,36,45,43,51,22,53,39,33,30,24,18,12,5,63,55,48,27,60,41,37,16,46,35,44,21,52,32,23,11,54,26,40,15,34,20,31,10,25,14,19,9,13,8,7,6]:List Int).map fun z=>Value.int .u8 z).toArray
theorem s9(os:Os)(args:Array Value):laidMet Tryz.prog vw ((o0 os).forCall (fun _ _=>0) ⟨#[],args,[]⟩).memory:=
 laidMet_of_run' 8 (by kernel_rfl) (by kernel_rfl)
theorem Ext.below{w w':World}(h:Ext w w'):Below w.heap.size w w':=⟨h.os,h.tape,h.output,h.size,h.block⟩
theorem sG{H:Type}{enc:TypeId×Value->H}{w:World}{t:TypeId}{v:Value}{d:DataW H}{p:List MemPlace}{base:Nat}{spare:Nat->Bool}{held:Bool}(h:DataW.Trod enc Tryz.prog w base spare held t v d p):∀x∈p,x.block<w.heap.size:=by
 obtain⟨m,hm⟩:=h;exact DataW.trod_lt m _ _ _ hm
section
variable {H : Type} {enc : TypeId × Value -> H} {w : World} {v : Value} {d : DataW H} {p : List MemPlace} {base : Nat} {spare : Nat -> Bool} {held : Bool}
instance:Inhabited Tok:=⟨⟨0,0,⟨#[]⟩,0⟩⟩
end
end Go.Proofs.YthekkgfmagliiaaGreatDoor
namespace Go.Proofs.YthekkgfmagliiaaGreatDoor
open Go.ChangeShapes Go.WideShapes Go.ChangeAt Go.RowKit
instance:Inhabited Ex:=⟨.mk 0 0 ⟨#[]⟩ []⟩
instance:Inhabited Ts:=⟨.mk 0 0 0 (.mk 0 0 ⟨#[]⟩ []) ⟨#[]⟩ []⟩
instance:Inhabited Pr:=⟨zPr⟩
def yR:Array Value := #[.int .i64 0,.int .i64 0,.int .i64 0,.int .i64 0,.int .i64 0,.string ⟨#[]⟩,.slice none 0 0,.string ⟨#[]⟩,.slice none 0 0]
theorem jc{H:Type}(d:DataW H):1≤Rows.uptoBulk d:=by
 cases d with
 | lit l=>cases l<;>simp[Rows.uptoBulk]
 | nil=>simp[Rows.uptoBulk]
 | ptr d=>simp[Rows.uptoBulk]
 | slice elems spare=>simp[Rows.uptoBulk]
 | agg parts=>simp[Rows.uptoBulk]
 | iface t d=>simp[Rows.uptoBulk]
 | map entries=>simp[Rows.uptoBulk]
 | held h=>simp[Rows.uptoBulk]
theorem vX{H:Type}{α:Type}(g:α->Nat):∀(l:List α) (es:List (DataW H)),es.length=l.length->(∀i (h:i<l.length) (h':i<es.length),5*g l[i]≤Rows.uptoBulk es[i])->5*(l.map g).sum≤Rows.uptoBulkAll es
 | [],es,_,_=>by simp
 | a::r,e::es,hl,h=>by
  have h1:=h 0 (by simp) (by simp);have h2:=vX g r es (by simpa using hl) (fun i g1 g2=>h (i+1) (by simpa using g1) (by simpa using g2));simp only[Sc]at h1;simp only[R0,R5,Rows.uptoBulkAll];omega
theorem m7{H:Type}{α:Type}(g:α->Nat){l:List α}{d:DataW H}(h:(d=.nil/\l=[])\/∃elems rest:List (DataW H),d=.slice elems rest/\elems.length=l.length/\∀i (h:i<l.length) (h':i<elems.length),5*g l[i]≤Rows.uptoBulk elems[i]):5*(l.map g).sum+1≤Rows.uptoBulk d:=by
 rcases h with⟨rfl,rfl⟩|⟨es,rest,rfl,h1,h2⟩
 .simp[Rows.uptoBulk]
 .have:=vX g l es h1 h2;simp only[Rows.uptoBulk];omega
theorem zJ(l:List Ex):ba l=(l.map aT).sum:=by
 induction l with
 | nil=>rfl
 | cons a r ih=>simp only[ba,ih,R0,R5]
theorem Cz(l:List Ts):cj l=(l.map bd).sum:=by
 induction l with
 | nil=>rfl
 | cons a r ih=>simp only[cj,ih,R0,R5]
section
variable {H : Type} {enc : TypeId × Value -> H} {w : World} {v : Value} {d : DataW H} {p : List MemPlace} {base : Nat} {spare : Nat -> Bool} {held : Bool}
theorem Ht:∀(n:Nat) {cs:List Value} {y:DataW H×List MemPlace},DataW.trod enc Tryz.prog w base spare held n 24 cs=some y->∃e:Ex,iA (mem w) (dex e) cs/\5*aT e≤Rows.uptoBulk y.1:=by
 intro n
 induction n using Sm with
 | _ n ih=>
 intro cs y h;obtain⟨xs,m,rfl,rfl,hlen,hxs,hf⟩:=DataW.trod_struct Tryz.underlying24 h;rw[show Tryz.prog.cellsOf 24=4 by kernel_rfl]at hlen
 match cs,hlen with
 | [a,b,c,e],_=>
  have hx2:xs.length=4:=hxs
  match xs,hx2 with
  | [x0,x1,x2,x3],_=>
  have f0:DataW.trod enc Tryz.prog w base spare held m 3 [a]=some x0:=hf 0 _ rfl;have f1:DataW.trod enc Tryz.prog w base spare held m 3 [b]=some x1:=hf 1 _ rfl;have f2:DataW.trod enc Tryz.prog w base spare held m 9 [c]=some x2:=hf 2 _ rfl;have f3:DataW.trod enc Tryz.prog w base spare held m 22 [e]=some x3:=hf 3 _ rfl;obtain⟨o,g0,k0⟩:=j6 Tryz.underlying3 f0;obtain⟨q,g1,k1⟩:=j6 Tryz.underlying3 f1;obtain⟨s,g2,k2⟩:=oJ Tryz.underlying9 f2;obtain⟨l,v',g3,k3,hb⟩:=kH (k:=4) Tryz.underlying22 (by kernel_rfl) (by decide) dex (fun a=>by rw[bq];rfl) (fun e d=>5*aT e≤Rows.uptoBulk d) f3 (fun n' hn cs' y hy=>ih n' (by omega) hy);cases g0;cases g1;cases g2;cases g3;refine⟨.mk o q s l,by rw[bq];exact .cons (.lit _ k0) (.cons (.lit _ k1) (.cons (.lit _ k2) (.cons k3 .nil))),?_⟩;have hb':=m7 aT hb;have b0:=jc x0.1;have b1:=jc x1.1
  have b2:=jc x2.1;simp only[aT,zJ,R0,R6,Rows.uptoBulk,Rows.uptoBulkAll];omega
theorem qT:∀(n:Nat) {cs:List Value} {y:DataW H×List MemPlace},DataW.trod enc Tryz.prog w base spare held n 27 cs=some y->∃s:Ts,iA (mem w) (dts s) cs/\5*bd s≤Rows.uptoBulk y.1:=by
 intro n
 induction n using Sm with
 | _ n ih=>
 intro cs y h;obtain⟨xs,m,rfl,rfl,hlen,hxs,hf⟩:=DataW.trod_struct Tryz.underlying27 h;rw[show Tryz.prog.cellsOf 27=9 by kernel_rfl]at hlen
 match cs,hlen with
 | [a,b,c,e0,e1,e2,e3,nm,ar],_=>
  have hx2:xs.length=6:=hxs
  match xs,hx2 with
  | [x0,x1,x2,x3,x4,x5],_=>
  have f0:DataW.trod enc Tryz.prog w base spare held m 3 [a]=some x0:=hf 0 _ rfl;have f1:DataW.trod enc Tryz.prog w base spare held m 3 [b]=some x1:=hf 1 _ rfl;have f2:DataW.trod enc Tryz.prog w base spare held m 3 [c]=some x2:=hf 2 _ rfl
  have f3:DataW.trod enc Tryz.prog w base spare held m 24 [e0,e1,e2,e3]=some x3:=by
   have:=hf 3 _ rfl;change DataW.trod enc Tryz.prog w base spare held m 24 (([a,b,c,e0,e1,e2,e3,nm,ar].drop 3).take (Tryz.prog.cellsOf 24))=some x3 at this;rw[show Tryz.prog.cellsOf 24=4 by kernel_rfl]at this;exact this
  have f4:DataW.trod enc Tryz.prog w base spare held m 9 [nm]=some x4:=hf 4 _ rfl;have f5:DataW.trod enc Tryz.prog w base spare held m 25 [ar]=some x5:=hf 5 _ rfl;obtain⟨o,g0,k0⟩:=j6 Tryz.underlying3 f0;obtain⟨lo,g1,k1⟩:=j6 Tryz.underlying3 f1;obtain⟨hi,g2,k2⟩:=j6 Tryz.underlying3 f2;obtain⟨e,k3,h3⟩:=Ht m f3;obtain⟨s,g4,k4⟩:=oJ Tryz.underlying9 f4;obtain⟨l,v',g5,k5,hb⟩:=kH (k:=9) Tryz.underlying25 (by kernel_rfl) (by decide) dts lJ (fun e d=>5*bd e≤Rows.uptoBulk d) f5 (fun n' hn cs' y hy=>ih n' (by omega) hy);cases g0;cases g1;cases g2;cases g4;cases g5;refine⟨.mk o lo hi e s l,?_,?_⟩
  .rw[bw];rw[bq]at k3;exact .cons (.lit _ k0) (.cons (.lit _ k1) (.cons (.lit _ k2) (k3.append (.cons (.lit _ k4) (.cons k5 .nil)))))
  .have hb':=m7 bd hb;have b0:=jc x0.1;have b1:=jc x1.1;have b2:=jc x2.1;have b4:=jc x4.1;rw[gm];simp only[Ts.ex,Ts.args,Cz,R0,R6,Rows.uptoBulk,Rows.uptoBulkAll];omega
theorem Jx(h:DataW.Trod enc Tryz.prog w base spare held 27 v d p)(hv:Value.okWide Tryz.prog w .any base 27 v):∃s:Ts,Rep (mem w) [] (vts s) v/\5*bd s≤Rows.uptoBulk d:=by
 obtain⟨fuel,hf⟩:=h;obtain⟨s,h1,h2⟩:=qT fuel hf;obtain⟨cs,rfl,-⟩:=okWide_struct Tryz.underlying27 hv;have h3:=h1.rep (bm:=[]);exact⟨s,by simpa[vts,Value.cells]using h3,h2⟩
theorem Hm(n:Nat){cs:List Value}{y:DataW H×List MemPlace}(h:DataW.trod enc Tryz.prog w base spare held n 29 cs=some y):∃p:Pr,iA (mem w) (dpr p) cs/\5*(bd p.cond+bd p.then_)≤Rows.uptoBulk y.1:=by
 obtain⟨xs,m,rfl,rfl,hlen,hxs,hf⟩:=DataW.trod_struct Tryz.underlying29 h;rw[show Tryz.prog.cellsOf 29=21 by kernel_rfl]at hlen
 match cs,hlen with
 | [a,b,c,e0,e1,e2,e3,e4,e5,e6,e7,e8,g0,g1,g2,g3,g4,g5,g6,g7,g8],_=>
  have hx2:xs.length=5:=hxs
  match xs,hx2 with
  | [x0,x1,x2,x3,x4],_=>
  have f0:DataW.trod enc Tryz.prog w base spare held m 9 [a]=some x0:=hf 0 _ rfl;have f1:DataW.trod enc Tryz.prog w base spare held m 4 [b]=some x1:=hf 1 _ rfl;have f2:DataW.trod enc Tryz.prog w base spare held m 4 [c]=some x2:=hf 2 _ rfl
  have f3:DataW.trod enc Tryz.prog w base spare held m 27 [e0,e1,e2,e3,e4,e5,e6,e7,e8]=some x3:=by
   have:=hf 3 _ rfl;change DataW.trod enc Tryz.prog w base spare held m 27 (([a,b,c,e0,e1,e2,e3,e4,e5,e6,e7,e8,g0,g1,g2,g3,g4,g5,g6,g7,g8].drop 3).take (Tryz.prog.cellsOf 27))=some x3 at this;rw[show Tryz.prog.cellsOf 27=9 by kernel_rfl]at this;exact this
  have f4:DataW.trod enc Tryz.prog w base spare held m 27 [g0,g1,g2,g3,g4,g5,g6,g7,g8]=some x4:=by
   have:=hf 4 _ rfl;change DataW.trod enc Tryz.prog w base spare held m 27 (([a,b,c,e0,e1,e2,e3,e4,e5,e6,e7,e8,g0,g1,g2,g3,g4,g5,g6,g7,g8].drop 12).take (Tryz.prog.cellsOf 27))=some x4 at this;rw[show Tryz.prog.cellsOf 27=9 by kernel_rfl]at this;exact this
  obtain⟨s,q0,k0⟩:=oJ Tryz.underlying9 f0;obtain⟨b1,q1⟩:=ro Tryz.underlying4 f1;obtain⟨b2,q2⟩:=ro Tryz.underlying4 f2;obtain⟨t1,k3,h3⟩:=qT m f3;obtain⟨t2,k4,h4⟩:=qT m f4;cases q0;cases q1;cases q2;refine⟨⟨s,b1,b2,t1,t2⟩,.cons (.lit _ k0) (.cons (.lit _ trivial) (.cons (.lit _ trivial) (k3.append k4))),?_⟩;simp only[R0,R6,Rows.uptoBulk,Rows.uptoBulkAll];omega
theorem F0(h:DataW.Trod enc Tryz.prog w base spare held 48 v d p)(hv:Value.okWide Tryz.prog w .any base 48 v):∃l:List Pr,Rep (mem w) [] (V.d (.sl (l.map dpr))) v/\(∀c,c∈l->5*(bd c.cond+bd c.then_)≤Rows.uptoBulk d)/\5*l.length≤Rows.uptoBulk d:=by
 obtain⟨a,len,cap,rfl⟩:=okWide_slice Tryz.underlying48 hv;obtain⟨fuel,hf⟩:=h;obtain⟨l,v',h1,h2,hb⟩:=kH (cs:=[.slice a len cap]) (k:=21) Tryz.underlying48 (by kernel_rfl) (by decide) dpr (fun p=>by unfold dpr;simp[lJ]) (fun c d=>5*(bd c.cond+bd c.then_)≤Rows.uptoBulk d) hf (fun n _ cs' y hy=>Hm n hy);cases h1;have b1:=m7 (fun c:Pr=>bd c.cond+bd c.then_) (d:=d) (l:=l) hb
 have key:∀(l:List Pr),l.length≤(l.map fun c=>bd c.cond+bd c.then_).sum/\∀c,c∈l->bd c.cond+bd c.then_≤(l.map fun c=>bd c.cond+bd c.then_).sum:=by
  intro l
  induction l with
  | nil=>exact⟨by simp,fun c hc=>by cases hc⟩
  | cons x r ih=>
   rw[R0,R5];have:=gm x.cond;refine⟨by rw[Sf];omega,fun c hc=>?_⟩;rcases List.mem_cons.1 hc with rfl|hc
   .omega
   .have:=ih.2 c hc;omega
 obtain⟨k1,k2⟩:=key l;exact⟨l,.d h2,fun c hc=>by have:=k2 c hc;omega,by omega⟩
end
end Go.Proofs.YthekkgfmagliiaaGreatDoor
