import Derived.Test.YthoebpnbhgmoiaaGreatDoorIt7
import Derived.Test.YthoebpnbhgmoiaaGreatDoorItv
import Derived.Shelf.SlicesE.Clone
import Derived.Shelf.SlicesG.Clone
import Derived.Test.YthoebpnbhgmoiaaGreatDoorChecked
import Derived.Test.YthoebpnbhgmoiaaGreatDoorBrief
set_option linter.unusedVariables false
set_option linter.unusedSimpArgs false
set_option linter.unusedSectionVars false
open Bool renaming and_eq_true→JH
open List renaming length_append→JI,length_cons→JJ,length_map→JK,mem_cons_of_mem→JL,getElem_of_mem→JM,mem_cons_self→JO,nodup_cons→JP,length_nil→JQ,map_cons→JR
open Nat renaming le_refl→JS
namespace Go.Proofs.YthoebpnbhgmoiaaGreatDoor
open Go.RowKit
theorem pL{a b:ByteArray}{i j:Nat}(hi:i<8)(hj:j<8)(h:aB a i=aB b j):a=b∧i=j:=by
 have h1:=congrArg (fun s:ByteArray=>s.data.toList) h;simp only[aB]at h1;have h2:=List.append_inj' h1 rfl;refine⟨ByteArray.ext (Array.toList_inj.1 h2.1),?_⟩;have h3:=h2.2;simp only[List.cons.injEq,and_true,true_and]at h3;have h4:=congrArg UInt8.toNat h3;rw[show(48+i).toUInt8.toNat=(48+i)%256 from rfl,show(48+j).toUInt8.toNat=(48+j)%256 from rfl]at h4;omega
theorem xj{ops:List Int}{P Q:ByteArray→Prop}(h:∀s,P s→Q s)(e:Ex):eM ops P e→eM ops Q e:=by
 induction e using Ex.ind with
 | h o n s l ih=>
 rw[dP,dP];exact fun⟨h1,h2⟩=>⟨fun ho=>h _ (h1 ho),fun a ha=>ih a ha (h2 a ha)⟩
section
variable (spl : ByteArray → Option (ByteArray × Int)) (fs : List (ByteArray × Int))
structure EnvV(env:List Sig):Prop where
 var:∀s,ef spl fs s=0→(bK env s).isSome=true
 el:∀a (k:Nat),(k:Int)<bJ fs a→(bK env (aB a k)).isSome=true
 out:∀a (k:Nat),1≤bJ fs a→bH a=true→bJ fs a≤k→k<8→bK env (aB a k)=none
theorem CA{s:ByteArray}(h:dN fs s=0):1≤bJ fs s:=by
 unfold dN at h;unfold bJ;split at h
 ·cases h
 ·rename_i n hn;rw[hn];split at h
  ·cases h
  ·show 1≤n;omega
theorem EnvV.ok{env:List Sig}(h:EnvV spl fs env):EnvOk spl fs [] env:=
 ⟨h.var,fun s hs=>h.el s 0 (by have:=CA fs hs;omega),fun s hs=>by cases hs⟩
theorem nx(hf:∀s,bJ fs s≤8)(e:Ex):ed e=0→dB spl fs [] e=0→SOk fs e:=by
 induction e using Ex.ind with
 | h o n s l ih=>
 intro he hc;rw[jp]at hc;obtain⟨h1,h2⟩:=fE he;obtain⟨k1,k2,k3,k4,k5,k6,k7,k8⟩:=kK h1;have hc0:=hc (.mk o n s l) (by rw[bj];exact JO ..);unfold cj at hc0
 have hlen:∀m:Int,o≠23→eI o=m→(l.length:Int)=m:=fun m h23 hm=>by
  unfold cY at k4;rw[if_neg h23]at k4;rw[of_decide_eq_true k4,hm]
 rw[SOk];refine⟨fun ho=>⟨?_,hf s,k6 ho⟩,fun ho=>?_,fun ho=>?_,fun ho=>?_,fun ho h0=>?_,(ci fs).2 fun a ha=>ih a ha (fg h2 a ha) ((jp _ _ _ _).2 fun m hm=>hc m (by rw[bj];exact JL _ (dV.2 ⟨a,ha,hm⟩)))⟩
 ·rw[if_neg (show ¬(Ex.mk o n s l).op=2 from by show ¬o=2;omega),if_pos (show(Ex.mk o n s l).op=3∨(Ex.mk o n s l).op=24 from ho)]at hc0;exact CA fs hc0
 ·have:=hlen 1 (by omega) (by subst ho;decide)
  match l,this with
  | [a],_=>exact⟨a,rfl⟩
 ·have:(l.length:Int)=0:=by
   rcases ho with ho|ho
   ·exact hlen 0 (by omega) (by subst ho;decide)
   ·exact hlen 0 (by omega) (by subst ho;decide)
  match l,this with
  | [],_=>rfl
 ·have:=k8 (by subst ho;decide);have h9:(s.toList==(⟨#[]⟩:ByteArray).toList)=true:=by rw[this];decide +kernel
  rw[gO]at h9;simpa using h9
 ·have:=k5 ho;rw[h0]at this
  revert this
  decide
theorem qo(env:List Sig)(a:ByteArray)(k:Nat):cJ env (elE a k)=(bK env (aB a k)).getD 0:=by
 unfold elE;rw[cJ];rfl
theorem As(env:List Sig)(a:ByteArray):∀k,cJ env (eH a k)=fZ env a (k+1):=by
 intro k
 induction k with
 | zero=>
  rw[eH,qo,fZ,fZ];have:=qR env (aB a 0);omega
 | succ k ih=>
  rw[eH,cJ,dv,dv,dv,ih,qo,fZ];rfl
theorem vO{env:List Sig}{a:ByteArray}{n:Nat}(h:∀k:Nat,n≤k→k<8→bK env (aB a k)=none):∀k,n≤k→k≤8→fZ env a k=fZ env a n:=by
 intro k
 induction k with
 | zero=>intro h0 _;rw[show n=0 by omega]
 | succ k ih=>
  intro h1 h2;by_cases hk:n=k+1
  ·rw[hk]
  ·rw[fZ,h k (by omega) (by omega),ih (by omega) (by omega)];have:=nR env a n;unfold Wd at this;simp only[Option.getD_none];omega
theorem Bl(env:List Sig)(a:ByteArray)(n:Nat)(i:Ex):∀m,m≤n→cJ env (chX a n i m)=if((n-m:Nat):Int)≤cJ env i∧cJ env i<n then(bK env (aB a (cJ env i).toNat)).getD 0 else 0:=by
 intro m
 induction m with
 | zero=>
  intro _;rw[chX,gw,if_neg (by omega)]
 | succ m ih=>
  intro hm
  have e1:cJ env (chX a n i (m+1))=if b2i (cJ env i==((n-(m+1):Nat):Int))=0 then cJ env (chX a n i m)else cJ env (elE a (n-(m+1))):=by
   rw[chX,cJ,dv,dv,dv,dv,cJ,dv,dv,dv,gw];simp[gz,kz,fv]
  rw[e1,ih (by omega),qo];by_cases h:cJ env i=((n-(m+1):Nat):Int)
  ·have hb:(cJ env i==((n-(m+1):Nat):Int))=true:=by simpa using h
   rw[hb,if_neg (by decide),if_pos (by omega),h];rfl
  ·have hb:(cJ env i==((n-(m+1):Nat):Int))=false:=by simpa using h
   rw[hb,if_pos (show b2i false=0 from rfl)];by_cases h2:((n-m:Nat):Int)≤cJ env i∧cJ env i<n
   ·rw[if_pos h2,if_pos (by omega)]
   ·rw[if_neg h2,if_neg (by omega)]
theorem yN{env:List Sig}(h:EnvV spl fs env){a:ByteArray}(h1:1≤bJ fs a)(h8:bJ fs a≤8)(ha:bH a=true){i:Ex}(hw:Wd (cJ env i))(hc:i.op=1→∃c,i=aU c):cJ env (dX fs a i)=(atS env a (cJ env i)).getD 0:=by
 have hn:=db fs h1
 have hout:∀v:Int,bJ fs a≤v→(atS env a v).getD 0=0:=fun v hv=>by
  unfold atS;split
  ·rename_i h2;rw[h.out a v.toNat h1 ha (by omega) (by omega)];rfl
  ·rfl
 unfold Wd at hw;unfold dX;by_cases ho:i.op=1
 ·obtain⟨c,rfl⟩:=hc ho;rw[gw]at hw;rw[if_pos ho,gw];show cJ env (if c<bJ fs a then elE a c.toNat else aU 0)=_;split
  ·rw[qo];unfold atS;rw[if_pos (by omega)]
  ·rw[gw,hout c (by omega)]
 ·rw[if_neg ho,Bl _ _ _ _ _ (JS _)];by_cases hv:cJ env i<bJ fs a
  ·rw[if_pos (by omega)];unfold atS;rw[if_pos (by omega)]
  ·rw[if_neg (by omega),hout _ (by omega)]
theorem CO{env:List Sig}(h:EnvV spl fs env)(e:Ex):ed e=0→SOk fs e→cJ env (scE fs e)=cJ env e:=by
 induction e using Ex.ind with
 | h o n s l ih=>
 intro he hS;obtain⟨hn,hl⟩:=fE he;rw[SOk]at hS;obtain⟨h1,h2,h3,h4,h5,h6⟩:=hS;rw[scE];by_cases o24:o=24
 ·obtain⟨g1,g2,g3⟩:=h1 (.inr o24);have hN:=db fs g1;rw[if_pos o24,As,cJ];have:gz env o n s (dv env l)=fZ env s 8:=by unfold gz;rw[if_neg (by omega),if_neg (by omega),if_neg (by omega),if_pos o24]
  rw[this,show bZ fs s-1+1=bZ fs s by omega];exact(vO (fun k hk hk'=>h.out s k g1 g3 (by omega) hk') 8 (by omega) (JS _)).symm
 ·rw[if_neg o24];by_cases o3:o=3
  ·obtain⟨g1,g2,g3⟩:=h1 (.inl o3);obtain⟨a,rfl⟩:=h2 o3;rw[lS]at h6;have ea:=fg hl a (by simp);have iha:=ih a (by simp) ea h6.1;rw[if_pos o3,scL];show cJ env (dX fs s (scE fs a))=_;rw[yN spl fs h g1 g2 g3 (by rw[iha];exact uq env a ea) fun ho=>?_,iha,cJ,dv,dv]
   ·unfold gz;rw[if_neg (by omega),if_neg (by omega),if_pos o3]
   ·obtain⟨c1,c2⟩:=nh fs a h6.1;cases hc:dZ fs a with
    | none=>exact absurd ho (c2 hc)
    | some i=>exact⟨i,c1 i hc⟩
  ·rw[if_neg o3,cJ,cJ]
   have:∀r:List Ex,(∀a,a∈r→a∈l)→dv env (scL fs r)=dv env r:=by
    intro r
    induction r with
    | nil=>intro _;rw[scL]
    | cons a r ihr=>
     intro hm;rw[scL,dv,dv,ih a (hm a (by simp)) (fg hl a (hm a (by simp))) ((ci fs).1 h6 a (hm a (by simp))),ihr fun x hx=>hm x (by simp[hx])]
   rw[this l fun _ h=>h]
theorem kO(e:Ex):ed e=0→∀n,n∈bj e→n.op=1→0≤n.num:=by
 induction e using Ex.ind with
 | h o m s l ih=>
 intro he n hn ho;obtain⟨h1,h2⟩:=fE he;rw[bj]at hn;rcases List.mem_cons.1 hn with rfl|hn
 ·exact((kK h1).2.2.1 ho).1
 ·obtain⟨a,ha,hn⟩:=dV.1 hn;exact ih a ha (fg h2 a ha) n hn ho
def be(e:Ex):Ex×Int:=if aX e≠0 then(cI,aX e)else if dB spl fs [] e≠0 then(cI,dB spl fs [] e)else if aX (scE fs e)≠0 then(cI,2)else(scE fs e,0)
theorem gU{e:Ex}(h:aX e=0):aA e≤400∧bM e≤24:=by
 unfold aX at h;split at h
 ·cases h
 ·rename_i hn;have:¬(24<bM e∨400<aA e):=fun hh=>hn ⟨h,hh⟩;omega
theorem nD{e:Ex}(hf:∀s,bJ fs s≤8)(hv:aX e=0)(hc:dB spl fs [] e=0)(hb:400<psE fs e∨50000≤rwE fs e):be spl fs e=(cI,2):=by
 have hS:=nx spl fs hf e (cw hv) hc;have h1:=EU fs e hS;have h2:=EZ fs e hS;have h3:=j9 fs e hS;have h4:aX (scE fs e)≠0:=fun h=>by have:=(gU h).1;omega
 unfold be;rw[if_neg (by simpa using hv),if_neg (by simpa using hc),if_pos h4]
theorem og{e:Ex}(hf:∀s,bJ fs s≤8)(h0:(be spl fs e).2=0):eC [3,24] (be spl fs e).1=[]:=by
 unfold be at h0 ⊢;by_cases hv:aX e≠0
 ·rw[if_pos hv]at h0;exact absurd h0 hv
 ·rw[if_neg hv]at h0 ⊢;by_cases hc:dB spl fs [] e≠0
  ·rw[if_pos hc]at h0;exact absurd h0 hc
  ·rw[if_neg hc]at h0 ⊢;by_cases hs:aX (scE fs e)≠0
   ·rw[if_pos hs]at h0;cases h0
   ·rw[if_neg hs];have hv:aX e=0:=by simpa using hv
    have hc:dB spl fs [] e=0:=by simpa using hc
    have hS:=nx spl fs hf e (cw hv) hc;have h2:=(np fs (fun _=>True) (fun _ _ _=>trivial) e hS (jA _ _ _ fun _ _ _=>trivial) (kO e (cw hv))).2;have h3:=(kV [3,24] (fun _=>False) (scE fs e)).2 h2;exact List.eq_nil_iff_forall_not_mem.2 h3
theorem ql{e:Ex}{env:List Sig}(h:EnvV spl fs env)(hf:∀s,bJ fs s≤8)(h0:(be spl fs e).2=0):ii e env=(cJ env e,0)∧ii (be spl fs e).1 env=(cJ env e,0):=by
 unfold be at h0 ⊢;by_cases hv:aX e≠0
 ·rw[if_pos hv]at h0;exact absurd h0 hv
 ·rw[if_neg hv]at h0 ⊢;by_cases hc:dB spl fs [] e≠0
  ·rw[if_pos hc]at h0;exact absurd h0 hc
  ·rw[if_neg hc]at h0 ⊢;by_cases hs:aX (scE fs e)≠0
   ·rw[if_pos hs]at h0;cases h0
   ·rw[if_neg hs];have hv:aX e=0:=by simpa using hv
    have hc:dB spl fs [] e=0:=by simpa using hc
    have hs:aX (scE fs e)=0:=by simpa using hs
    have hS:=nx spl fs hf e (cw hv) hc;have hk:=zf spl fs h.ok hc;have hk':=(iW env e).1 hk;obtain⟨h2,h3⟩:=np fs (fun s=>(bK env s).isSome=true) h.el e hS hk'.1 (kO e (cw hv));have hk2:jw env (scE fs e)=true:=(iW _ _).2 ⟨h2,xj (fun _ hf=>hf.elim) _ h3⟩;refine⟨?_,?_⟩
    ·unfold ii;rw[if_pos hv,if_pos hk]
    ·unfold ii;show(if aX (scE fs e)=0 then(if jw env (scE fs e)=true then(cJ env (scE fs e),0)else(0,7))else(0,1))=_;rw[if_pos hs,if_pos hk2,CO spl fs h e (cw hv) hS]
end
def eq(fs:List (ByteArray×Int)):List ByteArray:=fs.flatMap fun f=>if 0<f.2 then(List.range f.2.toNat).map (aB f.1)else[f.1]
def fj:List ByteArray→List Int→Nat→List Sig
 | [],_,_=>[]
 | s::r,v,i=>⟨s,v.getD i 0⟩::fj r v (i+1)
theorem kQ(l:List ByteArray)(v:List Int)(s:ByteArray):∀i,(bK (fj l v i) s).isSome=true↔s∈l:=by
 induction l with
 | nil=>intro i;simp[fj,bK]
 | cons a r ih=>
  intro i;rw[fj,List.mem_cons];simp only[bK];by_cases h:a=s
  ·rw[if_pos h];simp[h]
  ·rw[if_neg h,ih];exact⟨.inr,fun hh=>hh.resolve_left fun e=>h e.symm⟩
structure SmallF(fs:List (ByteArray×Int)):Prop where
 sz:∀f,f∈fs→0≤f.2∧f.2≤8∧bH f.1=true
 nd:(fs.map (·.1)).Nodup
theorem j6{fs:List (ByteArray×Int)}{s:ByteArray}{n:Int}(h:fsz fs s=some n):(s,n)∈fs:=by
 unfold fsz at h;obtain⟨f,hf,rfl⟩:=Option.map_eq_some_iff.1 h;have h1:=List.mem_of_find?_eq_some hf;have h2:f.1=s:=by simpa using List.find?_some hf
 rw[←h2];exact h1
theorem SmallF.fsz{fs:List (ByteArray×Int)}(h:SmallF fs){f:ByteArray×Int}(hf:f∈fs):fsz fs f.1=some f.2:=by
 obtain⟨-,nd⟩:=h
 induction fs with
 | nil=>cases hf
 | cons a r ih=>
  rw[JR,JP]at nd;unfold Go.Proofs.YthoebpnbhgmoiaaGreatDoor.fsz at ih ⊢;rw[List.find?_cons];rcases List.mem_cons.1 hf with rfl|hf
  ·simp
  ·have:¬a.1=f.1:=fun e=>nd.1 (by rw[e];exact List.mem_map_of_mem hf);rw[decide_eq_false this];exact ih hf nd.2
theorem SmallF.le{fs:List (ByteArray×Int)}(h:SmallF fs)(s:ByteArray):0≤bJ fs s∧bJ fs s≤8:=by
 unfold bJ;cases hs:Go.Proofs.YthoebpnbhgmoiaaGreatDoor.fsz fs s with
 | none=>simp
 | some n=>have:=h.sz _ (j6 hs);exact⟨this.1,this.2.1⟩
theorem CS{spl:ByteArray→Option (ByteArray×Int)}(hspl:∀s a k,spl s=some (a,k)→0≤k∧s=aB a k.toNat){fs:List (ByteArray×Int)}(h:SmallF fs)(v:List Int):EnvV spl fs (fj (eq fs) v 0):=by
 have hel:∀a (k:Nat),(k:Int)<bJ fs a→aB a k∈eq fs:=fun a k hk=>by
  unfold bJ at hk;cases hs:fsz fs a with
  | none=>rw[hs]at hk;simp at hk;omega
  | some n=>
   rw[hs]at hk;have hk:(k:Int)<n:=hk;refine List.mem_flatMap.2 ⟨(a,n),j6 hs,?_⟩;rw[if_pos (by show 0<n;omega)];exact List.mem_map.2 ⟨k,List.mem_range.2 (by show k<n.toNat;omega),rfl⟩
 refine⟨fun s hs=>(kQ _ _ _ _).2 ?_,fun a k hk=>(kQ _ _ _ _).2 (hel a k hk),fun a k h1 ha hk hk8=>?_⟩
 ·unfold ef at hs;split at hs
  ·rename_i n hn;split at hs
   ·cases hs
   ·rename_i h0;refine List.mem_flatMap.2 ⟨(s,n),j6 hn,?_⟩;rw[if_neg h0];exact List.mem_singleton.2 rfl
  ·split at hs
   ·cases hs
   ·rename_i a k hsp;obtain⟨e1,e2⟩:=hspl _ _ _ hsp;split at hs
    ·cases hs
    ·rename_i n hn;split at hs
     ·cases hs
     ·split at hs
      ·cases hs
      ·rw[e2];refine hel a _ ?_;unfold bJ;rw[hn];show((k.toNat:Nat):Int)<n;omega
 ·cases hf:bK (fj (eq fs) v 0) (aB a k)with
  | none=>rfl
  | some x=>
   exfalso;have hm:=(kQ (eq fs) v (aB a k) 0).1 (by rw[hf];rfl);obtain⟨f,hf1,hf2⟩:=List.mem_flatMap.1 hm;have hs:=h.sz f hf1;split at hf2
   ·obtain⟨j,hj,he⟩:=List.mem_map.1 hf2;have hj:=List.mem_range.1 hj;obtain⟨e1,e2⟩:=pL (by omega) hk8 he;have:=h.fsz hf1;rw[e1]at this;unfold bJ at hk;rw[this]at hk;have hk:f.2≤k:=hk;omega
   ·exact xX hs.2.2 a k (List.mem_singleton.1 hf2).symm
end Go.Proofs.YthoebpnbhgmoiaaGreatDoor
namespace Go.Proofs.YthoebpnbhgmoiaaGreatDoor
open Go.RowKit
theorem ut(spl:ByteArray→Option (ByteArray×Int))(fs:List (ByteArray×Int)):∀(l:List It) (d d':Nat) (bd:List ByteArray),wkE (dY spl fs) l d bd=wkE (dY spl fs) l d' bd:=by
 refine cL (fun d d' bd=>rfl) fun x r h1 h2 h3 d d' bd=>?_;have e0:dY spl fs x d bd=dY spl fs x d' bd:=rfl;rw[jJ,jJ,h1 (dep x d) (dep x d'),h2 (dep x d) (dep x d'),h3 d d',e0]
theorem gV(e:Ex):(bj e).length=aA e:=by
 induction e using Ex.ind with
 | h o n s l ih=>
 rw[bj,aA,JJ]
 have:∀r:List Ex,(∀a,a∈r→a∈l)→(bT r).length=aG r:=by
  intro r
  induction r with
  | nil=>intro _;rfl
  | cons a r ihr=>
   intro h;rw[bT,aG,JI,ih a (h a (JO ..)),ihr fun x hx=>h x (JL _ hx)]
 rw[this l fun _ h=>h]
theorem ua(bd:List ByteArray)(l:List Ex):(l.flatMap (aV bd)).length≤l.length:=by
 induction l with
 | nil=>exact JS _
 | cons a r ih=>
  rw[List.flatMap_cons,JI,JJ];have:(aV bd a).length≤1:=by unfold aV;split<;>simp
  omega
theorem zB(x:It)(bd:List ByteArray):(cy x bd).length≤1+aA x.ex+x.bef.length+x.aft.length:=by
 unfold cy;split
 ·have h1:=ua bd (bj x.ex);have h2:=gV x.ex;omega
 ·split
  ·simp;omega
  ·split
   ·rw[JI];omega
   ·simp
theorem mQ:∀(l:List It) (bd:List ByteArray),(ff l bd).length≤bu l:=by
 refine cL (fun bd=>JS _) fun x r h1 h2 h3 bd=>?_;rw[i8,JI,JI,JI,bu,bI];have:=zB x bd;have:=h1 (bnd x bd);have:=h2 bd;have:=h3 bd;omega
def gr(x:It):Bool:=decide (cnt x.ex 60≤60)&&decide (x.ws.length≤20)&&decide (x.bef.length≤20)&&decide (x.aft.length≤20)&&decide (x.name.size≤40)&&decide (x.idx.size≤40)
mutual
def cnL:List It→Int→Int→Int
 | [],k,_=>k
 | x::r,k,n=>if n<k then k else if gr x=false then n+1 else cnL r (k+cnX x (n-k)) n
def cnX:It→Int→Int
 | .mk _ _ _ _ _ l m _ _,n=>cnL l l.length n+cnL m m.length n
end
theorem iG(x:It)(n:Int):cnX x n=cnL x.items x.items.length n+cnL x.els x.els.length n:=by cases x;rw[cnX];rfl
theorem jC:∀(l:List It) (k n:Int),0≤k→k≤cnL l k n:=by
 refine cL (fun k n _=>by rw[cnL];exact Int.le_refl _) fun x r h1 h2 h3 k n hk=>?_;rw[cnL];split
 ·exact Int.le_refl _
 ·split
  ·omega
  ·have e1:=h1 x.items.length (n-k) (by omega);have e2:=h2 x.els.length (n-k) (by omega);have e3:=h3 (k+cnX x (n-k)) n (by rw[iG];omega);rw[iG]at e3 ⊢;omega
theorem zW:∀(l:List It) (k n:Int),0≤k→n≤70→cnL l k n+l.length≤k+71+200*(bN l:Nat):=by
 refine cL (fun k n hk hn=>?_) fun x r h1 h2 h3 k n hk hn=>?_
 ·rw[cnL,bN];simp only[JQ];omega
 ·have hl:=mU (x::r);have hz:=hU x;rw[cnL,bN];rw[bN]at hl;split
  ·omega
  ·split
   ·omega
   ·have e1:=h1 x.items.length (n-k) (by omega) (by omega);have e2:=h2 x.els.length (n-k) (by omega) (by omega);have g1:=jC x.items x.items.length (n-k) (by omega);have g2:=jC x.els x.els.length (n-k) (by omega);have e3:=h3 (k+cnX x (n-k)) n (by rw[iG];omega) hn;rw[iG]at e3 ⊢;rw[JJ];omega
theorem Cp(hc:∀e:Ex,cnt e 60≤60→aA e≤60):∀(l:List It) (k n:Int),0≤k→cnL l k n≤n→(bu l:Int)≤200*(cnL l k n-k+l.length):=by
 refine cL (fun k n hk _=>?_) fun x r h1 h2 h3 k n hk h=>?_
 ·rw[cnL,bu];simp only[JQ];omega
 ·rw[cnL]at h ⊢;by_cases hnk:n<k
  ·rw[if_pos hnk]at h;omega
  ·rw[if_neg hnk]at h ⊢;by_cases ht:gr x=false
   ·rw[if_pos ht]at h;omega
   ·rw[if_neg ht]at h ⊢;have g1:=jC x.items x.items.length (n-k) (by omega);have g2:=jC x.els x.els.length (n-k) (by omega);have g3:=jC r (k+cnX x (n-k)) n (by rw[iG];omega);have e3:=h3 (k+cnX x (n-k)) n (by rw[iG];omega) h;rw[iG]at g3 e3 h ⊢;have e1:=h1 x.items.length (n-k) (by omega) (by omega);have e2:=h2 x.els.length (n-k) (by omega) (by omega);have ht:gr x=true:=by simpa using ht
    simp only[gr,JH,decide_eq_true_eq]at ht;have hx:=hc x.ex ht.1.1.1.1.1;rw[bu,bI,JJ];omega
def smL:List Fd→List Fd→Bool
 | _,[]=>true
 | p,f::r=>decide (0≤f.size)&&decide (f.size≤8)&&bH f.name&&p.all (fun g=>!decide (g.name=f.name))&&smL (p++[f]) r
def smB(c:Cl):Bool:=decide (c.fields.length≤20)&&smL [] c.fields
theorem C1:∀(r p:List Fd),smL p r=true→(∀f,f∈r→0≤f.size∧f.size≤8∧bH f.name=true)∧(r.map (·.name)).Nodup∧∀f,f∈r→∀g,g∈p→g.name≠f.name:=by
 intro r
 induction r with
 | nil=>intro p _;exact⟨fun f hf=>(by cases hf),List.nodup_nil,fun f hf=>(by cases hf)⟩
 | cons a r ih=>
  intro p h;rw[smL]at h;simp only[JH,decide_eq_true_eq,List.all_eq_true,Bool.not_eq_true',decide_eq_false_iff_not]at h;obtain⟨⟨⟨⟨h1,h2⟩,h3⟩,h4⟩,h5⟩:=h;obtain⟨i1,i2,i3⟩:=ih _ h5;refine⟨fun f hf=>?_,?_,fun f hf g hg=>?_⟩
  ·rcases List.mem_cons.1 hf with rfl|hf
   ·exact⟨h1,h2,h3⟩
   ·exact i1 f hf
  ·rw[JR,JP];refine⟨fun hm=>?_,i2⟩;obtain⟨f,hf,he⟩:=List.mem_map.1 hm;exact i3 f hf a (by simp) he.symm
  ·rcases List.mem_cons.1 hf with rfl|hf
   ·exact h4 g hg
   ·exact i3 f hf g (by simp[hg])
theorem qw{c:Cl}(h:smB c=true):c.fields.length≤20∧SmallF (au c):=by
 unfold smB at h;rw[JH,decide_eq_true_eq]at h;obtain⟨h1,h2,-⟩:=C1 _ _ h.2;refine⟨h.1,⟨fun f hf=>?_,?_⟩⟩
 ·unfold au at hf;obtain⟨g,hg,rfl⟩:=List.mem_map.1 hf;exact h1 g hg
 ·unfold au;rw[List.map_map];exact h2
end Go.Proofs.YthoebpnbhgmoiaaGreatDoor
namespace Go.Proofs.YthoebpnbhgmoiaaGreatDoor
open Go.Shelf
def Tryz.cloneSA_ren:Go.Shelf.Ren:=⟨fun|41=>68|n=>n,fun|22=>43|23=>9|4=>4|n=>n,fun|n=>n⟩
theorem Tryz.cloneSA:Go.Proofs.SlLaysE0.n41 Tryz.prog Tryz.cloneSA_ren:={
 mixed:=by kernel_rfl
 f41:=⟨Tryz.f68.name,by decide,Tryz.func68.trans (congrArg some (by kernel_rfl))⟩
 t4:=Tryz.underlying4
 a4:=Tryz.isAgg4
 z4:=Tryz.sizeOf4
 v4:=Tryz.zeroValue4
 t22:=Tryz.underlying43
 a22:=Tryz.isAgg43
 z22:=Tryz.sizeOf43
 v22:=Tryz.zeroValue43}
def Tryz.cloneZA_ren:Go.Shelf.Ren:=⟨fun|42=>68|n=>n,fun|25=>43|26=>9|4=>4|n=>n,fun|n=>n⟩
theorem Tryz.cloneZA:Go.Proofs.SlLaysN.n42 Tryz.prog Tryz.cloneZA_ren:={
 mixed:=by kernel_rfl
 f42:=⟨Tryz.f68.name,by decide,Tryz.func68.trans (congrArg some (by kernel_rfl))⟩
 t4:=Tryz.underlying4
 a4:=Tryz.isAgg4
 z4:=Tryz.sizeOf4
 v4:=Tryz.zeroValue4
 t25:=Tryz.underlying43
 a25:=Tryz.isAgg43
 z25:=Tryz.sizeOf43
 v25:=Tryz.zeroValue43
 t26:=Tryz.underlying9
 a26:=Tryz.isAgg9
 z26:=Tryz.sizeOf9
 v26:=Tryz.zeroValue9
 i26:=by kernel_rfl}
def Tryz.cloneWA_ren:Go.Shelf.Ren:=⟨fun|41=>116|n=>n,fun|22=>49|23=>117|4=>4|n=>n,fun|n=>n⟩
theorem Tryz.cloneWA:Go.Proofs.SlLaysE0.n41 Tryz.prog Tryz.cloneWA_ren:={
 mixed:=by kernel_rfl
 f41:=⟨Tryz.f116.name,by decide,Tryz.func116.trans (congrArg some (by kernel_rfl))⟩
 t4:=Tryz.underlying4
 a4:=Tryz.isAgg4
 z4:=Tryz.sizeOf4
 v4:=Tryz.zeroValue4
 t22:=Tryz.underlying49
 a22:=Tryz.isAgg49
 z22:=Tryz.sizeOf49
 v22:=Tryz.zeroValue49}
end Go.Proofs.YthoebpnbhgmoiaaGreatDoor
namespace Go.Proofs.YthoebpnbhgmoiaaGreatDoor
open Go.RowKit Go.Shelf
theorem ru{w:World}{base T k n:Nat}{v:Value}{xs:List Value}(h:w.ownsRow base T k v n xs):w.ownsRow 0 T k v n xs:=
 ⟨h.1,h.2.imp id fun⟨g,cap,cur,a,b,c⟩=>⟨g,cap,cur,a,Nat.zero_le _,c⟩⟩
theorem B5:∃i0,Tryz.prog.info? 9=some i0∧i0.zero=some (.string ⟨#[]⟩)∧i0.size=1∧i0.bytes=16:=by
 have h:(Tryz.prog.info? 9).map (fun i=>(i.zero,i.size,i.bytes))=some (some (.string ⟨#[]⟩),1,16):=by kernel_rfl
 cases hi:Tryz.prog.info? 9 with
 | none=>rw[hi]at h;cases h
 | some i0=>rw[hi]at h;simp only[Option.map_some,Option.some.injEq,Prod.mk.injEq]at h;exact⟨i0,rfl,h.1,h.2.1,h.2.2⟩
theorem CT:∃i0,Tryz.prog.info? 117=some i0∧i0.zero=some (.agg #[.int .i64 0,.int .i64 0,.int .i64 0,.bool false])∧i0.size=4∧i0.bytes=32:=by
 have h:(Tryz.prog.info? 117).map (fun i=>(i.zero,i.size,i.bytes))=some (some (.agg #[.int .i64 0,.int .i64 0,.int .i64 0,.bool false]),4,32):=by kernel_rfl
 cases hi:Tryz.prog.info? 117 with
 | none=>rw[hi]at h;cases h
 | some i0=>rw[hi]at h;simp only[Option.map_some,Option.some.injEq,Prod.mk.injEq]at h;exact⟨i0,rfl,h.1,h.2.1,h.2.2⟩
theorem px(l:List ByteArray)(hl:l.length≤1000000)(v:Value)(w:World)(hv:dq w l v):Calls Tryz.prog 68 #[v] w (mq l w):=by
 obtain⟨p,cap,rfl,h1,h2,h3⟩:=hv
 have fin:∀e w',(∃v',e=Ending.returned v'∧w'.ownsRow w.heap.size 9 1 v' l.length (l.map Value.string)∧v'≠.slice none 0 0∧Below w.heap.size w w')→mq l w e w':=fun e w' ⟨v',g1,g2,_,g4⟩=>
  ⟨v',g1,ru g2,(fun k hk=>(g2.lt k hk).1),g4⟩
 cases p with
 | none=>
  have hl0:l=[]:=by
   cases l with
   | nil=>rfl
   | cons a r=>obtain⟨b,off,e,-⟩:=h3 0 a rfl;cases e
  subst hl0;refine(AnyE.slices_Clone_nil (ρ:=Tryz.cloneSA_ren) Tryz.cloneSA 0 cap w).mono fun e w' ⟨g1,g2⟩=>?_;subst g2;exact⟨_,g1,⟨rfl,.inl ⟨rfl,rfl⟩⟩,(fun k hk=>by cases hk),Ext.refl _⟩
 | some a=>
  by_cases hl0:l=[]
  ·subst hl0;exact(AnyG.slices_Clone_string_zero (ρ:=Tryz.cloneZA_ren) Tryz.cloneZA a cap w).mono fin
  ·obtain⟨x,r,rfl⟩:=List.exists_cons_of_ne_nil hl0;obtain⟨b,off,e,-⟩:=h3 0 x rfl;cases e;obtain⟨i0,hi,z0,z1,z2⟩:=B5;refine(AnyE.slices_Clone (ρ:=Tryz.cloneSA_ren) Tryz.cloneSA i0 _ 1 16 hi z0 z1 z2 rfl (by decide) (fun w=>Tryz.sizeOf9 w) b off (x::r).length cap ((x::r).map Value.string) w (by simp) (by unfold maxLen;omega) (by omega) (fun j u hu=>?_) (fun u hu=>?_)).mono fin
   ·rw[List.getElem?_map]at hu;obtain⟨s,hs,rfl⟩:=Option.map_eq_some_iff.1 hu;obtain⟨b',off',e,hc⟩:=h3 j s hs;cases e;exact hc
   ·obtain⟨s,-,rfl⟩:=List.mem_map.1 hu;rfl
theorem oj{M:ax}{bm:List Nat}{l:List ByteArray}{v:Value}(h:Rep M bm (.d (aQ l)) v):∀s,s∈l→s.size≤maxLen:=by
 intro s hs;cases h with
 | d h=>
 unfold aQ at h;generalize hr:(l.map fun s=>[al s])=rows at h;cases h with
 | sl _ k p cap val hk hd hf hc hm=>
 obtain⟨i,hi,rfl⟩:=JM hs;have hir:i<rows.length:=by rw[←hr];simpa using hi
 have e:rows[i]=[al l[i]]:=by subst hr;simp
 have:=hd i 0 hir (by rw[e];simp);simp only[e,List.getElem_cons_zero,al]at this;generalize val i 0=u at this;cases this with|lit _ hf=>exact hf
theorem ve(l:List ByteArray)(hl:l.length≤1000000)(σ:List (List V)):Fun G 68 [.d (aQ l)] σ (aO (.own 9 1 (l.map fun s=>[al s])) σ):=
 kD Tryz.func68 (by kernel_rfl) (by kernel_rfl) fun M bm w vs hG hM hn hr=>match vs,hn with
  | [v],_=>by
   have h1:Rep M bm (.d (aQ l)) v:=hr 0 (by simp) (by simp);exact⟨oj h1,px l hl v w (gR hM h1)⟩
theorem nM(l:List ByteArray)(hl:l.length≤1000000)(σ:List (List V)):Fun G 68 [.d (aQ l)] σ (aO (.d (aQ l)) σ):=
 fJ Tryz.func68 (by kernel_rfl) (by kernel_rfl) (fun _ _ _ h=>by cases h) fun M bm w vs hG hM hn hr=>match vs,hn with
  | [v],_=>by
   have h1:Rep M bm (.d (aQ l)) v:=hr 0 (by simp) (by simp);refine(px l hl v w (gR hM h1)).mono fun e w' ⟨u,g1,g2,g3,g4⟩=>⟨u,g1,g4,.d (qY g2 g3 (oj h1))⟩
theorem mm{M M':ax}{u v:Value}(h:DRep M (.lit u) v):DRep M' (.lit u) v:=by
 cases h with|lit _ h=>exact .lit _ h
theorem vR(ws:List Wt)(h0:ws≠[])(hl:ws.length≤1000000)(σ:List (List V)):Fun G 116 [.d (.sl (ws.map dwt))] σ (aO (.d (.sl (ws.map dwt))) σ):=
 fJ Tryz.func116 (by kernel_rfl) (by kernel_rfl) (fun _ _ _ h=>by cases h) fun M bm w vs hG hM hn hr=>match vs,hn with
  | [v],_=>by
   have h1:Rep M bm (.d (.sl (ws.map dwt))) v:=hr 0 (by simp) (by simp);cases h1 with
   | d h1=>
   obtain⟨p,cap,rfl,hle,hcm⟩:=bA h1;have hk:∀r,r∈ws.map dwt→r.length=4:=fun r hr=>by obtain⟨x,-,rfl⟩:=List.mem_map.1 hr;rfl
   have hpos:0<(ws.map dwt).length:=by rw[JK];exact List.length_pos_iff.2 h0
   obtain⟨b,off,news,rfl,-,hnl,hnews,hnd⟩:=gG hM h1 hk hpos;obtain⟨i0,hi,z0,z1,z2⟩:=CT;refine(AnyE.slices_Clone (ρ:=Tryz.cloneWA_ren) Tryz.cloneWA i0 _ 4 32 hi z0 z1 z2 rfl (by decide) (fun w=>Tryz.sizeOf117 w) b off (ws.map dwt).length cap news w hnl (by unfold maxLen;rw[JK];omega) (by rw[JK];omega) (fun j u hu=>?_) (fun u hu=>?_)).mono ?_
   ·have:=(hnews j u hu).2.1;rwa[bS]at this
   ·obtain⟨j,hj,rfl⟩:=JM hu;exact(hnews j _ (List.getElem?_eq_getElem hj)).2.2
   ·rintro e w' ⟨v',g1,g2,-,g4⟩;refine⟨v',g1,g4,?_⟩;rcases g2.2 with⟨rfl,e0⟩|⟨g,cap',cur,rfl,hb,hh,h5,h6,h7,h8⟩
    ·omega
    ·refine .d (j8 (k:=4) hk news hnl (fun j u hu=>?_) (fun i j hi hj hv=>?_) h5 h6)
     ·have:=g2.cells (g:=g) rfl j u hu;rw[bS]at this;unfold pc;rw[if_pos hb];exact this
     ·have h9:=hnd i j hi hj hv;have e1:(ws.map dwt)[i]=dwt (ws[i]'(by simpa using hi)):=by simp
      simp only[e1]at h9 ⊢;have hj4:j<4:=by rw[e1]at hj;exact hj
      match j,hj4 with
      | 0,_=>exact mm h9
      | 1,_=>exact mm h9
      | 2,_=>exact mm h9
      | 3,_=>exact mm h9
end Go.Proofs.YthoebpnbhgmoiaaGreatDoor
