import Derived.Test.YthekkgfmagliiaaGreatDoorQg3
import Derived.Test.YthekkgfmagliiaaGreatDoorQs
import Derived.Test.YthekkgfmagliiaaGreatDoorLq
set_option linter.unusedVariables false
set_option linter.unusedSimpArgs false
set_option linter.unusedSectionVars false
namespace Go.Proofs.YthekkgfmagliiaaGreatDoor
open Go.RowKit
def pQ(w:ByteArray):List Pc→Pc
 | []=>[]
 | [a]=>a
 | a::b::r=>a++none::some (tw w)::none::pQ w (b::r)
def atP(k:Int)(x:Int×Pc):Pc:=if lvT x.1<k then some (tm (aj 40))::(x.2++[some (tm (aj 41))])else x.2
def lL(lo hi:Int):Pc:=if lo=hi then[some (td lo)]else[some (td lo),some (tm (aj 58)),some (td hi)]
def jn(lo hi:Int):Pc:=if lo=hi then[some (td lo)]else[some (tm (aj 91)),some (td lo),some (tm (aj 58)),some (td hi),some (tm (aj 93))]
def cJ(o lo hi:Int)(e:Ex)(n:ByteArray)(xs:List (Int×Pc)):Pc:=
 if o=4 then pQ orW (xs.map (atP 2))
 else if o=5 then pQ jq (xs.map (atP 3))
 else if o=2 then atP 3 (xs.getD 0 (1,[]))++none::some (tm (aO 35 35))::(jn lo hi++none::atP 4 (xs.getD 1 (1,[])))
 else if o=7 then some (tw gO)::none::some (tm (aj 123))::(pcE e++some (tm (aj 125))::none::some (tw inW)::none::atP 4 (xs.getD 0 (1,[])))
 else if o=3 then atP 5 (xs.getD 0 (1,[]))++none::some (tm (aj 91))::some (tm (aj 42))::(lL lo hi++[some (tm (aj 93))])
 else if o=6 then some (tm (aj 40))::((xs.getD 0 (1,[])).2++some (tm (aj 44))::none::some (tn n)::none::some (tm (aj 61))::none::(pcE e++[some (tm (aj 41))]))
 else some (tm (aj 123))::(pcE e++[some (tm (aj 125))])
mutual
def pcS:Ts→Pc
 | .mk o lo hi e n l=>cJ o lo hi e n (Gj l)
def Gj:List Ts→List (Int×Pc)
 | []=>[]
 | s::r=>(s.op,pcS s)::Gj r
end
theorem CY(l:List Ts):Gj l=l.map fun s=>(s.op,pcS s):=by
 induction l with
 | nil=>rfl
 | cons a r ih=>simp only[Gj,ih,List.map_cons]
theorem wy(s:Ts):pcS s=cJ s.op s.lo s.hi s.ex s.name (s.args.map fun a=>(a.op,pcS a)):=by
 cases s;simp only[pcS,CY,Ts.op,Ts.lo,Ts.hi,Ts.ex,Ts.name,Ts.args]
def nQ(k:Int)(s:Ts):Pc:=atP k (s.op,pcS s)
theorem j5(k:Int)(l:List Ts):(l.map fun a=>(a.op,pcS a)).map (atP k)=l.map (nQ k):=by rw[List.map_map];rfl
theorem Dy{n:Int}(h:0≤n):txt [some (td n)]=qg n:=by
 unfold qg;simp only[txt,td,List.append_nil,ta];obtain⟨k,rfl⟩:=Int.eq_ofNat_of_zero_le h;simp[Lib.itoa]
theorem sP(t:Tok)(X:Pc):txt (some t::X)=txt [some t]++txt X:=by simp[txt]
theorem uO{lo hi:Int}(h0:0≤lo)(h1:0≤hi):txt (lL lo hi)=gY lo hi∧txt (jn lo hi)=oQ lo hi:=by
 have a:=Dy h0;have b:=Dy h1;unfold lL jn oQ gY;split
 ·exact⟨a,a⟩
 ·constructor
  ·rw[sP,a];show _++58::txt [some (td hi)]=_;rw[b]
  ·show 91::txt [some (td lo),some (tm (aj 58)),some (td hi),some (tm (aj 93))]=_;rw[sP,a];show _::(_++58::txt [some (td hi),some (tm (aj 93))])=_;rw[sP,b];simp[txt,tm,aj]
theorem lT{k:Int}{o:Int}{X:Pc}{T:Bs}(h:txt X=T):txt (atP k (o,X))=atS k (o,T):=by
 unfold atP atS;simp only;split
 ·simp[txt,bD,tm,aj,h]
 ·exact h
theorem sR{w:ByteArray}{sp:Bs}(hw:sp=32::(w.data.toList++[32])):∀{l:List Pc} {l':List Bs},l.map txt=l'→txt (pQ w l)=kh sp l'
 | [],_,rfl=>rfl
 | [a],_,rfl=>rfl
 | a::b::r,_,rfl=>by
  have:=sR hw (l:=b::r) rfl;simp only[List.map_cons]at this ⊢;simp only[pQ,bD,txt,kh,this,hw,tw];simp
theorem rJ(s:Ts):OkT s→txt (pcS s)=dK s:=by
 induction s using Ts.ind with
 | h s ih=>
 intro hs;have hn:=hs.nd;have harg:=fun a ha=>ih a ha (hs.arg ha);rw[wy,rP];rcases hn.sh with⟨o,h⟩|⟨o,⟨a,b,h⟩,h0,h1,h2⟩|⟨o,⟨a,h⟩,h0,h1,h2⟩|⟨o,h0,h1,h2⟩|⟨o,⟨a,h⟩,h0,h1⟩
 ·unfold cJ cX;rw[o];simp[txt,bD,tm,aj,aX]
 ·have ea:=harg a (by rw[h];simp);have eb:=harg b (by rw[h];simp);unfold cJ cX;rw[o,h];simp[txt,bD,lT ea,lT eb,(uO h0 (show 0≤s.hi by omega)).2,tm,aO]
 ·have ea:=harg a (by rw[h];simp);unfold cJ cX;rw[o,h];simp[txt,bD,lT ea,(uO (show 0≤s.lo by omega) (show 0≤s.hi by omega)).1,tm,aj]
 ·have hm:∀k:Int,(s.args.map (nQ k)).map txt=s.args.map (fm k):=fun k=>by
   rw[List.map_map];exact List.map_congr_left fun a ha=>lT (harg a ha)
  unfold cJ cX;rcases o with o|o
  ·rw[o];simp only[if_true,j5,mC];exact sR (by decide) (hm 2)
  ·rw[o,if_neg (by decide),if_pos rfl,if_neg (by decide),if_pos rfl,j5,mC];exact sR (by decide) (hm 3)
 ·have ea:=harg a (by rw[h];simp);rcases o with o|o
  ·unfold cJ cX;rw[o,h];simp[txt,bD,ea,tm,tn,aj,aX,p9]
  ·unfold cJ cX;rw[o,h];simp[txt,bD,lT ea,tm,tw,aj,aX,gO,inW]
def dI(s:Ts):List Tok:=tks (pcS s)
def tkS(k:Int)(s:Ts):List Tok:=if lvT s.op<k then tm (aj 40)::(dI s++[tm (aj 41)])else dI s
theorem eN(k:Int)(s:Ts):tks (nQ k s)=tkS k s:=by
 unfold nQ atP tkS dI;simp only;split
 ·simp[tks,dc]
 ·rfl
structure StopS(k:Nat)(r:List Tok):Prop where
 o:k≤1→acc orW r=none
 a:k≤2→acc jq r=none
 d:k≤3→acc (aO 35 35) r=none
 b:k≤5→acc (aj 91) r=none
theorem StopS.mono{k j:Nat}{r:List Tok}(h:StopS k r)(hj:k≤j):StopS j r:=⟨fun e=>h.o (by omega),fun e=>h.a (by omega),fun e=>h.d (by omega),fun e=>h.b (by omega)⟩
theorem kg{k:Nat}{t:Tok}(r:List Tok)(h1:k≤1→t.text≠orW)(h2:k≤2→t.text≠jq)(h3:k≤3→t.text≠aO 35 35)(h4:k≤5→t.text≠aj 91):StopS k (t::r):=
 ⟨fun e=>bt (h1 e),fun e=>bt (h2 e),fun e=>bt (h3 e),fun e=>bt (h4 e)⟩
theorem rq(k:Nat):StopS k []:=⟨fun _=>rfl,fun _=>rfl,fun _=>rfl,fun _=>rfl⟩
theorem j0{m:ByteArray}(h:m∈[aj 41,aj 44,aj 59,aj 124])(k:Nat)(r:List Tok):StopS k (tm m::r):=by
 have hd:∀m,m∈[aj 41,aj 44,aj 59,aj 124]→m≠orW∧m≠jq∧m≠aO 35 35∧m≠aj 91:=by decide +kernel
 obtain⟨h1,h2,h3,h4⟩:=hd m h;exact kg r (fun _=>h1) (fun _=>h2) (fun _=>h3) (fun _=>h4)
theorem tJ(r:List Tok):StopS 2 (tw orW::r):=kg r (fun h=>by omega) (fun _=>by decide +kernel) (fun _=>by decide +kernel) (fun _=>by decide +kernel)
theorem qG(r:List Tok):StopS 3 (tw jq::r):=kg r (fun h=>by omega) (fun h=>by omega) (fun _=>by decide +kernel) (fun _=>by decide +kernel)
theorem zV(r:List Tok):StopS 4 (tm (aO 35 35)::r):=kg r (fun h=>by omega) (fun h=>by omega) (fun h=>by omega) (fun _=>by decide +kernel)
theorem eP:∀m,m∈[aj 42,aj 59,aj 61,aj 124,aO 35 35,aO 45 62,aO 61 62]→cK (tm m)=true:=by decide +kernel
theorem fg:∀m,m∈[orW,jq,gO,inW,uU,kR]→cK (tw m)=true:=by decide +kernel
def qk(k:Nat):QK:=if k=1 then .S else if k=2 then .A else if k=3 then .D else if k=4 then .H else if k=5 then .R else .U
section
variable {N : Int}
def Bq(N:Int)(k:Nat)(T:List Tok)(s:Ts):Prop:=∀r,StopS k r→qp N (qk k) (T++r)=.ok s r
theorem cz{m:ByteArray}(h:cK (tm m)=true){α:Type}(r:List Tok)(f:List Tok→QR α):cx N m (tm m::r) f=f r:=by unfold cx;rw[b5 h]
theorem ym{m:ByteArray}(h:cK (tw m)=true){α:Type}(r:List Tok)(f:List Tok→QR α):cx N m (tw m::r) f=f r:=by unfold cx;rw[l8 h]
theorem mD{n:Int}(h0:0≤n)(h1:n≤16){α:Type}(r:List Tok)(f:Int→List Tok→QR α):kQ N (td n::r) f=f n r:=by
 have hv:=ln h0 (show n≤65535 by omega);unfold kQ;have:dX (td n::r)=some (n,r):=by simp only[dX];rw[if_pos ⟨hv,rfl⟩];rfl
 rw[this]
theorem xA{s:ByteArray}(h:a8 s=true){α:Type}(r:List Tok)(f:ByteArray→List Tok→QR α):iZ N (tn s::r) f=f s r:=by
 unfold iZ;have:cD (tn s::r)=some (s,r):=by simp only[cD];rw[if_pos ⟨dN h,rfl⟩];rfl
 rw[this]
theorem o8{e:Ex}(h:bd e=0){m:ByteArray}(hm:m∈[aj 41,aj 125]){α:Type}(r:List Tok)(f:Ex→List Tok→QR α):io N (tks (pcE e)++tm m::r) f=f e (tm m::r):=by
 have h1:=(IR e (ji h)).at_ 1 (by omega) (by omega) (tm m::r) (eO (by simp only[List.mem_cons,List.not_mem_nil,or_false]at hm ⊢;rcases hm with rfl|rfl<;>simp) 1 r);rw[tk1]at h1;have h2:par .W (tks (pcE e)++tm m::r)=.ok e (tm m::r):=by rw[CJ];exact h1
 unfold io;rw[h2];simp only;rw[if_pos h]
theorem Mn{T:List Tok}{s:Ts}{j:Nat}(h:Bq N (j+1) T s)(h1:1≤j)(h2:j≤5)(h3:j=4→∀r,acc gO (T++r)=none):Bq N j T s:=by
 intro r hr;have hn:=h r (hr.mono (Nat.le_succ j))
 match j,h1,h2,h3 with
 | 1,_,_,_=>
  show qp N .S (T++r)=_;have hn:qp N .A (T++r)=.ok s r:=hn;rw[cI];simp only[bg,hn,QR.bind];rw[cI];simp only[bg,hr.o (by omega),pD]
 | 2,_,_,_=>
  show qp N .A (T++r)=_;have hn:qp N .D (T++r)=.ok s r:=hn;rw[cI];simp only[bg,hn,QR.bind];rw[cI];simp only[bg,hr.a (by omega),pD]
 | 3,_,_,_=>
  show qp N .D (T++r)=_;have hn:qp N .H (T++r)=.ok s r:=hn;rw[cI];simp only[bg,hn,QR.bind];rw[cI];simp only[bg,hr.d (by omega)]
 | 4,_,_,h3=>
  show qp N .H (T++r)=_;have hn:qp N .R (T++r)=.ok s r:=hn;rw[cI];simp only[bg,h3 rfl r,hn]
 | 5,_,_,_=>
  show qp N .R (T++r)=_;have hn:qp N .U (T++r)=.ok s r:=hn;rw[cI];simp only[bg,hn,QR.bind];rw[cI];simp only[bg,hr.b (by omega)]
theorem Ei{T:List Tok}{s:Ts}{k0:Nat}(h:Bq N k0 T s)(h6:k0≤6)(h3:4<k0→∀r,acc gO (T++r)=none):∀n k,k0=k+n→1≤k→Bq N k T s
 | 0,k,e,_=>by have:k0=k:=e
               rw[←this];exact h
 | n+1,k,e,h1=>Mn (Ei h h6 h3 n (k+1) (by omega) (by omega)) h1 (by omega) fun e=>h3 (by omega)
theorem HJ{T:List Tok}{s:Ts}(h:Bq N 1 T s):Bq N 6 (tm (aj 40)::(T++[tm (aj 41)])) s:=by
 intro r hr;show qp N .U _=_;rw[cI];simp only[bg,List.cons_append];rw[bt (t:=tm (aj 40)) (m:=aj 123) (by decide +kernel)];simp only;rw[cz (bJ _ (by simp))];have:=h (tm (aj 41)::r) (j0 (by simp) 1 r);have hp:qk 1=.S:=rfl;rw[hp]at this;simp only[List.append_assoc,List.singleton_append,this,QR.bind];rw[bt (t:=tm (aj 41)) (m:=aj 44) (by decide +kernel)];simp only;rw[cz (bJ _ (by simp))]
structure RTS(N:Int)(s:Ts):Prop where
 at_:∀k:Nat,1≤k→k≤6→Bq N k (tkS k s) s
 d:∀r,StopS 4 r→qp N .D (tkS 3 s++r)=qp N (.Dp s) r
 r:∀r,qp N .R (tkS 5 s++r)=qp N (.Rp s) r
 nh:∀r,acc gO (tkS 5 s++r)=none
theorem Cp(o:Int):1≤lvT o∧lvT o≤6:=by
 unfold lvT;repeat' split
 all_goals decide
theorem Ka(s:Ts):tkS 1 s=dI s:=by unfold tkS;rw[if_neg (by have:=(Cp s.op).1;omega)]
theorem Jo{T:List Tok}{s:Ts}(h:Bq N 4 T s){r:List Tok}(hr:StopS 4 r):qp N .D (T++r)=qp N (.Dp s) r:=by
 have hn:qp N .H (T++r)=.ok s r:=h r hr;rw[cI];simp only[bg,hn,QR.bind]
theorem IX{T:List Tok}{s:Ts}(h:Bq N 6 T s)(r:List Tok):qp N .R (T++r)=qp N (.Rp s) r:=by
 have hn:qp N .U (T++r)=.ok s r:=h r ⟨fun e=>by omega,fun e=>by omega,fun e=>by omega,fun e=>by omega⟩;rw[cI];simp only[bg,hn,QR.bind]
theorem kY{s:Ts}(k0:Nat)(hk:lvT s.op=k0)(hb:Bq N k0 (dI s) s)(hp:4<k0→∀r,acc gO (dI s++r)=none)
 (hd:k0=3→∀r,StopS 4 r→qp N .D (dI s++r)=qp N (.Dp s) r)(hr:k0=5→∀r,qp N .R (dI s++r)=qp N (.Rp s) r):RTS N s:=by
 have hbd:=Cp s.op;rw[hk]at hbd;have plain:=Ei hb (by omega) hp;have b1:Bq N 1 (dI s) s:=plain (k0-1) 1 (by omega) (Nat.le_refl _);have pr:=Ei (HJ b1) (Nat.le_refl 6) fun _ r=>bt (t:=tm (aj 40)) (by decide +kernel)
 have at_:∀k:Nat,1≤k→k≤6→Bq N k (tkS k s) s:=by
  intro k g1 g2;unfold tkS;rw[hk];split
  ·exact pr (6-k) k (by omega) g1
  ·exact plain (k0-k) k (by omega) g1
 refine⟨at_,fun r h=>?_,fun r=>?_,fun r=>?_⟩
 ·by_cases e:k0=3
  ·have:tkS 3 s=dI s:=by unfold tkS;rw[hk,if_neg (by omega)]
   rw[this];exact hd e r h
  ·have:tkS 3 s=tkS 4 s:=by
    unfold tkS;rw[hk];by_cases g:(k0:Int)<3
    ·rw[if_pos g,if_pos (by omega)]
    ·rw[if_neg g,if_neg (by omega)]
   rw[this];exact Jo (at_ 4 (by omega) (by omega)) h
 ·by_cases e:k0=5
  ·have:tkS 5 s=dI s:=by unfold tkS;rw[hk,if_neg (by omega)]
   rw[this];exact hr e r
  ·have:tkS 5 s=tkS 6 s:=by
    unfold tkS;rw[hk];by_cases g:(k0:Int)<5
    ·rw[if_pos g,if_pos (by omega)]
    ·rw[if_neg g,if_neg (by omega)]
   rw[this];exact IX (at_ 6 (by omega) (by omega)) r
 ·unfold tkS;rw[hk];split
  ·exact bt (t:=tm (aj 40)) (by decide +kernel)
  ·exact hp (by omega) r
theorem sw(w:ByteArray):∀l:List Pc,tks (pQ w l)=match l with | []=>[]|a::r=>tks a++(r.map fun b=>tw w::tks b).flatten
 | []=>rfl
 | [a]=>by simp[pQ]
 | a::b::r=>by
  have:=sw w (b::r);simp only[pQ,dc,tks,this,List.map_cons,List.flatten_cons];simp
theorem Fv(l:List Ts)(h:∀a,a∈l→RTS N a):∀(x:List Ts) (r:List Tok),StopS 1 r→qp N (.Sp x) (((l.map (tkS 2)).map fun b=>tw orW::b).flatten++r)=.ok (pD 4 (x++l)) r:=by
 induction l with
 | nil=>
  intro x r hr;rw[cI];simp[bg,hr.o (by omega)]
 | cons a l ih=>
  intro x r hr;have ha:=h a (by simp);have ih:=ih (fun b hb=>h b (by simp[hb]));rw[cI];simp only[List.map_cons,List.flatten_cons,List.cons_append,List.append_assoc,bg];rw[l8 (fg _ (by simp))];have h2:=ha.at_ 2 (by omega) (by omega)
  have hs:StopS 2 (((l.map (tkS 2)).map fun b=>tw orW::b).flatten++r):=by
   cases l with
   | nil=>exact hr.mono (by omega)
   | cons b l=>simp only[List.map_cons,List.flatten_cons,List.cons_append];exact tJ _
  have h3:qp N .A (tkS 2 a++(((l.map (tkS 2)).map fun b=>tw orW::b).flatten++r))=.ok a _:=h2 _ hs;simp only;rw[h3];simp only[QR.bind];rw[ih (x++[a]) r hr];simp
theorem Ch(l:List Ts)(h:∀a,a∈l→RTS N a):∀(x:List Ts) (r:List Tok),StopS 2 r→qp N (.Ap x) (((l.map (tkS 3)).map fun b=>tw jq::b).flatten++r)=.ok (pD 5 (x++l)) r:=by
 induction l with
 | nil=>
  intro x r hr;rw[cI];simp[bg,hr.a (by omega)]
 | cons a l ih=>
  intro x r hr;have ha:=h a (by simp);have ih:=ih (fun b hb=>h b (by simp[hb]));rw[cI];simp only[List.map_cons,List.flatten_cons,List.cons_append,List.append_assoc,bg];rw[l8 (fg _ (by simp))];have h2:=ha.at_ 3 (by omega) (by omega)
  have hs:StopS 3 (((l.map (tkS 3)).map fun b=>tw jq::b).flatten++r):=by
   cases l with
   | nil=>exact hr.mono (by omega)
   | cons b l=>simp only[List.map_cons,List.flatten_cons,List.cons_append];exact qG _
  have h3:qp N .D (tkS 3 a++(((l.map (tkS 3)).map fun b=>tw jq::b).flatten++r))=.ok a _:=h2 _ hs;simp only;rw[h3];simp only[QR.bind];rw[ih (x++[a]) r hr];simp
theorem Ts.ext{s:Ts}{o lo hi:Int}{e:Ex}{n:ByteArray}{l:List Ts}(h1:s.op=o)(h2:s.lo=lo)(h3:s.hi=hi)(h4:s.ex=e)(h5:s.name=n)(h6:s.args=l):Ts.mk o lo hi e n l=s:=by
 cases s;simp only[Ts.op,Ts.lo,Ts.hi,Ts.ex,Ts.name,Ts.args]at *;subst h1 h2 h3 h4 h5 h6;rfl
theorem sX{o:Int}:∀{l:List Ts},2≤l.length→pD o l=nT o 0 0 l
 | [],h=>by simp at h
 | [_],h=>by simp at h
 | _::_::_,_=>rfl
theorem Fi(s:Ts):OkT s→RTS N s:=by
 induction s using Ts.ind with
 | h s ih=>
 intro hs;have hn:=hs.nd;have harg:=fun a ha=>ih a ha (hs.arg ha);have htok:dI s=tks (cJ s.op s.lo s.hi s.ex s.name (s.args.map fun a=>(a.op,pcS a))):=by unfold dI;rw[wy]
 rcases hn.sh with⟨o,h,l0,h0⟩|⟨o,⟨a,b,h⟩,h0,h1,h2⟩|⟨o,⟨a,h⟩,h0,h1,h2⟩|⟨o,h0,h1,h2,h2'⟩|⟨o,⟨a,h⟩,h0,h1⟩
 ·
  have hT:dI s=tm (aj 123)::(tks (pcE s.ex)++[tm (aj 125)]):=by
   rw[htok];unfold cJ;rw[o];simp[tks,dc]
  refine kY 6 (by rw[o];rfl) (fun r hr=>?_) (fun _ r=>?_) (fun e=>by omega) (fun e=>by omega)
  ·show qp N .U _=_;rw[hT,cI];simp only[bg,List.cons_append,List.append_assoc,List.singleton_append,List.nil_append];rw[b5 (bJ _ (by simp))];simp only;rw[o8 (hn.ex (.inl o)) (by simp),cz (bJ _ (by simp))];rw[Ts.ext (s:=s) o l0 h0 rfl (hn.zn (by omega)) h]
  ·rw[hT];exact bt (t:=tm (aj 123)) (by decide +kernel)
 ·
  have ra:=harg a (by rw[h];simp);have rb:=harg b (by rw[h];simp)
  have hT:dI s=tkS 3 a++tm (aO 35 35)::(tks (jn s.lo s.hi)++tkS 4 b):=by
   have e1:=eN 3 a;have e2:=eN 4 b;unfold nQ at e1 e2;rw[htok];unfold cJ;rw[o,h];simp[tks,dc,e1,e2]
  have hS:Ts.mk 2 s.lo s.hi zEx ⟨#[]⟩ [a,b]=s:=Ts.ext o rfl rfl (hn.zx (by omega)) (hn.zn (by omega)) h
  have key:∀r,StopS 4 r→qp N .D (dI s++r)=qp N (.Dp s) r:=by
   intro r hr;rw[hT];simp only[List.append_assoc,List.cons_append];rw[ra.d _ (zV _),cI];simp only[bg];rw[b5 (eP _ (by simp))];have hB:qp N .H (tkS 4 b++r)=.ok b r:=rb.at_ 4 (by omega) (by omega) r hr;simp only;unfold jn;by_cases he:s.lo=s.hi
   ·rw[if_pos he];simp only[tks,List.cons_append,List.nil_append];rw[oB];simp only;rw[mD h0 (by omega),hB];simp only[QR.bind,nT];rw[show Ts.mk 2 s.lo s.lo zEx ⟨#[]⟩ [a,b]=s from(by have h9:=hS;rw[←he]at h9;exact h9)]
   ·rw[if_neg he];simp only[tks,List.cons_append,List.nil_append];rw[b5 (bJ _ (by simp))];simp only;rw[mD h0 (by omega),cz (bJ _ (by simp)),mD (by omega) h2,cz (bJ _ (by simp)),hB];simp only[QR.bind,nT];rw[hS]
  refine kY 3 (by rw[o];rfl) (fun r hr=>?_) (fun e=>by omega) (fun _=>key) (fun e=>by omega);show qp N .D _=_;rw[key r (hr.mono (by omega)),cI];simp only[bg,hr.d (by omega)]
 ·
  have ra:=harg a (by rw[h];simp)
  have hT:dI s=tkS 5 a++tm (aj 91)::tm (aj 42)::(tks (lL s.lo s.hi)++[tm (aj 93)]):=by
   have e1:=eN 5 a;unfold nQ at e1;rw[htok];unfold cJ;rw[o,h];simp[tks,dc,e1]
  have hS:Ts.mk 3 s.lo s.hi zEx ⟨#[]⟩ [a]=s:=Ts.ext o rfl rfl (hn.zx (by omega)) (hn.zn (by omega)) h
  have key:∀r,qp N .R (dI s++r)=qp N (.Rp s) r:=by
   intro r;rw[hT];simp only[List.append_assoc,List.cons_append];rw[ra.r,cI];simp only[bg];rw[b5 (bJ _ (by simp))];simp only;rw[cz (eP _ (by simp))];unfold lL;by_cases he:s.lo=s.hi
   ·rw[if_pos he];simp only[tks,List.cons_append,List.nil_append];rw[mD (by omega) (by omega),bt (t:=tm (aj 93)) (m:=aj 58) (by decide +kernel)];simp only;rw[cz (bJ _ (by simp))];simp only[nT];rw[show Ts.mk 3 s.lo s.lo zEx ⟨#[]⟩ [a]=s from(by have h9:=hS;rw[←he]at h9;exact h9)]
   ·rw[if_neg he];simp only[tks,List.cons_append,List.nil_append];rw[mD (by omega) (by omega),b5 (bJ _ (by simp))];simp only;rw[mD (by omega) h2,cz (bJ _ (by simp))];simp only[nT];rw[hS]
  have hno:∀r,acc gO (dI s++r)=none:=fun r=>by
   rw[hT];simp only[List.append_assoc];exact ra.nh _
  refine kY 5 (by rw[o];rfl) (fun r hr=>?_) (fun _=>hno) (fun e=>by omega) (fun _=>key);show qp N .R _=_;rw[key r,cI];simp only[bg,hr.b (by omega)]
 ·
  have hm:∀k:Int,((s.args.map (nQ k)).map tks)=s.args.map (tkS k):=fun k=>by rw[List.map_map];exact List.map_congr_left fun a _=>eN k a
  obtain⟨a,l,hl⟩:∃a l,s.args=a::l:=by
   cases hs:s.args with
   | nil=>rw[hs]at h0;simp at h0
   | cons a l=>exact⟨a,l,rfl⟩
  have ra:=harg a (by rw[hl];simp);have rl:∀b,b∈l→RTS N b:=fun b hb=>harg b (by rw[hl];simp[hb]);rcases o with o|o
  ·have hT:dI s=tkS 2 a++((l.map (tkS 2)).map fun b=>tw orW::b).flatten:=by
    rw[htok];unfold cJ;rw[o,if_pos rfl,j5,hl];rw[sw];simp only[List.map_cons,eN,List.map_map];congr 2;exact List.map_congr_left fun b _=>by simp only[Function.comp,eN]
   have hS:Ts.mk 4 0 0 zEx ⟨#[]⟩ (a::l)=s:=Ts.ext o h2 h2' (hn.zx (by omega)) (hn.zn (by omega)) hl;refine kY 1 (by rw[o];rfl) (fun r hr=>?_) (fun e=>by omega) (fun e=>by omega) (fun e=>by omega);show qp N .S _=_;rw[hT,cI]
   have hs:StopS 2 (((l.map (tkS 2)).map fun b=>tw orW::b).flatten++r):=by
    cases l with
    | nil=>exact hr.mono (by omega)
    | cons b l=>simp only[List.map_cons,List.flatten_cons,List.cons_append];exact tJ _
   have h3:qp N .A (tkS 2 a++(((l.map (tkS 2)).map fun b=>tw orW::b).flatten++r))=.ok a _:=ra.at_ 2 (by omega) (by omega) _ hs;simp only[bg,List.append_assoc];rw[h3];simp only[QR.bind];rw[Fv l rl [a] r hr,List.singleton_append,sX (by rw[←hl];exact h0)];simp only[nT];rw[hS]
  ·have hT:dI s=tkS 3 a++((l.map (tkS 3)).map fun b=>tw jq::b).flatten:=by
    rw[htok];unfold cJ;rw[o,if_neg (by decide),if_pos rfl,j5,hl];rw[sw];simp only[List.map_cons,eN,List.map_map];congr 2;exact List.map_congr_left fun b _=>by simp only[Function.comp,eN]
   have hS:Ts.mk 5 0 0 zEx ⟨#[]⟩ (a::l)=s:=Ts.ext o h2 h2' (hn.zx (by omega)) (hn.zn (by omega)) hl;refine kY 2 (by rw[o];rfl) (fun r hr=>?_) (fun e=>by omega) (fun e=>by omega) (fun e=>by omega);show qp N .A _=_;rw[hT,cI]
   have hs:StopS 3 (((l.map (tkS 3)).map fun b=>tw jq::b).flatten++r):=by
    cases l with
    | nil=>exact hr.mono (by omega)
    | cons b l=>simp only[List.map_cons,List.flatten_cons,List.cons_append];exact qG _
   have h3:qp N .D (tkS 3 a++(((l.map (tkS 3)).map fun b=>tw jq::b).flatten++r))=.ok a _:=ra.at_ 3 (by omega) (by omega) _ hs;simp only[bg,List.append_assoc];rw[h3];simp only[QR.bind];rw[Ch l rl [a] r hr,List.singleton_append,sX (by rw[←hl];exact h0)];simp only[nT];rw[hS]
 ·
  have ra:=harg a (by rw[h];simp);rcases o with o|o
  ·have hT:dI s=tm (aj 40)::(dI a++tm (aj 44)::tn s.name::tm (aj 61)::(tks (pcE s.ex)++[tm (aj 41)])):=by
    rw[htok];unfold cJ;rw[o,h];simp[tks,dc,dI]
   refine kY 6 (by rw[o];rfl) (fun r hr=>?_) (fun _ r=>?_) (fun e=>by omega) (fun e=>by omega)
   ·show qp N .U _=_;rw[hT,cI];simp only[bg,List.cons_append,List.append_assoc,List.singleton_append,List.nil_append];rw[bt (t:=tm (aj 40)) (m:=aj 123) (by decide +kernel)];simp only;rw[cz (bJ _ (by simp))];have h3:=ra.at_ 1 (by omega) (by omega) _ (j0 (m:=aj 44) (by simp) 1 (tn s.name::tm (aj 61)::(tks (pcE s.ex)++tm (aj 41)::r)));rw[show tkS ((1:Nat):Int) a=dI a from Ka a]at h3;have h3:qp N .S (dI a++tm (aj 44)::tn s.name::tm (aj 61)::(tks (pcE s.ex)++tm (aj 41)::r))=_:=h3;rw[h3];simp only[QR.bind];rw[b5 (bJ _ (by simp))];simp only;rw[xA (hn.nm o),cz (eP _ (by simp)),o8 (hn.ex (.inr (.inl o))) (by simp),cz (bJ _ (by simp))];rw[Ts.ext (s:=s) o h0 h1 rfl rfl h]
   ·rw[hT];exact bt (t:=tm (aj 40)) (by decide +kernel)
  ·have hT:dI s=tw gO::tm (aj 123)::(tks (pcE s.ex)++tm (aj 125)::tw inW::tkS 4 a):=by
    have e1:=eN 4 a;unfold nQ at e1;rw[htok];unfold cJ;rw[o,h];simp[tks,dc,e1]
   refine kY 4 (by rw[o];rfl) (fun r hr=>?_) (fun e=>by omega) (fun e=>by omega) (fun e=>by omega);show qp N .H _=_;rw[hT,cI];simp only[bg,List.cons_append,List.append_assoc];rw[l8 (fg _ (by simp))];simp only;rw[cz (bJ _ (by simp)),o8 (hn.ex (.inr (.inr o))) (by simp),cz (bJ _ (by simp)),ym (fg _ (by simp))];have h3:qp N .H (tkS 4 a++r)=.ok a r:=ra.at_ 4 (by omega) (by omega) r hr;rw[h3];simp only[QR.bind];rw[Ts.ext (s:=s) o h0 h1 rfl (hn.zn (by omega)) h]
end
end Go.Proofs.YthekkgfmagliiaaGreatDoor
