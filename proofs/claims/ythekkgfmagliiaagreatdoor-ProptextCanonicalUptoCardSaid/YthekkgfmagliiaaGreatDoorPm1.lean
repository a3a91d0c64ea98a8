import Derived.Test.YthekkgfmagliiaaGreatDoorQg3
import Derived.Test.YthekkgfmagliiaaGreatDoorQp1
set_option linter.unusedVariables false
set_option linter.unusedSimpArgs false
set_option linter.unusedSectionVars false
open Bool renaming false_eq_true->Rs
open List renaming cons_append->Ru,append_assoc->Rv,map_cons->Rw,nil_append->Rx,flatten_cons->Ry,map_congr_left->Rz,singleton_append->RA,getElem?_eq_getElem->RB,map_map->RC,take_length->RD,eq_nil_of_length_eq_zero->RE,append_nil->RF,take_left->RG,drop_eq_nil_of_le->RH,getElem?_eq_none->RI,mem_cons->RJ
open Nat renaming le_refl->RK
namespace Go.Proofs.YthekkgfmagliiaaGreatDoor
open Go.RowKit
open Nat renaming reduceLeDiff -> jA, reduceBEq -> jB, reduceLT -> jC, reduceEqDiff -> jD, reduceAdd -> jE, reduceSub -> jF, reduceMul -> jG
open V renaming copy -> jV, lend -> jW, lend1 -> jX, cells -> jY, boxable -> jZ
def ru(w:ByteArray):List Pc->Pc
 | []=>[]
 | [a]=>a
 | a::b::r=>a++none::some (tw w)::none::ru w (b::r)
def atP(k:Int)(x:Int×Pc):Pc:=if lvT x.1<k then some (tm (aa 40))::(x.2++[some (tm (aa 41))])else x.2
def m8(lo hi:Int):Pc:=if lo=hi then[some (td lo)]else[some (td lo),some (tm (aa 58)),some (td hi)]
def kX(lo hi:Int):Pc:=if lo=hi then[some (td lo)]else[some (tm (aa 91)),some (td lo),some (tm (aa 58)),some (td hi),some (tm (aa 93))]
def dE(o lo hi:Int)(e:Ex)(n:ByteArray)(xs:List (Int×Pc)):Pc:=
 if o=4 then ru orW (xs.map (atP 2))
 else if o=5 then ru jx (xs.map (atP 3))
 else if o=2 then atP 3 (xs.getD 0 (1,[]))++none::some (tm (aF 35 35))::(kX lo hi++none::atP 4 (xs.getD 1 (1,[])))
 else if o=7 then some (tw fZ)::none::some (tm (aa 123))::(pcE e++some (tm (aa 125))::none::some (tw inW)::none::atP 4 (xs.getD 0 (1,[])))
 else if o=3 then atP 5 (xs.getD 0 (1,[]))++none::some (tm (aa 91))::some (tm (aa 42))::(m8 lo hi++[some (tm (aa 93))])
 else if o=6 then some (tm (aa 40))::((xs.getD 0 (1,[])).2++some (tm (aa 44))::none::some (tn n)::none::some (tm (aa 61))::none::(pcE e++[some (tm (aa 41))]))
 else some (tm (aa 123))::(pcE e++[some (tm (aa 125))])
mutual
def pcS:Ts->Pc
 | .mk o lo hi e n l=>dE o lo hi e n (Im l)
def Im:List Ts->List (Int×Pc)
 | []=>[]
 | s::r=>(s.op,pcS s)::Im r
end
theorem GL(l:List Ts):Im l=l.map fun s=>(s.op,pcS s):=by
 induction l with
 | nil=>rfl
 | cons a r ih=>simp only[Im,ih,Rw]
theorem xN(s:Ts):pcS s=dE s.op s.lo s.hi s.ex s.name (s.args.map fun a=>(a.op,pcS a)):=by
 cases s;simp only[pcS,GL,Ts.op,Ts.lo,Ts.hi,Ts.ex,Ts.name,Ts.args]
def qK(k:Int)(s:Ts):Pc:=atP k (s.op,pcS s)
theorem lL(k:Int)(l:List Ts):(l.map fun a=>(a.op,pcS a)).map (atP k)=l.map (qK k):=by rw[RC];rfl
theorem Fc{n:Int}(h:0≤n):txt [some (td n)]=so n:=by
 unfold so;simp only[txt,td,RF,uk];obtain⟨k,rfl⟩:=Int.eq_ofNat_of_zero_le h;simp[Lib.itoa]
theorem tX(t:Tok)(X:Pc):txt (some t::X)=txt [some t]++txt X:=by simp[txt]
theorem wN{lo hi:Int}(h0:0≤lo)(h1:0≤hi):txt (m8 lo hi)=jf lo hi/\txt (kX lo hi)=rk lo hi:=by
 have a:=Fc h0;have b:=Fc h1;unfold m8 kX rk jf;split
 .exact⟨a,a⟩
 .constructor
  .rw[tX,a];show _++58::txt [some (td hi)]=_;rw[b]
  .show 91::txt [some (td lo),some (tm (aa 58)),some (td hi),some (tm (aa 93))]=_;rw[tX,a];show _::(_++58::txt [some (td hi),some (tm (aa 93))])=_;rw[tX,b];simp[txt,tm,aa]
theorem nr{k:Int}{o:Int}{X:Pc}{T:Bs}(h:txt X=T):txt (atP k (o,X))=atS k (o,T):=by
 unfold atP atS;simp only;split
 .simp[txt,b6,tm,aa,h]
 .exact h
theorem uN{w:ByteArray}{sp:Bs}(hw:sp=32::(w.data.toList++[32])):∀{l:List Pc} {l':List Bs},l.map txt=l'->txt (ru w l)=lU sp l'
 | [],_,rfl=>rfl
 | [a],_,rfl=>rfl
 | a::b::r,_,rfl=>by
  have:=uN hw (l:=b::r) rfl;simp only[Rw]at this ⊢;simp only[ru,b6,txt,lU,this,hw,tw];simp
theorem Aw(s:Ts):OkT s->txt (pcS s)=fu s:=by
 induction s using Ts.ind with
 | h s ih=>
 intro hs;have hn:=hs.nd;have harg:=fun a ha=>ih a ha (hs.arg ha);rw[xN,uE];rcases hn.sh with⟨o,h⟩|⟨o,⟨a,b,h⟩,h0,h1,h2⟩|⟨o,⟨a,h⟩,h0,h1,h2⟩|⟨o,h0,h1,h2⟩|⟨o,⟨a,h⟩,h0,h1⟩
 .unfold dE dO;rw[o];simp[txt,b6,tm,aa,br]
 .have ea:=harg a (by rw[h];simp);have eb:=harg b (by rw[h];simp);unfold dE dO;rw[o,h];simp[txt,b6,nr ea,nr eb,(wN h0 (show 0≤s.hi by omega)).2,tm,aF]
 .have ea:=harg a (by rw[h];simp);unfold dE dO;rw[o,h];simp[txt,b6,nr ea,(wN (show 0≤s.lo by omega) (show 0≤s.hi by omega)).1,tm,aa]
 .have hm:∀k:Int,(s.args.map (qK k)).map txt=s.args.map (gE k):=fun k=>by
   rw[RC];exact Rz fun a ha=>nr (harg a ha)
  unfold dE dO;rcases o with o|o
  .rw[o];simp only[if_true,lL,oF];exact uN (by decide) (hm 2)
  .rw[o,if_neg (by decide),if_pos rfl,if_neg (by decide),if_pos rfl,lL,oF];exact uN (by decide) (hm 3)
 .have ea:=harg a (by rw[h];simp);rcases o with o|o
  .unfold dE dO;rw[o,h];simp[txt,b6,ea,tm,tn,aa,br,su]
  .unfold dE dO;rw[o,h];simp[txt,b6,nr ea,tm,tw,aa,br,fZ,inW]
def eO(s:Ts):List Tok:=tks (pcS s)
def tkS(k:Int)(s:Ts):List Tok:=if lvT s.op<k then tm (aa 40)::(eO s++[tm (aa 41)])else eO s
theorem f6(k:Int)(s:Ts):tks (qK k s)=tkS k s:=by
 unfold qK atP tkS eO;simp only;split
 .simp[tks,dV]
 .rfl
structure StopS(k:Nat)(r:List Tok):Prop where
 o:k≤1->acc orW r=none
 a:k≤2->acc jx r=none
 d:k≤3->acc (aF 35 35) r=none
 b:k≤5->acc (aa 91) r=none
theorem StopS.mono{k j:Nat}{r:List Tok}(h:StopS k r)(hj:k≤j):StopS j r:=⟨fun e=>h.o (by omega),fun e=>h.a (by omega),fun e=>h.d (by omega),fun e=>h.b (by omega)⟩
theorem lu{k:Nat}{t:Tok}(r:List Tok)(h1:k≤1->t.text≠orW)(h2:k≤2->t.text≠jx)(h3:k≤3->t.text≠aF 35 35)(h4:k≤5->t.text≠aa 91):StopS k (t::r):=
 ⟨fun e=>bJ (h1 e),fun e=>bJ (h2 e),fun e=>bJ (h3 e),fun e=>bJ (h4 e)⟩
theorem C4(k:Nat):StopS k []:=⟨fun _=>rfl,fun _=>rfl,fun _=>rfl,fun _=>rfl⟩
theorem lz{m:ByteArray}(h:m∈[aa 41,aa 44,aa 59,aa 124])(k:Nat)(r:List Tok):StopS k (tm m::r):=by
 have hd:∀m,m∈[aa 41,aa 44,aa 59,aa 124]->m≠orW/\m≠jx/\m≠aF 35 35/\m≠aa 91:=by decide +kernel
 obtain⟨h1,h2,h3,h4⟩:=hd m h;exact lu r (fun _=>h1) (fun _=>h2) (fun _=>h3) (fun _=>h4)
theorem wC(r:List Tok):StopS 2 (tw orW::r):=lu r (fun h=>by omega) (fun _=>by decide +kernel) (fun _=>by decide +kernel) (fun _=>by decide +kernel)
theorem sR(r:List Tok):StopS 3 (tw jx::r):=lu r (fun h=>by omega) (fun h=>by omega) (fun _=>by decide +kernel) (fun _=>by decide +kernel)
theorem BO(r:List Tok):StopS 4 (tm (aF 35 35)::r):=lu r (fun h=>by omega) (fun h=>by omega) (fun h=>by omega) (fun _=>by decide +kernel)
theorem gp:∀m,m∈[aa 42,aa 59,aa 61,aa 124,aF 35 35,aF 45 62,aF 61 62]->bl (tm m)=true:=by decide +kernel
theorem gw:∀m,m∈[orW,jx,fZ,inW,qb,ja]->bl (tw m)=true:=by decide +kernel
def qk(k:Nat):QK:=if k=1 then .S else if k=2 then .A else if k=3 then .D else if k=4 then .H else if k=5 then .R else .U
section
variable {N : Int}
def Bq(N:Int)(k:Nat)(T:List Tok)(s:Ts):Prop:=∀r,StopS k r->qp N (qk k) (T++r)=.ok s r
theorem cZ{m:ByteArray}(h:bl (tm m)=true){α:Type}(r:List Tok)(f:List Tok->QR α):cu N m (tm m::r) f=f r:=by unfold cu;rw[cM h]
theorem A5{m:ByteArray}(h:bl (tw m)=true){α:Type}(r:List Tok)(f:List Tok->QR α):cu N m (tw m::r) f=f r:=by unfold cu;rw[om h]
theorem nS{n:Int}(h0:0≤n)(h1:n≤16){α:Type}(r:List Tok)(f:Int->List Tok->QR α):jR N (td n::r) f=f n r:=by
 have hv:=na h0 (show n≤65535 by omega);unfold jR;have:bW (td n::r)=some (n,r):=by simp only[bW];rw[if_pos ⟨hv,rfl⟩];rfl
 rw[this]
theorem As{s:ByteArray}(h:cf s=true){α:Type}(r:List Tok)(f:ByteArray->List Tok->QR α):fO N (tn s::r) f=f s r:=by
 unfold fO;have:bw (tn s::r)=some (s,r):=by simp only[bw];rw[if_pos ⟨eH h,rfl⟩];rfl
 rw[this]
theorem qw{e:Ex}(h:aZ e=0){m:ByteArray}(hm:m∈[aa 41,aa 125]){α:Type}(r:List Tok)(f:Ex->List Tok->QR α):gq N (tks (pcE e)++tm m::r) f=f e (tm m::r):=by
 have h1:=(Kx e (kO h)).at_ 1 (by omega) (by omega) (tm m::r) (fv (by simp only[RJ,List.not_mem_nil,or_false]at hm ⊢;rcases hm with rfl|rfl<;>simp) 1 r);rw[tk1]at h1;have h2:par .W (tks (pcE e)++tm m::r)=.ok e (tm m::r):=by rw[Hi];exact h1
 unfold gq;rw[h2];simp only;rw[if_pos h]
theorem NE{T:List Tok}{s:Ts}{j:Nat}(h:Bq N (j+1) T s)(h1:1≤j)(h2:j≤5)(h3:j=4->∀r,acc fZ (T++r)=none):Bq N j T s:=by
 intro r hr;have hn:=h r (hr.mono (Nat.le_succ j))
 match j,h1,h2,h3 with
 | 1,_,_,_=>
  show qp N .S (T++r)=_;have hn:qp N .A (T++r)=.ok s r:=hn;rw[cm];simp only[bg,hn,QR.bind];rw[cm];simp only[bg,hr.o (by omega),lR]
 | 2,_,_,_=>
  show qp N .A (T++r)=_;have hn:qp N .D (T++r)=.ok s r:=hn;rw[cm];simp only[bg,hn,QR.bind];rw[cm];simp only[bg,hr.a (by omega),lR]
 | 3,_,_,_=>
  show qp N .D (T++r)=_;have hn:qp N .H (T++r)=.ok s r:=hn;rw[cm];simp only[bg,hn,QR.bind];rw[cm];simp only[bg,hr.d (by omega)]
 | 4,_,_,h3=>
  show qp N .H (T++r)=_;have hn:qp N .R (T++r)=.ok s r:=hn;rw[cm];simp only[bg,h3 rfl r,hn]
 | 5,_,_,_=>
  show qp N .R (T++r)=_;have hn:qp N .U (T++r)=.ok s r:=hn;rw[cm];simp only[bg,hn,QR.bind];rw[cm];simp only[bg,hr.b (by omega)]
theorem EH{T:List Tok}{s:Ts}{k0:Nat}(h:Bq N k0 T s)(h6:k0≤6)(h3:4<k0->∀r,acc fZ (T++r)=none):∀n k,k0=k+n->1≤k->Bq N k T s
 | 0,k,e,_=>by have:k0=k:=e
               rw[<-this];exact h
 | n+1,k,e,h1=>NE (EH h h6 h3 n (k+1) (by omega) (by omega)) h1 (by omega) fun e=>h3 (by omega)
theorem JW{T:List Tok}{s:Ts}(h:Bq N 1 T s):Bq N 6 (tm (aa 40)::(T++[tm (aa 41)])) s:=by
 intro r hr;show qp N .U _=_;rw[cm];simp only[bg,Ru];rw[bJ (t:=tm (aa 40)) (m:=aa 123) (by decide +kernel)];simp only;rw[cZ (ch _ (by simp))];have:=h (tm (aa 41)::r) (lz (by simp) 1 r);have hp:qk 1=.S:=rfl;rw[hp]at this;simp only[Rv,RA,this,QR.bind];rw[bJ (t:=tm (aa 41)) (m:=aa 44) (by decide +kernel)];simp only;rw[cZ (ch _ (by simp))]
structure RTS(N:Int)(s:Ts):Prop where
 at_:∀k:Nat,1≤k->k≤6->Bq N k (tkS k s) s
 d:∀r,StopS 4 r->qp N .D (tkS 3 s++r)=qp N (.Dp s) r
 r:∀r,qp N .R (tkS 5 s++r)=qp N (.Rp s) r
 nh:∀r,acc fZ (tkS 5 s++r)=none
theorem EZ(o:Int):1≤lvT o/\lvT o≤6:=by
 unfold lvT;repeat' split
 all_goals decide
theorem NQ(s:Ts):tkS 1 s=eO s:=by unfold tkS;rw[if_neg (by have:=(EZ s.op).1;omega)]
theorem Kb{T:List Tok}{s:Ts}(h:Bq N 4 T s){r:List Tok}(hr:StopS 4 r):qp N .D (T++r)=qp N (.Dp s) r:=by
 have hn:qp N .H (T++r)=.ok s r:=h r hr;rw[cm];simp only[bg,hn,QR.bind]
theorem K3{T:List Tok}{s:Ts}(h:Bq N 6 T s)(r:List Tok):qp N .R (T++r)=qp N (.Rp s) r:=by
 have hn:qp N .U (T++r)=.ok s r:=h r ⟨fun e=>by omega,fun e=>by omega,fun e=>by omega,fun e=>by omega⟩;rw[cm];simp only[bg,hn,QR.bind]
theorem mn{s:Ts}(k0:Nat)(hk:lvT s.op=k0)(hb:Bq N k0 (eO s) s)(hp:4<k0->∀r,acc fZ (eO s++r)=none)
 (hd:k0=3->∀r,StopS 4 r->qp N .D (eO s++r)=qp N (.Dp s) r)(hr:k0=5->∀r,qp N .R (eO s++r)=qp N (.Rp s) r):RTS N s:=by
 have hbd:=EZ s.op;rw[hk]at hbd;have plain:=EH hb (by omega) hp;have b1:Bq N 1 (eO s) s:=plain (k0-1) 1 (by omega) (RK _);have pr:=EH (JW b1) (RK 6) fun _ r=>bJ (t:=tm (aa 40)) (by decide +kernel)
 have at_:∀k:Nat,1≤k->k≤6->Bq N k (tkS k s) s:=by
  intro k g1 g2;unfold tkS;rw[hk];split
  .exact pr (6-k) k (by omega) g1
  .exact plain (k0-k) k (by omega) g1
 refine⟨at_,fun r h=>?_,fun r=>?_,fun r=>?_⟩
 .by_cases e:k0=3
  .have:tkS 3 s=eO s:=by unfold tkS;rw[hk,if_neg (by omega)]
   rw[this];exact hd e r h
  .have:tkS 3 s=tkS 4 s:=by
    unfold tkS;rw[hk];by_cases g:(k0:Int)<3
    .rw[if_pos g,if_pos (by omega)]
    .rw[if_neg g,if_neg (by omega)]
   rw[this];exact Kb (at_ 4 (by omega) (by omega)) h
 .by_cases e:k0=5
  .have:tkS 5 s=eO s:=by unfold tkS;rw[hk,if_neg (by omega)]
   rw[this];exact hr e r
  .have:tkS 5 s=tkS 6 s:=by
    unfold tkS;rw[hk];by_cases g:(k0:Int)<5
    .rw[if_pos g,if_pos (by omega)]
    .rw[if_neg g,if_neg (by omega)]
   rw[this];exact K3 (at_ 6 (by omega) (by omega)) r
 .unfold tkS;rw[hk];split
  .exact bJ (t:=tm (aa 40)) (by decide +kernel)
  .exact hp (by omega) r
theorem t8(w:ByteArray):∀l:List Pc,tks (ru w l)=match l with | []=>[]|a::r=>tks a++(r.map fun b=>tw w::tks b).flatten
 | []=>rfl
 | [a]=>by simp[ru]
 | a::b::r=>by
  have:=t8 w (b::r);simp only[ru,dV,tks,this,Rw,Ry];simp
theorem Hl(l:List Ts)(h:∀a,a∈l->RTS N a):∀(x:List Ts) (r:List Tok),StopS 1 r->qp N (.Sp x) (((l.map (tkS 2)).map fun b=>tw orW::b).flatten++r)=.ok (lR 4 (x++l)) r:=by
 induction l with
 | nil=>
  intro x r hr;rw[cm];simp[bg,hr.o (by omega)]
 | cons a l ih=>
  intro x r hr;have ha:=h a (by simp);have ih:=ih (fun b hb=>h b (by simp[hb]));rw[cm];simp only[Rw,Ry,Ru,Rv,bg];rw[om (gw _ (by simp))];have h2:=ha.at_ 2 (by omega) (by omega)
  have hs:StopS 2 (((l.map (tkS 2)).map fun b=>tw orW::b).flatten++r):=by
   cases l with
   | nil=>exact hr.mono (by omega)
   | cons b l=>simp only[Rw,Ry,Ru];exact wC _
  have h3:qp N .A (tkS 2 a++(((l.map (tkS 2)).map fun b=>tw orW::b).flatten++r))=.ok a _:=h2 _ hs;simp only;rw[h3];simp only[QR.bind];rw[ih (x++[a]) r hr];simp
theorem F7(l:List Ts)(h:∀a,a∈l->RTS N a):∀(x:List Ts) (r:List Tok),StopS 2 r->qp N (.Ap x) (((l.map (tkS 3)).map fun b=>tw jx::b).flatten++r)=.ok (lR 5 (x++l)) r:=by
 induction l with
 | nil=>
  intro x r hr;rw[cm];simp[bg,hr.a (by omega)]
 | cons a l ih=>
  intro x r hr;have ha:=h a (by simp);have ih:=ih (fun b hb=>h b (by simp[hb]));rw[cm];simp only[Rw,Ry,Ru,Rv,bg];rw[om (gw _ (by simp))];have h2:=ha.at_ 3 (by omega) (by omega)
  have hs:StopS 3 (((l.map (tkS 3)).map fun b=>tw jx::b).flatten++r):=by
   cases l with
   | nil=>exact hr.mono (by omega)
   | cons b l=>simp only[Rw,Ry,Ru];exact sR _
  have h3:qp N .D (tkS 3 a++(((l.map (tkS 3)).map fun b=>tw jx::b).flatten++r))=.ok a _:=h2 _ hs;simp only;rw[h3];simp only[QR.bind];rw[ih (x++[a]) r hr];simp
theorem Ts.ext{s:Ts}{o lo hi:Int}{e:Ex}{n:ByteArray}{l:List Ts}(h1:s.op=o)(h2:s.lo=lo)(h3:s.hi=hi)(h4:s.ex=e)(h5:s.name=n)(h6:s.args=l):Ts.mk o lo hi e n l=s:=by
 cases s;simp only[Ts.op,Ts.lo,Ts.hi,Ts.ex,Ts.name,Ts.args]at *;subst h1 h2 h3 h4 h5 h6;rfl
theorem rx{o:Int}:∀{l:List Ts},2≤l.length->lR o l=nT o 0 0 l
 | [],h=>by simp at h
 | [_],h=>by simp at h
 | _::_::_,_=>rfl
theorem IX(s:Ts):OkT s->RTS N s:=by
 induction s using Ts.ind with
 | h s ih=>
 intro hs;have hn:=hs.nd;have harg:=fun a ha=>ih a ha (hs.arg ha);have htok:eO s=tks (dE s.op s.lo s.hi s.ex s.name (s.args.map fun a=>(a.op,pcS a))):=by unfold eO;rw[xN]
 rcases hn.sh with⟨o,h,l0,h0⟩|⟨o,⟨a,b,h⟩,h0,h1,h2⟩|⟨o,⟨a,h⟩,h0,h1,h2⟩|⟨o,h0,h1,h2,h2'⟩|⟨o,⟨a,h⟩,h0,h1⟩
 .
  have hT:eO s=tm (aa 123)::(tks (pcE s.ex)++[tm (aa 125)]):=by
   rw[htok];unfold dE;rw[o];simp[tks,dV]
  refine mn 6 (by rw[o];rfl) (fun r hr=>?_) (fun _ r=>?_) (fun e=>by omega) (fun e=>by omega)
  .show qp N .U _=_;rw[hT,cm];simp only[bg,Ru,Rv,RA,Rx];rw[cM (ch _ (by simp))];simp only;rw[qw (hn.ex (.inl o)) (by simp),cZ (ch _ (by simp))];rw[Ts.ext (s:=s) o l0 h0 rfl (hn.zn (by omega)) h]
  .rw[hT];exact bJ (t:=tm (aa 123)) (by decide +kernel)
 .
  have ra:=harg a (by rw[h];simp);have rb:=harg b (by rw[h];simp)
  have hT:eO s=tkS 3 a++tm (aF 35 35)::(tks (kX s.lo s.hi)++tkS 4 b):=by
   have e1:=f6 3 a;have e2:=f6 4 b;unfold qK at e1 e2;rw[htok];unfold dE;rw[o,h];simp[tks,dV,e1,e2]
  have hS:Ts.mk 2 s.lo s.hi zEx ⟨#[]⟩ [a,b]=s:=Ts.ext o rfl rfl (hn.zx (by omega)) (hn.zn (by omega)) h
  have key:∀r,StopS 4 r->qp N .D (eO s++r)=qp N (.Dp s) r:=by
   intro r hr;rw[hT];simp only[Rv,Ru];rw[ra.d _ (BO _),cm];simp only[bg];rw[cM (gp _ (by simp))];have hB:qp N .H (tkS 4 b++r)=.ok b r:=rb.at_ 4 (by omega) (by omega) r hr;simp only;unfold kX;by_cases he:s.lo=s.hi
   .rw[if_pos he];simp only[tks,Ru,Rx];rw[rc];simp only;rw[nS h0 (by omega),hB];simp only[QR.bind,nT];rw[show Ts.mk 2 s.lo s.lo zEx ⟨#[]⟩ [a,b]=s from(by have h9:=hS;rw[<-he]at h9;exact h9)]
   .rw[if_neg he];simp only[tks,Ru,Rx];rw[cM (ch _ (by simp))];simp only;rw[nS h0 (by omega),cZ (ch _ (by simp)),nS (by omega) h2,cZ (ch _ (by simp)),hB];simp only[QR.bind,nT];rw[hS]
  refine mn 3 (by rw[o];rfl) (fun r hr=>?_) (fun e=>by omega) (fun _=>key) (fun e=>by omega);show qp N .D _=_;rw[key r (hr.mono (by omega)),cm];simp only[bg,hr.d (by omega)]
 .
  have ra:=harg a (by rw[h];simp)
  have hT:eO s=tkS 5 a++tm (aa 91)::tm (aa 42)::(tks (m8 s.lo s.hi)++[tm (aa 93)]):=by
   have e1:=f6 5 a;unfold qK at e1;rw[htok];unfold dE;rw[o,h];simp[tks,dV,e1]
  have hS:Ts.mk 3 s.lo s.hi zEx ⟨#[]⟩ [a]=s:=Ts.ext o rfl rfl (hn.zx (by omega)) (hn.zn (by omega)) h
  have key:∀r,qp N .R (eO s++r)=qp N (.Rp s) r:=by
   intro r;rw[hT];simp only[Rv,Ru];rw[ra.r,cm];simp only[bg];rw[cM (ch _ (by simp))];simp only;rw[cZ (gp _ (by simp))];unfold m8;by_cases he:s.lo=s.hi
   .rw[if_pos he];simp only[tks,Ru,Rx];rw[nS (by omega) (by omega),bJ (t:=tm (aa 93)) (m:=aa 58) (by decide +kernel)];simp only;rw[cZ (ch _ (by simp))];simp only[nT];rw[show Ts.mk 3 s.lo s.lo zEx ⟨#[]⟩ [a]=s from(by have h9:=hS;rw[<-he]at h9;exact h9)]
   .rw[if_neg he];simp only[tks,Ru,Rx];rw[nS (by omega) (by omega),cM (ch _ (by simp))];simp only;rw[nS (by omega) h2,cZ (ch _ (by simp))];simp only[nT];rw[hS]
  have hno:∀r,acc fZ (eO s++r)=none:=fun r=>by
   rw[hT];simp only[Rv];exact ra.nh _
  refine mn 5 (by rw[o];rfl) (fun r hr=>?_) (fun _=>hno) (fun e=>by omega) (fun _=>key);show qp N .R _=_;rw[key r,cm];simp only[bg,hr.b (by omega)]
 .
  have hm:∀k:Int,((s.args.map (qK k)).map tks)=s.args.map (tkS k):=fun k=>by rw[RC];exact Rz fun a _=>f6 k a
  obtain⟨a,l,hl⟩:∃a l,s.args=a::l:=by
   cases hs:s.args with
   | nil=>rw[hs]at h0;simp at h0
   | cons a l=>exact⟨a,l,rfl⟩
  have ra:=harg a (by rw[hl];simp);have rl:∀b,b∈l->RTS N b:=fun b hb=>harg b (by rw[hl];simp[hb]);rcases o with o|o
  .have hT:eO s=tkS 2 a++((l.map (tkS 2)).map fun b=>tw orW::b).flatten:=by
    rw[htok];unfold dE;rw[o,if_pos rfl,lL,hl];rw[t8];simp only[Rw,f6,RC];congr 2;exact Rz fun b _=>by simp only[Function.comp,f6]
   have hS:Ts.mk 4 0 0 zEx ⟨#[]⟩ (a::l)=s:=Ts.ext o h2 h2' (hn.zx (by omega)) (hn.zn (by omega)) hl;refine mn 1 (by rw[o];rfl) (fun r hr=>?_) (fun e=>by omega) (fun e=>by omega) (fun e=>by omega);show qp N .S _=_;rw[hT,cm]
   have hs:StopS 2 (((l.map (tkS 2)).map fun b=>tw orW::b).flatten++r):=by
    cases l with
    | nil=>exact hr.mono (by omega)
    | cons b l=>simp only[Rw,Ry,Ru];exact wC _
   have h3:qp N .A (tkS 2 a++(((l.map (tkS 2)).map fun b=>tw orW::b).flatten++r))=.ok a _:=ra.at_ 2 (by omega) (by omega) _ hs;simp only[bg,Rv];rw[h3];simp only[QR.bind];rw[Hl l rl [a] r hr,RA,rx (by rw[<-hl];exact h0)];simp only[nT];rw[hS]
  .have hT:eO s=tkS 3 a++((l.map (tkS 3)).map fun b=>tw jx::b).flatten:=by
    rw[htok];unfold dE;rw[o,if_neg (by decide),if_pos rfl,lL,hl];rw[t8];simp only[Rw,f6,RC];congr 2;exact Rz fun b _=>by simp only[Function.comp,f6]
   have hS:Ts.mk 5 0 0 zEx ⟨#[]⟩ (a::l)=s:=Ts.ext o h2 h2' (hn.zx (by omega)) (hn.zn (by omega)) hl;refine mn 2 (by rw[o];rfl) (fun r hr=>?_) (fun e=>by omega) (fun e=>by omega) (fun e=>by omega);show qp N .A _=_;rw[hT,cm]
   have hs:StopS 3 (((l.map (tkS 3)).map fun b=>tw jx::b).flatten++r):=by
    cases l with
    | nil=>exact hr.mono (by omega)
    | cons b l=>simp only[Rw,Ry,Ru];exact sR _
   have h3:qp N .D (tkS 3 a++(((l.map (tkS 3)).map fun b=>tw jx::b).flatten++r))=.ok a _:=ra.at_ 3 (by omega) (by omega) _ hs;simp only[bg,Rv];rw[h3];simp only[QR.bind];rw[F7 l rl [a] r hr,RA,rx (by rw[<-hl];exact h0)];simp only[nT];rw[hS]
 .
  have ra:=harg a (by rw[h];simp);rcases o with o|o
  .have hT:eO s=tm (aa 40)::(eO a++tm (aa 44)::tn s.name::tm (aa 61)::(tks (pcE s.ex)++[tm (aa 41)])):=by
    rw[htok];unfold dE;rw[o,h];simp[tks,dV,eO]
   refine mn 6 (by rw[o];rfl) (fun r hr=>?_) (fun _ r=>?_) (fun e=>by omega) (fun e=>by omega)
   .show qp N .U _=_;rw[hT,cm];simp only[bg,Ru,Rv,RA,Rx];rw[bJ (t:=tm (aa 40)) (m:=aa 123) (by decide +kernel)];simp only;rw[cZ (ch _ (by simp))];have h3:=ra.at_ 1 (by omega) (by omega) _ (lz (m:=aa 44) (by simp) 1 (tn s.name::tm (aa 61)::(tks (pcE s.ex)++tm (aa 41)::r)));rw[show tkS ((1:Nat):Int) a=eO a from NQ a]at h3;have h3:qp N .S (eO a++tm (aa 44)::tn s.name::tm (aa 61)::(tks (pcE s.ex)++tm (aa 41)::r))=_:=h3;rw[h3];simp only[QR.bind];rw[cM (ch _ (by simp))];simp only;rw[As (hn.nm o),cZ (gp _ (by simp)),qw (hn.ex (.inr (.inl o))) (by simp),cZ (ch _ (by simp))];rw[Ts.ext (s:=s) o h0 h1 rfl rfl h]
   .rw[hT];exact bJ (t:=tm (aa 40)) (by decide +kernel)
  .have hT:eO s=tw fZ::tm (aa 123)::(tks (pcE s.ex)++tm (aa 125)::tw inW::tkS 4 a):=by
    have e1:=f6 4 a;unfold qK at e1;rw[htok];unfold dE;rw[o,h];simp[tks,dV,e1]
   refine mn 4 (by rw[o];rfl) (fun r hr=>?_) (fun e=>by omega) (fun e=>by omega) (fun e=>by omega);show qp N .H _=_;rw[hT,cm];simp only[bg,Ru,Rv];rw[om (gw _ (by simp))];simp only;rw[cZ (ch _ (by simp)),qw (hn.ex (.inr (.inr o))) (by simp),cZ (ch _ (by simp)),A5 (gw _ (by simp))];have h3:qp N .H (tkS 4 a++r)=.ok a r:=ra.at_ 4 (by omega) (by omega) r hr;rw[h3];simp only[QR.bind];rw[Ts.ext (s:=s) o h0 h1 rfl (hn.zn (by omega)) h]
end
end Go.Proofs.YthekkgfmagliiaaGreatDoor
namespace Go.Proofs.YthekkgfmagliiaaGreatDoor
open Go.RowKit
open Nat renaming reduceLeDiff -> jA, reduceBEq -> jB, reduceLT -> jC, reduceEqDiff -> jD, reduceAdd -> jE, reduceSub -> jF, reduceMul -> jG
open V renaming copy -> jV, lend -> jW, lend1 -> jX, cells -> jY, boxable -> jZ
theorem C6{c:UInt8}{q:Bs}(h:inn c=false/\c≠61/\c≠62):Hq (c::q):=by
 intro x hx;simp only[List.head?_cons,Option.some.injEq]at hx;subst hx;exact h
theorem uj{c x:UInt8}{q:Bs}(hb:ck [c,x]=1)(h:bl (tm (aa c))=true/\fh c.toNat=false/\da c.toNat=false/\ip c=false/\c≠47):Fine (tm (aa c)) (x::q):=by
 obtain⟨h3,h4,h5,h6,h7⟩:=h;have hb2:ck (c::x::q)=1:=by rw[lI];exact hb
 refine⟨h3,by simp[tm,aa],?_,dA h6 h7⟩;show bG (c::x::q)=.tok 4 0 1;simp only[bG,h4,h5,hb2];rfl
theorem Ja{c d:UInt8}{q:Bs}(hb:ck [c,d]=2)(h:bl (tm (aF c d))=true/\fh c.toNat=false/\da c.toNat=false/\ip c=false/\c≠47):Fine (tm (aF c d)) q:=by
 obtain⟨h3,h4,h5,h6,h7⟩:=h;have hb2:ck (c::d::q)=2:=by rw[lI];exact hb
 refine⟨h3,by simp[tm,aF],?_,dA h6 h7⟩;show bG (c::d::q)=.tok 4 0 2;simp only[bG,h4,h5,hb2];rfl
theorem Hs(n:Int)(X:Pc)(q:Bs):∃(x:UInt8) (r:Bs),txt (some (td n)::X)++q=x::r/\da x.toNat=true:=by
 obtain⟨c,r,h1,-,-⟩:=rN n.toNat;have hd:=pP n.toNat c (by rw[h1];simp);refine⟨c,r++txt X++q,?_,hd⟩;simp only[txt,td,uk,h1];simp
theorem Fk:∀c,c∈[(42:UInt8),58]->∀n:Nat,n<256->da n=true->ck [c,UInt8.ofNat n]=1:=by decide +kernel
theorem nD{c:UInt8}(hc:c∈[(42:UInt8),58])(n:Int)(X:Pc)(q:Bs):Fine (tm (aa c)) (txt (some (td n)::X)++q):=by
 obtain⟨x,r,h1,h2⟩:=Hs n X q;rw[h1];have hb:=Fk c hc x.toNat x.toNat_lt h2;rw[UInt8.ofNat_toNat]at hb;exact uj hb ((by decide +kernel:∀c,c∈[(42:UInt8),58]->bl (tm (aa c))=true/\fh c.toNat=false/\da c.toNat=false/\ip c=false/\c≠47) c hc)
theorem ly{n:Int}(h0:0≤n)(h1:n≤16){X:Pc}{q:Bs}(hq:Hq (txt X++q))(hX:good X q):good (some (td n)::X) q:=fM (na h0 (by omega)) (AK _) hq hX
theorem EC(q:Bs):Fine (tm (aF 35 35)) q:=Ja (by decide +kernel) (by decide +kernel)
theorem qz(k:Int){o:Int}{X:Pc}(hX:GT X):GT (atP k (o,X)):=by
 unfold atP;simp only;split
 .refine⟨fun q hq=>bV (by decide) ?_ (cd _ _ q (hX.g _ (cB (by decide))) (bV (by decide) ?_ trivial)),ny (by decide) _⟩
  .rw[b6,Rv];exact hX.h.q _
  .exact hq.k
 .exact hX
theorem u9{w:ByteArray}(hw:bl (tw w)=true):∀{l:List Pc},l≠[]->(∀X,X∈l->GT X)->GT (ru w l)
 | [],h,_=>absurd rfl h
 | [a],_,h=>h a (by simp)
 | a::b::r,_,h=>by
  have ha:=h a (by simp);have ih:=u9 hw (l:=b::r) (by simp) fun X hX=>h X (by simp only[RJ]at hX ⊢;exact .inr hX);exact⟨fun q hq=>cd _ _ q (ha.g _ (cB (by decide))) (ce hw (ih.g q hq)),ha.h.app _⟩
theorem y0{lo hi:Int}(h0:0≤lo)(h1:lo≤hi)(h2:hi≤16){q:Bs}(hq:Hq q):good (m8 lo hi) q:=by
 unfold m8;split
 .exact ly h0 (by omega) hq trivial
 .exact ly h0 (by omega) (C6 (by decide)) ⟨nD (by decide) _ _ _,ly (by omega) h2 hq trivial⟩
theorem xh{lo hi:Int}(h0:0≤lo)(h1:lo≤hi)(h2:hi≤16){q:Bs}(hq:Hq q):good (kX lo hi) q:=by
 unfold kX;split
 .exact ly h0 (by omega) hq trivial
 .refine bV (by decide) ((jm (na h0 (by omega)) (AK _) _).q _) ?_;exact ly h0 (by omega) (C6 (by decide)) ⟨nD (by decide) _ _ _,ly (by omega) h2 (cB (by decide)) (bV (by decide) hq.k trivial)⟩
theorem gtE{e:Ex}(h:aZ e=0):GT (pcE e):=KW e (kO h)
theorem kqE{e:Ex}(h:aZ e=0)(Y:Pc)(q:Bs):Kq (txt (pcE e++Y)++q):=((gtE h).h.app Y).q q
theorem DZ(s:Ts):OkT s->GT (pcS s):=by
 induction s using Ts.ind with
 | h s ih=>
 intro hs;have hn:=hs.nd;have harg:=fun a ha=>ih a ha (hs.arg ha);rw[xN];rcases hn.sh with⟨o,h⟩|⟨o,⟨a,b,h⟩,h0,h1,h2⟩|⟨o,⟨a,h⟩,h0,h1,h2⟩|⟨o,h0,h1,h2⟩|⟨o,⟨a,h⟩,h0,h1⟩
 .have he:=hn.ex (.inl o);have hN:dE s.op s.lo s.hi s.ex s.name (s.args.map fun a=>(a.op,pcS a))=some (tm (aa 123))::(pcE s.ex++[some (tm (aa 125))]):=by unfold dE;rw[o];simp
  rw[hN];exact⟨fun q hq=>bV (by decide) (kqE he _ _) (cd _ _ q ((gtE he).g _ (C6 (by decide))) (bV (by decide) hq.k trivial)),ny (by decide) _⟩
 .have ea:=qz 3 (o:=a.op) (harg a (by rw[h];simp));have eb:=qz 4 (o:=b.op) (harg b (by rw[h];simp));have hN:dE s.op s.lo s.hi s.ex s.name (s.args.map fun a=>(a.op,pcS a))=atP 3 (a.op,pcS a)++none::some (tm (aF 35 35))::(kX s.lo s.hi++none::atP 4 (b.op,pcS b)):=by unfold dE;rw[o,h];simp
  rw[hN];exact⟨fun q hq=>cd _ _ q (ea.g _ (cB (by decide))) ⟨EC _,cd _ _ q (xh h0 h1 h2 (cB (by decide))) (eb.g q hq)⟩,ea.h.app _⟩
 .have ea:=qz 5 (o:=a.op) (harg a (by rw[h];simp));have hN:dE s.op s.lo s.hi s.ex s.name (s.args.map fun a=>(a.op,pcS a))=atP 5 (a.op,pcS a)++none::some (tm (aa 91))::some (tm (aa 42))::(m8 s.lo s.hi++[some (tm (aa 93))]):=by unfold dE;rw[o,h];simp
  rw[hN];refine⟨fun q hq=>cd _ _ q (ea.g _ (cB (by decide))) (bV (c:=91) (by decide) ?_ ⟨?_,cd _ _ q (y0 (by omega) h1 h2 (cB (by decide))) (bV (by decide) hq.k trivial)⟩),ea.h.app _⟩
  .intro x hx;have:x=42:=by simpa[txt,tm,aa]using hx.symm
   subst this;decide
  .unfold m8;split
   .exact nD (by decide) _ _ _
   .exact nD (by decide) _ _ _
 .have hne:s.args≠[]:=by intro h;rw[h]at h0;simp at h0
  have hG:∀k:Int,∀X,X∈s.args.map (qK k)->GT X:=fun k X hX=>by
   obtain⟨a,ha,rfl⟩:=List.mem_map.1 hX;exact qz k (harg a ha)
  rcases o with o|o
  .have hN:dE s.op s.lo s.hi s.ex s.name (s.args.map fun a=>(a.op,pcS a))=ru orW (s.args.map (qK 2)):=by unfold dE;rw[o,if_pos rfl,lL]
   rw[hN];exact u9 (gw _ (by simp)) (by simpa using hne) (hG 2)
  .have hN:dE s.op s.lo s.hi s.ex s.name (s.args.map fun a=>(a.op,pcS a))=ru jx (s.args.map (qK 3)):=by unfold dE;rw[o,if_neg (by decide),if_pos rfl,lL]
   rw[hN];exact u9 (gw _ (by simp)) (by simpa using hne) (hG 3)
 .have ga:=harg a (by rw[h];simp);rcases o with o|o
  .have he:=hn.ex (.inr (.inl o));have hN:dE s.op s.lo s.hi s.ex s.name (s.args.map fun a=>(a.op,pcS a))=some (tm (aa 40))::(pcS a++some (tm (aa 44))::none::some (tn s.name)::none::some (tm (aa 61))::none::(pcE s.ex++[some (tm (aa 41))])):=by unfold dE;rw[o,h];simp
   rw[hN];refine⟨fun q hq=>bV (by decide) ((ga.h.app _).q _) (cd _ _ q (ga.g _ (cB (by decide))) (ce (ch _ (by simp)) (ce (eH (hn.nm o)) (ce (gp _ (by simp)) (cd _ _ q ((gtE he).g _ (cB (by decide))) (bV (by decide) hq.k trivial)))))),ny (by decide) _⟩
  .have he:=hn.ex (.inr (.inr o));have ea:=qz 4 (o:=a.op) ga;have hN:dE s.op s.lo s.hi s.ex s.name (s.args.map fun a=>(a.op,pcS a))=some (tw fZ)::none::some (tm (aa 123))::(pcE s.ex++some (tm (aa 125))::none::some (tw inW)::none::atP 4 (a.op,pcS a)):=by unfold dE;rw[o,h];simp
   rw[hN];refine⟨fun q hq=>ce (gw _ (by simp)) (bV (by decide) (kqE he _ _) (cd _ _ q ((gtE he).g _ (C6 (by decide))) (ce (ch _ (by simp)) (ce (gw _ (by simp)) (ea.g q hq))))),jm (gw _ (by simp)) (by decide) _⟩
theorem y6{X:Pc}(h:good X []):∃ts,cS (txt X)=.ok ts/\Sq ts (tks X):=by
 obtain⟨h1,h2⟩:=oc X 1 h;refine⟨_,by unfold cS;rw[h2];exact h1,?_⟩;unfold Sq;rw[RC];exact Rz fun _ _=>rfl
theorem mr{N:Int}{s:Ts}(h:OkT s){r:List Tok}(hr:StopS 1 r):qp N .S (eO s++r)=.ok s r:=by
 have:=(IX (N:=N) s h).at_ 1 (by omega) (by omega) r hr;rw[show tkS ((1:Nat):Int) s=eO s from NQ s]at this;exact this
theorem x5{r:List Tok}(h:Sq [] r):r=[]:=by
 have:=h.len;exact RE (by simpa using this.symm)
theorem Sq.symm{a b:List Tok}(h:Sq a b):Sq b a:=Eq.symm h
def Af(p:Pr):Pc:=if p.plain=true then some (tw ja)::none::pcS p.then_ else pcS p.cond++none::some (tm (aa 124))::some (tm (if p.over=true then aF 45 62 else aF 61 62))::none::pcS p.then_
def pcP(p:Pr):Pc:=some (tw qb)::none::some (tn p.name)::some (tm (aa 58))::none::(Af p++[some (tm (aa 59))])
theorem FI{p:Pr}(h:PrV p):txt (pcP p)=mg p:=by
 have h1:=Aw _ (eC h.th);unfold pcP Af mg;cases hp:p.plain with
 | true=>simp[txt,b6,tw,tn,tm,aa,qb,ja,su,h1]
 | false=>
  have h2:=Aw _ (eC (h.co hp));cases ho:p.over<;>simp[txt,b6,tw,tn,tm,aa,aF,qb,su,h1,h2]
theorem Dl{p:Pr}(h:PrV p):good (pcP p) []:=by
 have gt:=DZ _ (eC h.th)
 have tail:good [some (tm (aa 59))] []:=by
  obtain⟨h1,h2,h3⟩:=mJ (t:=tm (aa 59)) (gp _ (by simp)) (q:=[]) (fun x hx=>by simp at hx);exact⟨⟨gp _ (by simp),h1,h2,h3⟩,trivial⟩
 have hq59:Hq (txt [some (tm (aa 59))]++[]):=C6 (c:=59) (by decide);refine ce (gw _ (by simp)) (fM (eH h.nm) (kA _) (C6 (by decide)) (ce (ch _ (by simp)) (cd _ _ _ ?_ tail)));unfold Af;cases hp:p.plain with
 | true=>exact ce (gw _ (by simp)) (gt.g _ hq59)
 | false=>
  have gc:=DZ _ (eC (h.co hp));rw[if_neg (by decide)];cases ho:p.over with
  | true=>exact cd _ _ _ (gc.g _ (cB (by decide))) ⟨uj (x:=45) (by decide +kernel) (by decide +kernel),ce (gp _ (by simp)) (gt.g _ hq59)⟩
  | false=>exact cd _ _ _ (gc.g _ (cB (by decide))) ⟨uj (x:=61) (by decide +kernel) (by decide +kernel),ce (gp _ (by simp)) (gt.g _ hq59)⟩
def K6(p:Pr):List Tok:=tks (pcP p)
theorem BJ{s:Ts}(h:OkT s)(r:List Tok):acc ja (eO s++r)=none:=by
 cases hx:acc ja (eO s++r)with
 | none=>rfl
 | some q=>
  exfalso;have h1:=mr (N:=1) h (C4 1);obtain⟨t,e1,e2,e3,e4⟩:=xg hx;rw[RF]at h1
  have hne:eO s≠[]:=by
   intro e;have:=G2 h1;rw[e]at this;simp[QK.eats]at this
  obtain⟨t',l,hl⟩:=List.exists_cons_of_ne_nil hne;rw[hl]at e1 h1;simp only[Ru,List.cons.injEq]at e1;obtain⟨rfl,-⟩:=e1
  have hU:qp 1 .U (t'::l)=jl 1 (t'::l):=by
   rw[cm];simp only[bg];rw[bJ (by rw[e4];decide +kernel)];simp only;unfold cu;rw[bJ (by rw[e4];decide +kernel)]
  have hR:qp 1 .R (t'::l)=jl 1 (t'::l):=by rw[cm];simp only[bg,hU];rfl
  have hH:qp 1 .H (t'::l)=jl 1 (t'::l):=by
   rw[cm];simp only[bg];rw[bJ (by rw[e4];decide +kernel)];exact hR
  have hD:qp 1 .D (t'::l)=jl 1 (t'::l):=by rw[cm];simp only[bg,hH];rfl
  have hA:qp 1 .A (t'::l)=jl 1 (t'::l):=by rw[cm];simp only[bg,hD];rfl
  have hS:qp 1 .S (t'::l)=jl 1 (t'::l):=by rw[cm];simp only[bg,hA];rfl
  rw[hS]at h1;cases h1
theorem zi{N:Int}{p:Pr}(h:PrV p)(r:List Tok):kB N (K6 p++r)=.ok p r:=by
 have ht:=eC h.th;have hpS:∀r,qp N .S (eO p.then_++tm (aa 59)::r)=.ok p.then_ (tm (aa 59)::r):=fun r=>mr ht (lz (by simp) 1 r);unfold kB K6 pcP;simp only[tks,Ru];rw[A5 (gw _ (by simp)),As h.nm,cZ (ch _ (by simp))];unfold Af;cases hp:p.plain with
 | true=>
  obtain⟨h1,h2⟩:=h.pl hp;simp only[if_true,tks,dV,Ru,Rv,Rx];rw[om (gw _ (by simp))];simp only;rw[show tks (pcS p.then_)=eO p.then_ from rfl,hpS];simp only[QR.bind];rw[cZ (gp _ (by simp)),<-hp,<-h1,<-h2]
 | false=>
  have hc:=eC (h.co hp);simp only[Rs,if_false,tks,dV,Ru,Rv,Rx];rw[show tks (pcS p.then_)=eO p.then_ from rfl,show tks (pcS p.cond)=eO p.cond from rfl,BJ hc];simp only;rw[mr hc (lz (m:=aa 124) (by simp) 1 _)];simp only[QR.bind];rw[cZ (gp _ (by simp))];cases ho:p.over with
  | true=>
   simp only[if_true];rw[cM (gp _ (by simp))];simp only;rw[hpS];simp only;rw[cZ (gp _ (by simp)),<-hp,<-ho]
  | false=>
   simp only[Rs,if_false];rw[bJ (t:=tm (aF 61 62)) (m:=aF 45 62) (by decide +kernel)];simp only;rw[cZ (gp _ (by simp)),hpS];simp only;rw[cZ (gp _ (by simp)),show(⟨p.name,false,false,p.cond,p.then_⟩:Pr)=p by cases p;simp_all]
theorem sO{p:Pr}(h:PrV p):∃ts,cS (mg p)=.ok ts/\Sq ts (K6 p):=by
 obtain⟨ts,h1,h2⟩:=y6 (Dl h);rw[FI h]at h1;exact⟨ts,h1,h2⟩
theorem Bz{N:Int}{p:Pr}{ts:List Tok}(h:PrV p)(ht:cS (mg p)=.ok ts):kB N ts=.ok p []:=by
 obtain⟨ts',h1,h2⟩:=sO h;rw[ht]at h1;cases h1;have h3:=zi (N:=N) h [];rw[RF]at h3;obtain⟨b,h4,h5⟩:=(AM (N:=N) (N':=N) h2.symm).ok_left h3;rw[h4,x5 h5]
section
variable {α : Type}
def B1(z:α)(valid:α->Int):QR α->Option (α×Int×Int)
 | .out=>none
 | .late=>none
 | .bad l e=>some (z,l,e)
 | .ok s []=>some (if valid s=0 then(s,0,0)else(z,0,valid s))
 | .ok _ (t::_)=>some (z,t.line,5)
def uQ(z:α)(valid:α->Int)(f:List Tok->QR α)(l:Bs):Option (α×Int×Int):=
 if 16384<l.length then some (z,0,2)else match cS l with
  | .err n e=>some (z,n,e)
  | .ok ts=>B1 z valid (f ts)
theorem oL{l:Bs}{n e:Int}(h:cS l=.err n e):e≠0:=by
 suffices H:∀(k:Nat) (N:Int) (l:Bs),l.length≤k->dn N l=.err n e->e≠0 from H _ _ l (RK _) h
 intro k
 induction k with
 | zero=>
  intro N l h ht;have:l=[]:=RE (by omega);subst this;rw[aX,db]at ht;cases ht
 | succ k ih=>
  intro N l h ht;rw[aX]at ht;have hs:=(dH l).length_le;cases hsk:be l with
  | nil=>rw[hsk]at ht;cases ht
  | cons c r=>
   rw[hsk]at ht hs;simp only at ht;cases hrd:bG (c::r)with
   | err e'=>rw[hrd]at ht;cases ht;exact qm hrd
   | tok kd n' len=>
    obtain⟨g1,g2⟩:=iU hrd;rw[hrd]at ht;simp only at ht;have hdl:=List.length_drop (l:=c::r) (i:=len);cases hq:dn N ((c::r).drop len)with
    | err x e'=>
     rw[hq]at ht;cases ht;exact ih N _ (by omega) hq
    | ok us=>rw[hq]at ht;cases ht
theorem I9{z:α}{valid:α->Int}{x:QR α}{v:α}{n:Int}(hb:∀l e,x=.bad l e->e≠0)(h:B1 z valid x=some (v,n,0)):x=.ok v []/\valid v=0/\n=0:=by
 match x,hb,h with
 | .out,_,h=>cases h
 | .late,_,h=>cases h
 | .bad l e,hb,h=>
  simp only[B1,Option.some.injEq,Prod.mk.injEq]at h;exact absurd h.2.2 (hb _ _ rfl)
 | .ok s [],_,h=>
  simp only[B1,Option.some.injEq]at h;split at h
  .rename_i hv;simp only[Prod.mk.injEq]at h;obtain⟨rfl,rfl,-⟩:=h;exact⟨rfl,hv,rfl⟩
  .rename_i hv;simp only[Prod.mk.injEq]at h;exact absurd h.2.2 hv
 | .ok s (t::r),_,h=>
  simp only[B1,Option.some.injEq,Prod.mk.injEq]at h;exact absurd h.2.2 (by decide)
theorem pX{z:α}{valid:α->Int}{f:List Tok->QR α}{l:Bs}{v:α}{n:Int}(hb:∀ts l e,f ts=.bad l e->e≠0)(h:uQ z valid f l=some (v,n,0)):l.length≤16384/\n=0/\valid v=0/\∃ts,cS l=.ok ts/\f ts=.ok v []:=by
 unfold uQ at h;by_cases hl:16384<l.length
 .rw[if_pos hl]at h;simp only[Option.some.injEq,Prod.mk.injEq]at h;exact absurd h.2.2 (by decide)
 .rw[if_neg hl]at h;cases ht:cS l with
  | err n' e'=>
   rw[ht]at h;simp only[Option.some.injEq,Prod.mk.injEq]at h;exact absurd h.2.2 (oL ht)
  | ok ts=>
   rw[ht]at h;obtain⟨h1,h2,h3⟩:=I9 (hb ts) h;exact⟨by omega,h3,h2,ts,rfl,h1⟩
theorem uM{z:α}{valid:α->Int}{f:List Tok->QR α}{l:Bs}{v:α}{ts:List Tok}(ht:cS l=.ok ts)(hf:f ts=.ok v [])(hv:valid v=0):uQ z valid f l=if 16384<l.length then some (z,0,2)else some (v,0,0):=by
 unfold uQ;rw[ht];simp only[hf,B1,hv,if_true]
def rB(z:α)(x:Option (α×Int×Int))(v:α)(n e:Int):Prop:=match x with
 | some r=>r=(v,n,e)
 | none=>v=z/\e≠0
theorem rB.ok{z:α}{x:Option (α×Int×Int)}{v:α}{n e:Int}(h:rB z x v n e)(he:e=0):x=some (v,n,0):=by
 cases x with
 | none=>exact absurd he h.2
 | some r=>rw[show r=(v,n,e)from h,he]
end
def Lc(ts:List Tok):QR Ts:=qp (d6 ts) .S ts
def Jy(ts:List Tok):QR Pr:=kB (d6 ts) ts
def kE(l:Bs):Option (Ts×Int×Int):=uQ zT dM Lc l
def zPr:Pr:=⟨⟨#[]⟩,false,false,zT,zT⟩
def jp(l:Bs):Option (Pr×Int×Int):=uQ zPr eY Jy l
section
variable {α β : Type}
def NBQ(x:QR α):Prop:=∀l e,x=.bad l e->e≠0
theorem nH{x:QR β}{f:β->List Tok->QR α}(h:NBQ x)(hf:∀v r,NBQ (f v r)):NBQ (x.bind f):=by
 cases x with
 | out=>rintro _ _ ⟨⟩
 | late=>rintro _ _ ⟨⟩
 | bad l e=>rintro _ _ ⟨⟩;exact h l e rfl
 | ok v r=>exact hf v r
theorem wy{N:Int}{r:List Tok}:NBQ (jl N r:QR α):=by cases r<;>(rintro _ _ ⟨⟩;decide)
theorem iX{N:Int}{m:ByteArray}{r:List Tok}{f:List Tok->QR α}(hf:∀r,NBQ (f r)):NBQ (cu N m r f):=by
 unfold cu;cases acc m r with|some r1=>exact hf r1|none=>exact wy
theorem Fm{N:Int}{r:List Tok}{f:ByteArray->List Tok->QR α}(hf:∀n r,NBQ (f n r)):NBQ (fO N r f):=by
 unfold fO;cases bw r with|some p=>exact hf _ _|none=>exact wy
theorem yr{v:α}{r:List Tok}:NBQ (.ok v r):=by rintro _ _ ⟨⟩
theorem oQ{N:Int}{k:QK}{r:List Tok}:NBQ (qp N k r):=(tz k r).bad
theorem w9{N:Int}{r:List Tok}:NBQ (kB N r):=by
 refine iX fun _=>Fm fun _ _=>iX fun r3=>?_;cases acc ja r3 with
 | some r4=>exact nH oQ fun _ _=>iX fun _=>yr
 | none=>
  refine nH oQ fun _ _=>iX fun r5=>?_;cases acc (aF 45 62) r5 with
  | some r6=>exact nH oQ fun _ _=>iX fun _=>yr
  | none=>exact iX fun _=>nH oQ fun _ _=>iX fun _=>yr
end
theorem yB{p:Pr}(h:eY p=0):jp (mg p)=if 16384<(mg p).length then some (zPr,0,2)else some (p,0,0):=by
 obtain⟨ts,h1,h2⟩:=sO (y7 h);exact uM h1 (Bz (y7 h) h1) h
theorem yu{l:Bs}{p:Pr}{n:Int}(h:jp l=some (p,n,0)):∃ts,cS l=.ok ts/\jp (cR ts)=if 16384<(cR ts).length then some (zPr,0,2)else some (p,0,0):=by
 obtain⟨hl,-,hv,ts,ht,hf⟩:=pX (fun ts=>w9) h;obtain⟨hg,-⟩:=eo ht;have hj:=BW (l:=ts) fun t ht=>(hg t ht).1;refine⟨ts,ht,uM hj ?_ hv⟩;obtain⟨b,h4,h5⟩:=(AM (N:=d6 ts) (N':=d6 (ts.map fun t=>(⟨t.kind,t.num,t.text,1⟩:Tok))) (r:=ts) (r':=ts.map fun t=>(⟨t.kind,t.num,t.text,1⟩:Tok)) (by unfold Sq;rw[RC];exact Rz fun _ _=>rfl)).ok_left hf;show kB _ _=_;rw[h4,x5 h5]
theorem vI:StopQ [tm (aa 41)]:=⟨fv (by simp) 1 [],by decide +kernel⟩
theorem FD{N N':Int}{ts:List Tok}{s:Ts}(h:qp N .S ts=.ok s []):qp N' .S (tm (aa 40)::(ts++[tm (aa 41)]))=.ok s []:=by
 have h1:qp N' .S (ts++[tm (aa 41)])=.ok s [tm (aa 41)]:=KJ vI h
 have hU:qp N' .U (tm (aa 40)::(ts++[tm (aa 41)]))=.ok s []:=by
  rw[cm];simp only[bg];rw[bJ (t:=tm (aa 40)) (m:=aa 123) (by decide +kernel)];simp only;rw[cZ (ch _ (by simp)),h1];simp only[QR.bind];rw[bJ (t:=tm (aa 41)) (m:=aa 44) (by decide +kernel)];simp only;rw[cZ (ch _ (by simp))]
 have hR:qp N' .R (tm (aa 40)::(ts++[tm (aa 41)]))=.ok s []:=by
  rw[cm];simp only[bg,hU,QR.bind];rw[cm];rfl
 have hH:qp N' .H (tm (aa 40)::(ts++[tm (aa 41)]))=.ok s []:=by
  rw[cm];simp only[bg];rw[bJ (t:=tm (aa 40)) (m:=fZ) (by decide +kernel)];exact hR
 have hD:qp N' .D (tm (aa 40)::(ts++[tm (aa 41)]))=.ok s []:=by
  rw[cm];simp only[bg,hH,QR.bind];rw[cm];rfl
 have hA:qp N' .A (tm (aa 40)::(ts++[tm (aa 41)]))=.ok s []:=by
  rw[cm];simp only[bg,hD,QR.bind];rw[cm];rfl
 rw[cm];simp only[bg,hA,QR.bind];rw[cm];rfl
theorem yp{l:Bs}{s:Ts}{n:Int}(h:kE l=some (s,n,0)):kE (40::(l++[10,41]))=if 16384<l.length+3 then some (zT,0,2)else some (s,0,0):=by
 obtain⟨hl,-,hv,ts,ht,hf⟩:=pX (fun ts=>oQ) h;obtain⟨k,hk⟩:=zd ht;have hlen:(40::(l++[10,41]):Bs).length=l.length+3:=by simp
 have h1:=FD (N':=1) hf
 have hsq:Sq (tm (aa 40)::(ts++[tm (aa 41)])) (tm (aa 40)::(ts++[⟨4,0,aa 41,k⟩])):=by
  unfold Sq;simp[ln1,tm]
 obtain⟨b,h4,h5⟩:=(vQ (N:=1) (N':=d6 (tm (aa 40)::(ts++[⟨4,0,aa 41,k⟩]))) .S hsq).ok_left h1;have:=uM (z:=zT) (valid:=dM) (f:=Lc) hk (by show qp _ _ _=_;rw[h4,x5 h5]) hv;rw[hlen]at this;exact this
end Go.Proofs.YthekkgfmagliiaaGreatDoor
namespace Go.Proofs.YthekkgfmagliiaaGreatDoor
open Go.RowKit
open Nat renaming reduceLeDiff -> jA, reduceBEq -> jB, reduceLT -> jC, reduceEqDiff -> jD, reduceAdd -> jE, reduceSub -> jF, reduceMul -> jG
open V renaming copy -> jV, lend -> jW, lend1 -> jX, cells -> jY, boxable -> jZ
def aH(m:ByteArray)(ts:List Tok)(a:Nat):Bool:=(acc m (ts.drop a)).isSome
theorem fe{m:ByteArray}{ts:List Tok}{a:Nat}(h:aH m ts a=true):a<ts.length:=by
 apply Classical.byContradiction;intro hn;unfold aH at h;rw[RH (by omega)]at h;cases h
def pb(ts:List Tok)(a:Nat):List V:=[.d (.sl (ts.map dF)),.d (ab a)]
def e7(e:Int)(a:Nat):V:=.iface 203 (.agg [.d (ab e),.d (ab a)])
theorem vj(t:Tok)(h:t.text.size≤1000)(σ:LLV):Fun G 251 [eN t] σ (aA (aq (bl t)) σ):=by
 refine ai Tryz.func251 PU rfl fun hb hw=>?_;unfold My;have hj:=zr [t] (by simp) (by simpa using h);unfold mP at hj;simp only[List.all_cons,List.all_nil,Bool.and_true]at hj;simp -dsimp only[aw,jV,jW,jX,jY,jZ,jA,reduceIte,reduceCtorEq,jB,jC,jD,jE,jF,jG,eN];refine ac (by simpa only[Rw,List.map_nil,dF]using hj _) ?_;cases hv:bl t with
 | true=>
  simp -dsimp only[aw,jV,jW,jX,jY,jZ,jA,reduceIte,reduceCtorEq,jB,jC,jD,jE,jF,jG];first|exact au hb rfl rfl|exact av hb rfl rfl
 | false=>
  simp -dsimp only[aw,jV,jW,jX,jY,jZ,jA,reduceIte,reduceCtorEq,jB,jC,jD,jE,jF,jG,Int.reduceEq,decide_false];first|exact au hb rfl rfl|exact av hb rfl rfl
def gk(ts:List Tok)(a:Nat):V:=match ts[a]? with
 | some t=>if bl t=true then .tup [eN t,aq true]else .tup [cj,aq false]
 | none=>.tup [cj,aq false]
theorem nG(ts:List Tok)(a i:Nat)(hz:∀t,t∈ts->t.text.size≤1000)(ha:a≤ts.length)(σ:LLV)(hi:σ[i]? = some (pb ts a)):
 Fun G 249 [.ptr i 0] σ (aA (gk ts a) σ):=by
 refine ai Tryz.func249 P9 rfl fun hb hw=>?_;unfold Ns;have hio:=fun t=>ar hi t;unfold pb at hio;by_cases hlt:a<ts.length
 .have d1:decide (((ts.length:Nat):Int)≤((a:Nat):Int))=false:=by rw[decide_eq_false_iff_not];omega
  have hn:gk ts a=if bl ts[a]=true then .tup [eN ts[a],aq true]else .tup [cj,aq false]:=by unfold gk;rw[RB hlt]
  have hv:=vj ts[a] (hz _ (List.getElem_mem hlt));simp -dsimp only[aw,jV,jW,jX,jY,jZ,jA,reduceIte,reduceCtorEq,jB,jC,jD,jE,jF,jG,hio,d1,RB hlt,bv,dF];refine bd (by simpa only[eN]using hv _) ?_;cases hvt:bl ts[a]with
  | true=>
   rw[hn,if_pos hvt];simp -dsimp only[aw,jV,jW,jX,jY,jZ,jA,reduceIte,reduceCtorEq,jB,jC,jD,jE,jF,jG,hio,RB hlt,bv,dF];exact al (v:=.tup [eN ts[a],aq true]) hb (by simp[Bf,aU,cY,bq,eN,aw,jV,jW,jX,jY,jZ,jA,reduceIte,reduceCtorEq,jB,jC,jD,jE,jF,jG]) rfl RG ⟨rfl,rfl⟩
  | false=>
   rw[hn,if_neg (by rw[hvt];decide)];simp -dsimp only[aw,jV,jW,jX,jY,jZ,jA,reduceIte,reduceCtorEq,jB,jC,jD,jE,jF,jG];exact al (v:=.tup [cj,aq false]) hb (by simp[Bf,aU,cY,bq,cj,cT,dj,aw,jV,jW,jX,jY,jZ,jA,reduceIte,reduceCtorEq,jB,jC,jD,jE,jF,jG]) rfl RG ⟨rfl,rfl⟩
 .have d1:decide (((ts.length:Nat):Int)≤((a:Nat):Int))=true:=by rw[decide_eq_true_eq];omega
  have hn:gk ts a=.tup [cj,aq false]:=by unfold gk;rw[RI (by omega)]
  rw[hn];simp -dsimp only[aw,jV,jW,jX,jY,jZ,jA,reduceIte,reduceCtorEq,jB,jC,jD,jE,jF,jG,hio,d1];exact al (v:=.tup [cj,aq false]) hb (by simp[Bf,aU,cY,bq,cj,cT,dj,aw,jV,jW,jX,jY,jZ,jA,reduceIte,reduceCtorEq,jB,jC,jD,jE,jF,jG]) rfl RG ⟨rfl,rfl⟩
theorem AR{m:ByteArray}{ts:List Tok}{a:Nat}(h:a<ts.length):aH m ts a=(bl ts[a]&&((decide (ts[a].kind=4)||decide (ts[a].kind=2))&&decide (ts[a].text=m))):=by
 unfold aH;rw[List.drop_eq_getElem_cons h];simp only[acc];rw[Bool.eq_iff_iff];split<;>simp_all
theorem fD{m:ByteArray}{ts:List Tok}{a:Nat}(h:¬a<ts.length):aH m ts a=false:=by
 unfold aH;rw[RH (by omega)];rfl
theorem Ep(m:ByteArray)(ts:List Tok)(a i:Nat)(hz:∀t,t∈ts->t.text.size≤1000)(ha:a≤ts.length)(σ:LLV)(hi:σ[i]? = some (pb ts a)):
 Fun G 244 [.ptr i 0,.d (ae m)] σ (aA (aq (aH m ts a)) σ):=by
 refine ai Tryz.func244 QS rfl fun hb hw=>?_;unfold Mn;have hN:=nG ts a i hz ha σ hi;simp -dsimp only[aw,jV,jW,jX,jY,jZ,jA,reduceIte,reduceCtorEq,jB,jC,jD,jE,jF,jG];refine ac hN ?_;by_cases hlt:a<ts.length
 .have hn:gk ts a=if bl ts[a]=true then .tup [eN ts[a],aq true]else .tup [cj,aq false]:=by unfold gk;rw[RB hlt]
  rw[hn,AR hlt];generalize ts[a]=t;cases hvt:bl t with
  | false=>
   rw[if_neg (by decide)];simp -dsimp only[aw,jV,jW,jX,jY,jZ,jA,reduceIte,reduceCtorEq,jB,jC,jD,jE,jF,jG,cj,cT];first|exact au hb rfl rfl|exact av hb rfl rfl
  | true=>
   rw[if_pos rfl];by_cases h4:t.kind=4
   .simp -dsimp only[aw,jV,jW,jX,jY,jZ,jA,reduceIte,reduceCtorEq,jB,jC,jD,jE,jF,jG,eN,decide_eq_true h4];first|exact au hb rfl rfl|exact av hb rfl rfl
   .by_cases h2:t.kind=2
    .simp -dsimp only[aw,jV,jW,jX,jY,jZ,jA,reduceIte,reduceCtorEq,jB,jC,jD,jE,jF,jG,eN,decide_eq_false h4,decide_eq_true h2];first|exact au hb rfl rfl|exact av hb rfl rfl
    .simp -dsimp only[aw,jV,jW,jX,jY,jZ,jA,reduceIte,reduceCtorEq,jB,jC,jD,jE,jF,jG,eN,decide_eq_false h4,decide_eq_false h2];first|exact au hb rfl rfl|exact av hb rfl rfl
 .have hn:gk ts a=.tup [cj,aq false]:=by unfold gk;rw[RI (by omega)]
  rw[hn,fD hlt];simp -dsimp only[aw,jV,jW,jX,jY,jZ,jA,reduceIte,reduceCtorEq,jB,jC,jD,jE,jF,jG,cj,cT];first|exact au hb rfl rfl|exact av hb rfl rfl
theorem KF{σ:LLV}{i:Nat}{ts:List Tok}{a:Nat}(hi:σ[i]? = some (pb ts a)):σ.set i (pb ts a)=σ:=by
 have hlt:=(List.getElem?_eq_some_iff.1 hi).1;rw[<-(List.getElem?_eq_some_iff.1 hi).2];exact List.set_getElem_self hlt
theorem gA(m:ByteArray)(ts:List Tok)(a i:Nat)(hz:∀t,t∈ts->t.text.size≤1000)(hn:ts.length≤1000000)(ha:a≤ts.length)(σ:LLV)(hi:σ[i]? = some (pb ts a)):
 Fun G 240 [.ptr i 0,.d (ae m)] σ fun o σ'=>o=.ret (aq (aH m ts a))/\σ'=if aH m ts a=true then σ.set i (pb ts (a+1))else σ:=by
 have hlt:=(List.getElem?_eq_some_iff.1 hi).1;refine ai Tryz.func240 Ra rfl fun hb hw=>?_;unfold Ni;have hS:=Ep m ts a i hz ha σ hi;simp -dsimp only[aw,jV,jW,jX,jY,jZ,jA,reduceIte,reduceCtorEq,jB,jC,jD,jE,jF,jG];refine ac hS ?_;cases hs:aH m ts a with
 | false=>
  simp -dsimp only[aw,jV,jW,jX,jY,jZ,jA,reduceIte,reduceCtorEq,jB,jC,jD,jE,jF,jG,Rs,if_false];exact al hb rfl rfl RD ⟨rfl,rfl⟩
 | true=>
  unfold pb at hi;simp -dsimp only[aw,jV,jW,jX,jY,jZ,jA,reduceIte,reduceCtorEq,jB,jC,jD,jE,jF,jG,hi,aJ (show -9223372036854775808≤((a:Nat):Int)+1 by omega) (show((a:Nat):Int)+1≤9223372036854775807 by omega),if_true];exact bH (τ:=σ.set i (pb ts (a+1))) (ca hb rfl) rfl rfl (by rw[List.take_of_length_le (by rw[List.length_set];exact RK _)];rfl) ⟨rfl,rfl⟩
theorem qH(ts:List Tok)(a i:Nat)(ha:a≤ts.length)(σ:LLV)(hi:σ[i]? = some (pb ts a)):
 Fun G 245 [.ptr i 0] σ fun o σ'=>o=.panic (e7 (if a<ts.length then 5 else 6) a)/\σ'=σ:=by
 refine ai Tryz.func245 Qd rfl fun hb hw=>?_;unfold MW;unfold pb at hi;by_cases hlt:a<ts.length
 .have d1:decide (((ts.length:Nat):Int)≤((a:Nat):Int))=false:=by rw[decide_eq_false_iff_not];omega
  rw[if_pos hlt];simp -dsimp only[aw,jV,jW,jX,jY,jZ,jA,reduceIte,reduceCtorEq,jB,jC,jD,jE,jF,jG,hi,d1];exact⟨σ.length,RK _,by rw[RD];exact hb,rfl,rfl,RD⟩
 .have hae:a=ts.length:=by omega
  have d1:decide (((ts.length:Nat):Int)≤((a:Nat):Int))=true:=by rw[decide_eq_true_eq];omega
  rw[if_neg hlt];simp -dsimp only[aw,jV,jW,jX,jY,jZ,jA,reduceIte,reduceCtorEq,jB,jC,jD,jE,jF,jG,hi,d1];rw[hae];exact⟨σ.length,RK _,by rw[RD];exact hb,rfl,rfl,RD⟩
end Go.Proofs.YthekkgfmagliiaaGreatDoor
