import Derived.Test.YtcbahpllcfbkmaaGreatDoorPt
set_option linter.unusedVariables false
set_option linter.unusedSimpArgs false
set_option linter.unusedSectionVars false
namespace Go.Proofs.YtcbahpllcfbkmaaGreatDoor
open Go.RowKit
theorem dH{o:Int}{m:ByteArray}{l:Nat}(h:dU o=some (m,l)):(m,o,l)∈eS:=by
 unfold dU at h;obtain⟨b,hb,e⟩:=Option.map_eq_some_iff.1 h;have h1:=List.mem_of_find?_eq_some hb;have h2:=List.find?_some hb;simp only[decide_eq_true_eq]at h2;cases e;subst h2;exact h1
theorem fY:∀b,b∈eS→2≤b.2.2∧b.2.2≤12∧(b.2.2=2→b.2.1=21∧b.1=dQ 61 62)∧7≤b.2.1∧b.2.1≤21:=by decide +kernel
theorem xT(o:Int):1≤kj o∧kj o≤14:=by
 unfold kj;split
 ·rename_i m l h;have:=fY _ (dH h);simp only at this;omega
 ·repeat' split
  all_goals omega
theorem zv:∀o:Nat,o≤21→7≤o→(dU (o:Int)).isSome=true:=by decide +kernel
theorem se{s:ByteArray}(h:s.toList=[]):s=⟨#[]⟩:=by
 rw[ByteArray.toList_eq]at h;cases s with
 | mk d=>
  have:d = #[]:=by
   apply Array.toList_inj.1;simpa using h
  rw[this]
theorem qO{o n:Int}{s:ByteArray}{k:Nat}(h:aL o n s k=0):
 1≤o∧o≤25∧(o=1→0≤n∧n≤65535)∧cx o k=true∧(o=2→bc s=true)∧(o=3∨o=24→aQ s=true)∧(¬o=1→n=0)∧(cH o=false→s=⟨#[]⟩):=by
 unfold aL at h;split at h
 ·cases h
 ·split at h
  ·cases h
  ·split at h
   ·cases h
   ·split at h
    ·cases h
    ·rename_i h1 h2 h3 h4;refine⟨by omega,by omega,fun e=>by omega,?_,fun e=>?_,fun e=>?_,fun e=>by omega,fun e=>?_⟩
     ·cases ho:cx o k with
      | true=>rfl
      | false=>exact absurd (.inr ho) h3
     ·cases hv:bc s with
      | true=>rfl
      | false=>exact absurd (.inl ⟨e,hv⟩) h4
     ·cases hv:aQ s with
      | true=>rfl
      | false=>exact absurd (.inr ⟨e,hv⟩) h4
     ·refine se (Decidable.byContradiction fun hs=>h3 (.inl ⟨e,hs⟩))
theorem vt{l:List Ex}(h:ig l=0):∀a,a∈l→cL a=0:=by
 induction l with
 | nil=>intro a ha;cases ha
 | cons b r ih=>
  simp only[ig]at h;split at h
  ·rename_i hb;intro a ha;rcases List.mem_cons.1 ha with e|e
   ·rw[e];exact hb
   ·exact ih h a e
  ·rename_i hb;exact absurd h hb
theorem pX{o n:Int}{s:ByteArray}{l:List Ex}(h:cL (.mk o n s l)=0):aL o n s l.length=0∧∀a,a∈l→cL a=0:=by
 simp only[cL]at h;split at h
 ·exact⟨by assumption,vt h⟩
 ·rename_i hb;exact absurd h hb
theorem zu{a b:ByteArray}(h:a.data.toList=b.data.toList):a=b:=by
 cases a;cases b;simp only at h;rw[Array.toList_inj.1 h]
theorem xC{t:ByteArray}(h:t.size=2):t.data.toList=[t[0]'(by omega),t[1]'(by omega)]:=by
 have hl:t.data.toList.length=2:=by rw[←Lib.size_eq];exact h
 match hq:t.data.toList,hl with
 | [x,y],_=>
  have h0:=gj t 0 (by omega);have h1:=gj t 1 (by omega);rw[hq]at h0 h1;simp only[List.getElem?_cons_zero,List.getElem?_cons_succ,Option.some.injEq]at h0 h1;rw[←h0,←h1]
theorem d9{s:ByteArray}(h:dD s=true):aQ (cQ s 91)=true∧0≤bj s∧bj s≤7∧iv (cQ s 91) (bj s)=s:=by
 unfold dD at h;simp only[Bool.and_eq_true]at h;obtain⟨⟨h1,h2⟩,h3⟩:=h;have hi:0≤Lib.indexByte s.data.toList 91:=of_decide_eq_true h1;obtain⟨o,ho⟩:=Int.eq_ofNat_of_zero_le hi;have hne:¬Lib.indexByte s.data.toList 91 = -1:=by omega
 have hA:(cQ s 91).data.toList=s.data.toList.take o:=by
  unfold cQ;rw[if_neg hne,ho,Lib.extract_eq];simp
 have hB:(ff s 91).data.toList=s.data.toList.drop (o+1):=by
  unfold ff;rw[if_neg hne,ho,Lib.extract_eq];have hz:(s.data.toList.drop (o+1)).length≤s.size-(o+1):=by rw[List.length_drop,←Lib.size_eq];exact Nat.le_refl _
  first
   | (show List.take (s.size-(o+1)) (s.data.toList.drop (o+1))=_;exact List.take_of_length_le hz)
   | (show List.drop (o+1) (s.data.toList.take s.size)=_;rw[List.take_of_length_le (by rw[←Lib.size_eq];exact Nat.le_refl _)])
 have hat:s.data.toList[o]? = some 91:=(Lib.indexByte_some ho).1
 have hz:(ff s 91).size=2:=by
  refine Decidable.byContradiction fun hn=>?_;rw[jJ hn]at h3;cases h3
 rw[fE hz]at h3;simp only[Bool.and_eq_true,decide_eq_true_eq]at h3;have ht:=xC hz;generalize (ff s 91)[0]'(by omega)=x at *;generalize (ff s 91)[1]'(by omega)=y at *;obtain⟨⟨g1,g2⟩,g3⟩:=h3
 have hy:y=93:=by
  have:y.toNat=(93:UInt8).toNat:=g1;exact UInt8.toNat_inj.1 this
 have hd:bj s=(x.toNat:Int)-48:=by unfold bj;rw[ht];rfl
 refine⟨h2,by omega,by omega,?_⟩;apply zu;have hol:=(List.getElem?_eq_some_iff.1 hat).1
 have hsplit:s.data.toList=s.data.toList.take o++91::s.data.toList.drop (o+1):=by
  conv=>lhs;rw[←List.take_append_drop o s.data.toList,List.drop_eq_getElem_cons hol]
  rw[(List.getElem?_eq_some_iff.1 hat).2]
 have hdec:Lib.decDigits (bj s).toNat=[x]:=by
  have e1:(bj s).toNat=x.toNat-48:=by omega
  rw[e1,Lib.decDigits,dif_pos (by omega)];congr 1;apply UInt8.toNat_inj.1;have:=ol (x.toNat-48) (by omega);omega
 unfold iv pK bg;simp only[ByteArray.data_append,Array.toList_append,hdec,hA];rw[hsplit]
 conv=>rhs;rw[←hB,ht,hy]
 rw[List.take_append_of_le_length (by rw[List.length_take];omega),List.take_take,Nat.min_self];simp
theorem ot:∀o,o∈[(1:Int),2,3,24,25]→kj o=14∧dU o=none:=by decide +kernel
abbrev Pc:=List (Option Tok)
def txt:Pc→Bs
 | []=>[]
 | none::r=>32::txt r
 | some t::r=>t.text.data.toList++txt r
theorem dn:∀a b:Pc,txt (a++b)=txt a++txt b
 | [],b=>rfl
 | none::r,b=>by simp only[List.cons_append,txt,dn r b]
 | some t::r,b=>by simp only[List.cons_append,txt,dn r b,List.append_assoc]
structure Fine(t:Tok)(q:Bs):Prop where
 v:zA t=true
 n:t.text.data.toList≠[]
 r:CK (t.text.data.toList++q)=.tok t.kind t.num t.text.data.toList.length
 s:Ch (t.text.data.toList++q)=t.text.data.toList++q
def zy:Pc→Bs→Prop
 | [],_=>True
 | none::r,q=>zy r q
 | some t::r,q=>Fine t (txt r++q)∧zy r q
theorem bY(c:UInt8)(X:Pc):txt (some (tm (bg c))::X)=c::txt X:=rfl
def fC(k:Nat)(a:Int×Pc):Pc:=if kj a.1<k then some (tm (bg 40))::(a.2++[some (tm (bg 41))])else a.2
def jc:List (Int×Pc)→Pc
 | []=>[]
 | [_]=>[]
 | [a,b]=>a.2++none::some (tm (dQ 46 46))::none::b.2
 | a::b::c::r=>a.2++none::some (tm (dQ 46 46))::none::(b.2++some (tm (bg 44))::none::jc (c::r))
def qW(o n:Int)(s:ByteArray)(xs:List (Int×Pc)):Pc:=match dU o with
 | some (m,l)=>fC (if l=2 then 3 else l) (xs.getD 0 (1,[]))++none::some (tm m)::none::fC (if l=2 then 2 else l+1) (xs.getD 1 (1,[]))
 | none=>
  if o=4 then some (tm (bg 33))::fC 13 (xs.getD 0 (1,[]))
  else if o=5 then some (tm (bg 126))::fC 13 (xs.getD 0 (1,[]))
  else if o=6 then some (tm (bg 45))::fC 13 (xs.getD 0 (1,[]))
  else if o=22 then fC 2 (xs.getD 0 (1,[]))++none::some (tm (bg 63))::none::(fC 1 (xs.getD 1 (1,[]))++none::some (tm (bg 58))::none::fC 1 (xs.getD 2 (1,[])))
  else if o=23 then fC 9 (xs.getD 0 (1,[]))++none::some (tw m8)::none::some (tm (bg 123))::none::(jc xs.tail++[none,some (tm (bg 125))])
  else if o=1 then[some (td n)]
  else if o=3 then some (tn s)::some (tm (bg 91))::((xs.getD 0 (1,[])).2++[some (tm (bg 93))])
  else if o=24 then[some (tn Aq),some (tm (bg 40)),some (tn s),some (tm (bg 41))]
  else if o=25 then some (tn vj)::some (tm (bg 40))::((xs.getD 0 (1,[])).2++[some (tm (bg 41))])
  else(xj s).map some
mutual
def pcE:Ex→Pc
 | .mk o n s l=>qW o n s (xQ l)
def xQ:List Ex→List (Int×Pc)
 | []=>[]
 | a::r=>(a.op,pcE a)::xQ r
end
def aE(e:Ex):Bs:=txt (pcE e)
inductive Sh:Ex→Prop where
 | const (n:Int) (h0:0≤n) (h1:n≤65535):Sh (.mk 1 n ⟨#[]⟩ [])
 | var (s:ByteArray) (h:bc s=true):Sh (.mk 2 0 s [])
 | elem (s:ByteArray) (x:Ex) (h:aQ s=true) (hx:cL x=0):Sh (.mk 3 0 s [x])
 | pre (o:Int) (x:Ex) (h:o=4∨o=5∨o=6) (hx:cL x=0):Sh (.mk o 0 ⟨#[]⟩ [x])
 | bin (o:Int) (m:ByteArray) (k:Nat) (x y:Ex) (h:dU o=some (m,k)) (hx:cL x=0) (hy:cL y=0):Sh (.mk o 0 ⟨#[]⟩ [x,y])
 | ite (x y z:Ex) (hx:cL x=0) (hy:cL y=0) (hz:cL z=0):Sh (.mk 22 0 ⟨#[]⟩ [x,y,z])
 | inside (x:Ex) (l:List Ex) (hx:cL x=0) (hl:∀a,a∈l→cL a=0) (hev:l.length%2=0) (hne:2≤l.length) (h32:l.length≤32):Sh (.mk 23 0 ⟨#[]⟩ (x::l))
 | sum (s:ByteArray) (h:aQ s=true):Sh (.mk 24 0 s [])
 | ones (x:Ex) (hx:cL x=0):Sh (.mk 25 0 ⟨#[]⟩ [x])
theorem xA{e:Ex}(he:cL e=0):Sh e:=by
 obtain⟨o,n,s,l⟩:=e;obtain⟨hnode,hargs⟩:=pX he;obtain⟨o1,o25,hc,hop,hvar,hname,hn0,hs0⟩:=qO hnode;by_cases c1:o=1
 ·subst c1;have hl:l=[]:=List.eq_nil_of_length_eq_zero (by simpa[cx,dO]using hop);have hs:s=⟨#[]⟩:=hs0 (by decide);subst hl;subst hs;obtain⟨h0,h1⟩:=hc rfl;exact .const n h0 h1
 have hn:n=0:=hn0 c1;subst hn;by_cases c2:o=2
 ·subst c2;have hl:l=[]:=List.eq_nil_of_length_eq_zero (by simpa[cx,dO]using hop);subst hl;exact .var s (hvar rfl)
 by_cases c3:o=3
 ·subst c3;have hnm:=hname (.inl rfl)
  have hl:l.length=1:=by have:(l.length:Int)=1:=by simpa[cx,dO]using hop
                         omega
  obtain⟨x,rfl⟩:=List.length_eq_one_iff.1 hl;exact .elem s x hnm (hargs x (by simp))
 by_cases c24:o=24
 ·subst c24;have hl:l=[]:=List.eq_nil_of_length_eq_zero (by simpa[cx,dO]using hop);subst hl;exact .sum s (hname (.inr rfl))
 have hs:s=⟨#[]⟩:=hs0 (by unfold cH;simp[c2,c3,c24]);subst hs;by_cases c25:o=25
 ·subst c25
  have hl:l.length=1:=by have:(l.length:Int)=1:=by simpa[cx,dO]using hop
                         omega
  obtain⟨x,rfl⟩:=List.length_eq_one_iff.1 hl;exact .ones x (hargs x (by simp))
 by_cases c456:o=4∨o=5∨o=6
 ·have hl:l.length=1:=by
   have:(l.length:Int)=1:=by
    rcases c456 with rfl|rfl|rfl<;>simpa[cx,dO]using hop
   omega
  obtain⟨x,rfl⟩:=List.length_eq_one_iff.1 hl;exact .pre o x c456 (hargs x (by simp))
 by_cases c22:o=22
 ·subst c22
  have hl:l.length=3:=by have:(l.length:Int)=3:=by simpa[cx,dO]using hop
                         omega
  match l,hl,hargs with
  | [x,y,z],_,hargs=>exact .ite x y z (hargs x (by simp)) (hargs y (by simp)) (hargs z (by simp))
 by_cases c23:o=23
 ·subst c23
  have hl:l.length%2=1∧3≤l.length∧l.length≤33:=by
   have:(decide (l.length%2=1)&&decide (3≤l.length)&&decide (l.length≤33))=true:=by simpa[cx]using hop
   simp only[Bool.and_eq_true,decide_eq_true_eq]at this;exact⟨this.1.1,this.1.2,this.2⟩
  match l,hl,hargs with
  | x::m,⟨h1,h2,h3⟩,hargs=>
   simp only[List.length_cons]at h1 h2 h3;exact .inside x m (hargs x (by simp)) (fun a ha=>hargs a (by simp[ha])) (by omega) (by omega) (by omega)
 have hl:l.length=2:=by
  have:(l.length:Int)=2:=by
   have h1:(l.length:Int)=dO o:=by unfold cx at hop;rw[if_neg c23]at hop;exact of_decide_eq_true hop
   rw[h1];unfold dO;rw[if_neg (by omega),if_neg (by omega),if_neg c22,if_neg c23,if_neg (by omega)]
  omega
 match l,hl,hargs with
 | [x,y],_,hargs=>
  obtain⟨k,hk⟩:=Int.eq_ofNat_of_zero_le (show 0≤o by omega);have hb:=zv k (by omega) (by omega);rw[←hk]at hb;obtain⟨⟨m,p⟩,hp⟩:=Option.isSome_iff_exists.1 hb;exact .bin o m p x y hp (hargs x (by simp)) (hargs y (by simp))
def opS(k:Nat)(x:Ex):Bs:=if kj x.op<k then 40::(aE x++[41])else aE x
theorem fX(k:Nat)(x:Ex):txt (fC k (x.op,pcE x))=opS k x:=by
 unfold fC opS;simp only;split
 ·rw[bY,dn,bY];rfl
 ·rfl
theorem nl(x:Ex):opS 1 x=aE x:=by
 unfold opS;rw[if_neg (by have:=(xT x.op).1;omega)]
theorem cR(t:Tok)(X:Pc):txt (some t::X)=t.text.data.toList++txt X:=rfl
theorem cq(X:Pc):txt (none::X)=32::txt X:=rfl
theorem nr:txt []=[]:=rfl
theorem iy(n:Int):aE (.mk 1 n ⟨#[]⟩ [])=Lib.decDigits n.toNat:=by
 show txt [some (td n)]=_;rw[cR,nr,List.append_nil];rfl
theorem jI(s:ByteArray)(x:Ex):aE (.mk 3 0 s [x])=s.data.toList++91::(aE x++[93]):=by
 show txt (some (tn s)::some (tm (bg 91))::(pcE x++[some (tm (bg 93))]))=_;rw[cR,bY,dn,bY];rfl
theorem lb(s:ByteArray):aE (.mk 24 0 s [])=[115,117,109,40]++(s.data.toList++[41]):=by
 show txt [some (tn Aq),some (tm (bg 40)),some (tn s),some (tm (bg 41))]=_;rw[cR,bY,cR,bY];rfl
theorem jA(x:Ex):aE (.mk 25 0 ⟨#[]⟩ [x])=[111,110,101,115,40]++(aE x++[41]):=by
 show txt (some (tn vj)::some (tm (bg 40))::(pcE x++[some (tm (bg 41))]))=_;rw[cR,bY,dn,bY];rfl
theorem nG(x y z:Ex):aE (.mk 22 0 ⟨#[]⟩ [x,y,z])=opS 2 x++([32,63,32]++(opS 1 y++([32,58,32]++opS 1 z))):=by
 show txt (fC 2 (x.op,pcE x)++none::some (tm (bg 63))::none::(fC 1 (y.op,pcE y)++none::some (tm (bg 58))::none::fC 1 (z.op,pcE z)))=_;rw[dn,cq,bY,cq,dn,cq,bY,cq,fX,fX,fX];rfl
theorem kR{o:Int}{m:ByteArray}{k:Nat}(h:dU o=some (m,k))(x y:Ex):aE (.mk o 0 ⟨#[]⟩ [x,y])=opS (if k=2 then 3 else k) x++(32::(m.data.toList++(32::opS (if k=2 then 2 else k+1) y))):=by
 show txt (qW o 0 ⟨#[]⟩ [(x.op,pcE x),(y.op,pcE y)])=_;unfold qW;rw[h];simp only;rw[dn,cq,cR,cq];show txt (fC _ (x.op,pcE x))++(32::(m.data.toList++(32::txt (fC _ (y.op,pcE y)))))=_;rw[fX,fX]
theorem xU:∀o,o∈[(4:Int),5,6]→dU o=none:=by decide +kernel
def cN(o:Int):Bs:=if o=4 then[33]else if o=5 then[126]else if o=6 then[45]else[]
theorem lm{o:Int}(h:o=4∨o=5∨o=6)(x:Ex):aE (.mk o 0 ⟨#[]⟩ [x])=cN o++opS 13 x:=by
 rcases h with rfl|rfl|rfl
 ·show txt (some (tm (bg 33))::fC 13 (x.op,pcE x))=_;rw[bY,fX];rfl
 ·show txt (some (tm (bg 126))::fC 13 (x.op,pcE x))=_;rw[bY,fX];rfl
 ·show txt (some (tm (bg 45))::fC 13 (x.op,pcE x))=_;rw[bY,fX];rfl
def bN:List Ex→Bs
 | []=>[]
 | [_]=>[]
 | [a,b]=>aE a++([32,46,46,32]++aE b)
 | a::b::c::r=>(aE a++([32,46,46,32]++aE b))++([44,32]++bN (c::r))
theorem mo:∀l:List Ex,txt (jc (xQ l))=bN l
 | []=>rfl
 | [_]=>rfl
 | [a,b]=>by
  show txt (pcE a++none::some (tm (dQ 46 46))::none::pcE b)=_;rw[dn,cq,cR,cq];rfl
 | a::b::c::r=>by
  have:=mo (c::r);show txt (pcE a++none::some (tm (dQ 46 46))::none::(pcE b++some (tm (bg 44))::none::jc (xQ (c::r))))=_;rw[dn,cq,cR,cq,dn,bY,cq,this];simp only[bN,aE,List.append_assoc];rfl
theorem gr(x:Ex)(l:List Ex):aE (.mk 23 0 ⟨#[]⟩ (x::l))=opS 9 x++([32,105,110,115,105,100,101,32,123,32]++(bN l++[32,125])):=by
 show txt (fC 9 (x.op,pcE x)++none::some (tw m8)::none::some (tm (bg 123))::none::(jc (xQ l)++[none,some (tm (bg 125))]))=_;rw[dn,cq,cR,cq,bY,cq,dn,mo,cq,bY,fX];rfl
theorem lE(s:ByteArray):aE (.mk 2 0 s [])=if dD s=true then(cQ s 91).data.toList++64::Lib.decDigits (bj s).toNat else s.data.toList:=by
 show txt ((xj s).map some)=_;unfold xj;split
 ·show txt [some (tn (cQ s 91)),some (tm (bg 64)),some (td (bj s))]=_;rw[cR,bY,cR,nr,List.append_nil];rfl
 ·show txt [some (tn s)]=_;rw[cR,nr,List.append_nil];rfl
theorem fP(k:Nat)(x:Ex):(opS k x).length≤(aE x).length+2:=by
 unfold opS;split
 ·simp only[List.length_cons,List.length_append,List.length_nil];omega
 ·omega
theorem bP{s:ByteArray}(h:aQ s=true):s.data.toList.length≤16:=by
 simp only[aQ,Bool.and_eq_true,decide_eq_true_eq]at h;have:=h.1.2;rw[Lib.size_eq]at this;exact this
theorem ey(u:Nat)(h:u≤65535):(Lib.decDigits u).length≤5:=by
 have H:∀(k u:Nat),u<10^(k+1)→(Lib.decDigits u).length≤k+1:=by
  intro k
  induction k with
  | zero=>intro u h;rw[Lib.decDigits,dif_pos (by simpa using h)];simp
  | succ k ih=>
   intro u h;rw[Lib.decDigits];split
   ·simp
   ·have:=ih (u/10) (by rw[Nat.pow_succ]at h;omega);rw[List.length_append,List.length_singleton];omega
 exact H 4 u (by omega)
theorem vG:∀b,b∈eS→b.1.data.toList.length≤2:=by decide +kernel
theorem o2:∀l:List Ex,(∀a,a∈l→(aE a).length+20≤64*bh a)→(bN l).length+10*l.length≤64*bD l
 | [],_=>by simp[bN,bD]
 | [a],h=>by have:=h a (by simp);simp only[bN,bD,List.length_nil,List.length_cons];omega
 | [a,b],h=>by
  have h1:=h a (by simp);have h2:=h b (by simp);simp only[bN,bD,List.length_nil,List.length_cons,List.length_append];omega
 | a::b::c::r,h=>by
  have h1:=h a (by simp);have h2:=h b (by simp);have h3:=o2 (c::r) fun x hx=>h x (by simp only[List.mem_cons]at hx ⊢;exact .inr (.inr hx));simp only[bN,bD,List.length_nil,List.length_cons,List.length_append]at h3 ⊢;omega
theorem gu(e:Ex):cL e=0→(aE e).length+20≤64*bh e:=by
 induction e using Ex.ind with
 | h o n s l ih=>
 intro he;have hs:=xA he;generalize hE:Ex.mk o n s l=E at hs;cases hs with
 | const n h0 h1=>
  have:=ey n.toNat (by omega);rw[iy];simp only[bh,bD];omega
 | var s h=>
  cases hE;rw[lE];unfold bc at h;rw[Bool.or_eq_true]at h;simp only[bh,bD];split
  ·rename_i hel;obtain⟨g1,g2,g3,g4⟩:=d9 hel;have h1:=bP g1;have h2:=ey (bj s).toNat (by omega);simp only[List.length_append,List.length_cons];omega
  ·rename_i hel;have h1:=bP (h.resolve_left hel);omega
 | elem s x h hx=>
  cases hE;have h1:=ih x (by simp) hx;have h2:=bP h;rw[jI];simp only[bh,bD,List.length_append,List.length_cons,List.length_nil];omega
 | pre o x h hx=>
  cases hE;have h1:=ih x (by simp) hx;have h2:=fP 13 x;have h3:(cN o).length≤1:=by rcases h with rfl|rfl|rfl<;>decide
  rw[lm h];simp only[bh,bD,List.length_append];omega
 | bin o m k x y h hx hy=>
  cases hE;have h1:=ih x (by simp) hx;have h2:=ih y (by simp) hy;have h3:=vG _ (dH h);have h4:=fP (if k=2 then 3 else k) x;have h5:=fP (if k=2 then 2 else k+1) y;rw[kR h];simp only[bh,bD,List.length_append,List.length_cons]at h3 ⊢;omega
 | ite x y z hx hy hz=>
  cases hE;have h1:=ih x (by simp) hx;have h2:=ih y (by simp) hy;have h3:=ih z (by simp) hz;have h4:=fP 2 x;have h5:=fP 1 y;have h6:=fP 1 z;rw[nG];simp only[bh,bD,List.length_append,List.length_cons,List.length_nil];omega
 | inside x l hx hl hev hne h32=>
  cases hE;have h1:=ih x (by simp) hx;have h2:=o2 l fun a ha=>ih a (by simp[ha]) (hl a ha);have h4:=fP 9 x;rw[gr];simp only[bh,bD,List.length_append,List.length_cons,List.length_nil];omega
 | sum s h=>
  cases hE;have h2:=bP h;rw[lb];simp only[bh,bD,List.length_append,List.length_cons,List.length_nil];omega
 | ones x hx=>
  cases hE;have h1:=ih x (by simp) hx;rw[jA];simp only[bh,bD,List.length_append,List.length_cons,List.length_nil];omega
end Go.Proofs.YtcbahpllcfbkmaaGreatDoor
