import Derived.Test.YthekkgfmagliiaaGreatDoorBs
import Derived.Test.YthekkgfmagliiaaGreatDoorData
import Derived.Test.YthekkgfmagliiaaGreatDoorNames2
set_option linter.unusedVariables false
set_option linter.unusedSimpArgs false
set_option linter.unusedSectionVars false
namespace Go.Proofs.YthekkgfmagliiaaGreatDoor
open Go.RowKit
inductive PR where
 | out
 | bad (e:Int) (r:List Tok)
 | ok (e:Ex) (r:List Tok)
inductive PK where
 | W
 | I
 | L (k:Nat)
 | Lp (k:Nat) (a:Ex)
 | In (a:Ex)
 | Ip (args:List Ex)
 | U
 | P
def bE(c:UInt8):ByteArray:=⟨#[c]⟩
def eG(c d:UInt8):ByteArray:=⟨#[c,d]⟩
def acc(m:ByteArray):List Tok→Option (List Tok)
 | []=>none
 | t::r=>if Jw t=true∧(t.kind=4∨t.kind=2)∧t.text=m then some r else none
def fI:List (ByteArray×Int×Nat):=[(eG 61 62,21,2),(eG 124 124,20,3),(eG 38 38,19,4),(bE 124,11,5),(bE 94,12,6),(bE 38,10,7),(eG 61 61,15,8),(eG 33 61,16,8),(bE 60,17,9),(eG 60 61,18,9),(eG 60 60,13,10),(eG 62 62,14,10),(bE 43,7,11),(bE 45,8,11),(bE 42,9,12)]
def s7:ByteArray:=⟨#[105,110,115,105,100,101]⟩
def Fe:ByteArray:=⟨#[115,117,109]⟩
def BF:ByteArray:=⟨#[111,110,101,115]⟩
def wW(n:Int):ByteArray:=⟨(Lib.decDigits n.toNat).toArray⟩
def pd(s:ByteArray)(n:Int):ByteArray:=s++(bE 91++(wW n++bE 93))
def PK.cost:PK→Nat
 | .W=>15
 | .I=>14
 | .L k=>3+(13-k)
 | .Lp _ _=>1
 | .In _=>1
 | .Ip _=>16
 | .U=>2
 | .P=>1
def fm(k:PK)(r:List Tok):Nat:=40*r.length+k.cost
def dS(o:Int):Option (ByteArray×Nat):=(fI.find? fun b=>decide (b.2.1=o)).map fun b=>(b.1,b.2.2)
def kW(o:Int):Nat:=match dS o with
 | some (_,l)=>l
 | none=>if o=22 then 1 else if o=23 then 9 else if o=4∨o=5∨o=6 then 13 else 14
def tm(m:ByteArray):Tok:=⟨4,0,m,1⟩
def tw(m:ByteArray):Tok:=⟨2,0,m,1⟩
def tn(s:ByteArray):Tok:=⟨1,0,s,1⟩
def td(n:Int):Tok:=⟨3,n,wW n,1⟩
def bH(s:ByteArray):Int:=(((gj s 91).data.toList.headD 0).toNat:Int)-48
def zA(s:ByteArray):List Tok:=if fh s=true then[tn (eR s 91),tm (bE 64),td (bH s)]else[tn s]
theorem dA{o:Int}{m:ByteArray}{l:Nat}(h:dS o=some (m,l)):(m,o,l)∈fI:=by
 unfold dS at h;obtain⟨b,hb,e⟩:=Option.map_eq_some_iff.1 h;have h1:=List.mem_of_find?_eq_some hb;have h2:=List.find?_some hb;simp only[decide_eq_true_eq]at h2;cases e;subst h2;exact h1
theorem f9:∀b,b∈fI→2≤b.2.2∧b.2.2≤12∧(b.2.2=2→b.2.1=21∧b.1=eG 61 62)∧7≤b.2.1∧b.2.1≤21:=by decide +kernel
theorem AC(o:Int):1≤kW o∧kW o≤14:=by
 unfold kW;split
 ·rename_i m l h;have:=f9 _ (dA h);simp only at this;omega
 ·repeat' split
  all_goals omega
theorem Aw:∀o:Nat,o≤21→7≤o→(dS (o:Int)).isSome=true:=by decide +kernel
theorem tZ{s:ByteArray}(h:s.toList=[]):s=⟨#[]⟩:=by
 rw[ByteArray.toList_eq]at h;cases s with
 | mk d=>
  have:d = #[]:=by
   apply Array.toList_inj.1;simpa using h
  rw[this]
theorem so{o n:Int}{s:ByteArray}{k:Nat}(h:aM o n s k=0):
 1≤o∧o≤25∧(o=1→0≤n∧n≤65535)∧cw o k=true∧(o=2→dI s=true)∧(o=3∨o=24→bj s=true)∧(¬o=1→n=0)∧(cG o=false→s=⟨#[]⟩):=by
 unfold aM at h;split at h
 ·cases h
 ·split at h
  ·cases h
  ·split at h
   ·cases h
   ·split at h
    ·cases h
    ·rename_i h1 h2 h3 h4;refine⟨by omega,by omega,fun e=>by omega,?_,fun e=>?_,fun e=>?_,fun e=>by omega,fun e=>?_⟩
     ·cases ho:cw o k with
      | true=>rfl
      | false=>exact absurd (.inr ho) h3
     ·cases hv:dI s with
      | true=>rfl
      | false=>exact absurd (.inl ⟨e,hv⟩) h4
     ·cases hv:bj s with
      | true=>rfl
      | false=>exact absurd (.inr ⟨e,hv⟩) h4
     ·refine tZ (Decidable.byContradiction fun hs=>h3 (.inl ⟨e,hs⟩))
theorem xD{l:List Ex}(h:iv l=0):∀a,a∈l→cZ a=0:=by
 induction l with
 | nil=>intro a ha;cases ha
 | cons b r ih=>
  simp only[iv]at h;split at h
  ·rename_i hb;intro a ha;rcases List.mem_cons.1 ha with e|e
   ·rw[e];exact hb
   ·exact ih h a e
  ·rename_i hb;exact absurd h hb
theorem sG{o n:Int}{s:ByteArray}{l:List Ex}(h:cZ (.mk o n s l)=0):aM o n s l.length=0∧∀a,a∈l→cZ a=0:=by
 simp only[cZ]at h;split at h
 ·exact⟨by assumption,xD h⟩
 ·rename_i hb;exact absurd h hb
theorem AO{a b:ByteArray}(h:a.data.toList=b.data.toList):a=b:=by
 cases a;cases b;simp only at h;rw[Array.toList_inj.1 h]
theorem xv{t:ByteArray}(h:t.size=2):t.data.toList=[t[0]'(by omega),t[1]'(by omega)]:=by
 have hl:t.data.toList.length=2:=by rw[←Lib.size_eq];exact h
 match hq:t.data.toList,hl with
 | [x,y],_=>
  have h0:=fc t 0 (by omega);have h1:=fc t 1 (by omega);rw[hq]at h0 h1;simp only[List.getElem?_cons_zero,List.getElem?_cons_succ,Option.some.injEq]at h0 h1;rw[←h0,←h1]
theorem jU{s:ByteArray}(h:fh s=true):bj (eR s 91)=true∧0≤bH s∧bH s≤7∧pd (eR s 91) (bH s)=s:=by
 unfold fh at h;simp only[Bool.and_eq_true]at h;obtain⟨⟨h1,h2⟩,h3⟩:=h;have hi:0≤Lib.indexByte s.data.toList 91:=of_decide_eq_true h1;obtain⟨o,ho⟩:=Int.eq_ofNat_of_zero_le hi;have hne:¬Lib.indexByte s.data.toList 91 = -1:=by omega
 have hA:(eR s 91).data.toList=s.data.toList.take o:=by
  unfold eR;rw[if_neg hne,ho,Lib.extract_eq];simp
 have hB:(gj s 91).data.toList=s.data.toList.drop (o+1):=by
  unfold gj;rw[if_neg hne,ho,Lib.extract_eq];have hz:(s.data.toList.drop (o+1)).length≤s.size-(o+1):=by rw[List.length_drop,←Lib.size_eq];exact Nat.le_refl _
  first
   | (show List.take (s.size-(o+1)) (s.data.toList.drop (o+1))=_;exact List.take_of_length_le hz)
   | (show List.drop (o+1) (s.data.toList.take s.size)=_;rw[List.take_of_length_le (by rw[←Lib.size_eq];exact Nat.le_refl _)])
 have hat:s.data.toList[o]? = some 91:=(Lib.indexByte_some ho).1
 have hz:(gj s 91).size=2:=by
  refine Decidable.byContradiction fun hn=>?_;rw[jW hn]at h3;cases h3
 rw[fM hz]at h3;simp only[Bool.and_eq_true,decide_eq_true_eq]at h3;have ht:=xv hz;generalize (gj s 91)[0]'(by omega)=x at *;generalize (gj s 91)[1]'(by omega)=y at *;obtain⟨⟨g1,g2⟩,g3⟩:=h3
 have hy:y=93:=by
  have:y.toNat=(93:UInt8).toNat:=g1;exact UInt8.toNat_inj.1 this
 have hd:bH s=(x.toNat:Int)-48:=by unfold bH;rw[ht];rfl
 refine⟨h2,by omega,by omega,?_⟩;apply AO;have hol:=(List.getElem?_eq_some_iff.1 hat).1
 have hsplit:s.data.toList=s.data.toList.take o++91::s.data.toList.drop (o+1):=by
  conv=>lhs;rw[←List.take_append_drop o s.data.toList,List.drop_eq_getElem_cons hol]
  rw[(List.getElem?_eq_some_iff.1 hat).2]
 have hdec:Lib.decDigits (bH s).toNat=[x]:=by
  have e1:(bH s).toNat=x.toNat-48:=by omega
  rw[e1,Lib.decDigits,dif_pos (by omega)];congr 1;apply UInt8.toNat_inj.1;have:=qB (x.toNat-48) (by omega);omega
 unfold pd wW bE;simp only[ByteArray.data_append,Array.toList_append,hdec,hA];rw[hsplit]
 conv=>rhs;rw[←hB,ht,hy]
 rw[List.take_append_of_le_length (by rw[List.length_take];omega),List.take_take,Nat.min_self];simp
theorem pS:∀o,o∈[(1:Int),2,3,24,25]→kW o=14∧dS o=none:=by decide +kernel
abbrev Pc:=List (Option Tok)
def txt:Pc→Bs
 | []=>[]
 | none::r=>32::txt r
 | some t::r=>t.text.data.toList++txt r
theorem dq:∀a b:Pc,txt (a++b)=txt a++txt b
 | [],b=>rfl
 | none::r,b=>by simp only[List.cons_append,txt,dq r b]
 | some t::r,b=>by simp only[List.cons_append,txt,dq r b,List.append_assoc]
theorem b6(c:UInt8)(X:Pc):txt (some (tm (bE c))::X)=c::txt X:=rfl
def fR(k:Nat)(a:Int×Pc):Pc:=if kW a.1<k then some (tm (bE 40))::(a.2++[some (tm (bE 41))])else a.2
def i6:List (Int×Pc)→Pc
 | []=>[]
 | [_]=>[]
 | [a,b]=>a.2++none::some (tm (eG 46 46))::none::b.2
 | a::b::c::r=>a.2++none::some (tm (eG 46 46))::none::(b.2++some (tm (bE 44))::none::i6 (c::r))
def sp(o n:Int)(s:ByteArray)(xs:List (Int×Pc)):Pc:=match dS o with
 | some (m,l)=>fR (if l=2 then 3 else l) (xs.getD 0 (1,[]))++none::some (tm m)::none::fR (if l=2 then 2 else l+1) (xs.getD 1 (1,[]))
 | none=>
  if o=4 then some (tm (bE 33))::fR 13 (xs.getD 0 (1,[]))
  else if o=5 then some (tm (bE 126))::fR 13 (xs.getD 0 (1,[]))
  else if o=6 then some (tm (bE 45))::fR 13 (xs.getD 0 (1,[]))
  else if o=22 then fR 2 (xs.getD 0 (1,[]))++none::some (tm (bE 63))::none::(fR 1 (xs.getD 1 (1,[]))++none::some (tm (bE 58))::none::fR 1 (xs.getD 2 (1,[])))
  else if o=23 then fR 9 (xs.getD 0 (1,[]))++none::some (tw s7)::none::some (tm (bE 123))::none::(i6 xs.tail++[none,some (tm (bE 125))])
  else if o=1 then[some (td n)]
  else if o=3 then some (tn s)::some (tm (bE 91))::((xs.getD 0 (1,[])).2++[some (tm (bE 93))])
  else if o=24 then[some (tn Fe),some (tm (bE 40)),some (tn s),some (tm (bE 41))]
  else if o=25 then some (tn BF)::some (tm (bE 40))::((xs.getD 0 (1,[])).2++[some (tm (bE 41))])
  else(zA s).map some
mutual
def pcE:Ex→Pc
 | .mk o n s l=>sp o n s (yt l)
def yt:List Ex→List (Int×Pc)
 | []=>[]
 | a::r=>(a.op,pcE a)::yt r
end
def aJ(e:Ex):Bs:=txt (pcE e)
end Go.Proofs.YthekkgfmagliiaaGreatDoor
