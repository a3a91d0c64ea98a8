import Derived.Test.YtcbahpllcfbkmaaGreatDoorPt
set_option linter.unusedVariables false
set_option linter.unusedSimpArgs false
set_option linter.unusedSectionVars false
namespace Go.Proofs.YtcbahpllcfbkmaaGreatDoor
open Go.RowKit
theorem binL_some{o:Int}{m:ByteArray}{l:Nat}(h:binL o=some (m,l)):(m,o,l)∈binTab:=by
 unfold binL at h;obtain⟨b,hb,e⟩:=Option.map_eq_some_iff.1 h;have h1:=List.mem_of_find?_eq_some hb;have h2:=List.find?_some hb;simp only[decide_eq_true_eq]at h2;cases e;subst h2;exact h1
theorem bin_lev:∀b,b∈binTab→2≤b.2.2∧b.2.2≤12∧(b.2.2=2→b.2.1=21∧b.1=mark2 61 62)∧7≤b.2.1∧b.2.1≤21:=by decide +kernel
theorem levO_bd(o:Int):1≤levO o∧levO o≤14:=by
 unfold levO;split
 ·rename_i m l h;have:=bin_lev _ (binL_some h);simp only at this;omega
 ·repeat' split
  all_goals omega
theorem ops_bin:∀o:Nat,o≤21→7≤o→(binL (o:Int)).isSome=true:=by decide +kernel
theorem bytes_nil{s:ByteArray}(h:s.toList=[]):s=⟨#[]⟩:=by
 rw[ByteArray.toList_eq]at h;cases s with
 | mk d=>
  have:d = #[]:=by
   apply Array.toList_inj.1;simpa using h
  rw[this]
theorem node_facts{o n:Int}{s:ByteArray}{k:Nat}(h:nodeErr o n s k=0):
 1≤o∧o≤25∧(o=1→0≤n∧n≤65535)∧operB o k=true∧(o=2→isVarB s=true)∧(o=3∨o=24→nameB s=true)∧(¬o=1→n=0)∧(namedB o=false→s=⟨#[]⟩):=by
 unfold nodeErr at h;split at h
 ·cases h
 ·split at h
  ·cases h
  ·split at h
   ·cases h
   ·split at h
    ·cases h
    ·rename_i h1 h2 h3 h4;refine⟨by omega,by omega,fun e=>by omega,?_,fun e=>?_,fun e=>?_,fun e=>by omega,fun e=>?_⟩
     ·cases ho:operB o k with
      | true=>rfl
      | false=>exact absurd (.inr ho) h3
     ·cases hv:isVarB s with
      | true=>rfl
      | false=>exact absurd (.inl ⟨e,hv⟩) h4
     ·cases hv:nameB s with
      | true=>rfl
      | false=>exact absurd (.inr ⟨e,hv⟩) h4
     ·refine bytes_nil (Decidable.byContradiction fun hs=>h3 (.inl ⟨e,hs⟩))
theorem errL_all{l:List Ex}(h:errL l=0):∀a,a∈l→errE a=0:=by
 induction l with
 | nil=>intro a ha;cases ha
 | cons b r ih=>
  simp only[errL]at h;split at h
  ·rename_i hb;intro a ha;rcases List.mem_cons.1 ha with e|e
   ·rw[e];exact hb
   ·exact ih h a e
  ·rename_i hb;exact absurd h hb
theorem errE_parts{o n:Int}{s:ByteArray}{l:List Ex}(h:errE (.mk o n s l)=0):nodeErr o n s l.length=0∧∀a,a∈l→errE a=0:=by
 simp only[errE]at h;split at h
 ·exact⟨by assumption,errL_all h⟩
 ·rename_i hb;exact absurd h hb
theorem ba_list{a b:ByteArray}(h:a.data.toList=b.data.toList):a=b:=by
 cases a;cases b;simp only at h;rw[Array.toList_inj.1 h]
theorem two_list{t:ByteArray}(h:t.size=2):t.data.toList=[t[0]'(by omega),t[1]'(by omega)]:=by
 have hl:t.data.toList.length=2:=by rw[←Lib.size_eq];exact h
 match hq:t.data.toList,hl with
 | [x,y],_=>
  have h0:=get_list t 0 (by omega);have h1:=get_list t 1 (by omega);rw[hq]at h0 h1;simp only[List.getElem?_cons_zero,List.getElem?_cons_succ,Option.some.injEq]at h0 h1;rw[←h0,←h1]
theorem elem_name{s:ByteArray}(h:elemB s=true):nameB (cutA s 91)=true∧0≤elemDig s∧elemDig s≤7∧elemNm (cutA s 91) (elemDig s)=s:=by
 unfold elemB at h;simp only[Bool.and_eq_true]at h;obtain⟨⟨h1,h2⟩,h3⟩:=h;have hi:0≤Lib.indexByte s.data.toList 91:=of_decide_eq_true h1;obtain⟨o,ho⟩:=Int.eq_ofNat_of_zero_le hi;have hne:¬Lib.indexByte s.data.toList 91 = -1:=by omega
 have hA:(cutA s 91).data.toList=s.data.toList.take o:=by
  unfold cutA;rw[if_neg hne,ho,Lib.extract_eq];simp
 have hB:(cutB s 91).data.toList=s.data.toList.drop (o+1):=by
  unfold cutB;rw[if_neg hne,ho,Lib.extract_eq];have hz:(s.data.toList.drop (o+1)).length≤s.size-(o+1):=by rw[List.length_drop,←Lib.size_eq];exact Nat.le_refl _
  first
   | (show List.take (s.size-(o+1)) (s.data.toList.drop (o+1))=_;exact List.take_of_length_le hz)
   | (show List.drop (o+1) (s.data.toList.take s.size)=_;rw[List.take_of_length_le (by rw[←Lib.size_eq];exact Nat.le_refl _)])
 have hat:s.data.toList[o]? = some 91:=(Lib.indexByte_some ho).1
 have hz:(cutB s 91).size=2:=by
  refine Decidable.byContradiction fun hn=>?_;rw[closeB_ne hn]at h3;cases h3
 rw[closeB_eq hz]at h3;simp only[Bool.and_eq_true,decide_eq_true_eq]at h3;have ht:=two_list hz;generalize (cutB s 91)[0]'(by omega)=x at *;generalize (cutB s 91)[1]'(by omega)=y at *;obtain⟨⟨g1,g2⟩,g3⟩:=h3
 have hy:y=93:=by
  have:y.toNat=(93:UInt8).toNat:=g1;exact UInt8.toNat_inj.1 this
 have hd:elemDig s=(x.toNat:Int)-48:=by unfold elemDig;rw[ht];rfl
 refine⟨h2,by omega,by omega,?_⟩;apply ba_list;have hol:=(List.getElem?_eq_some_iff.1 hat).1
 have hsplit:s.data.toList=s.data.toList.take o++91::s.data.toList.drop (o+1):=by
  conv=>lhs;rw[←List.take_append_drop o s.data.toList,List.drop_eq_getElem_cons hol]
  rw[(List.getElem?_eq_some_iff.1 hat).2]
 have hdec:Lib.decDigits (elemDig s).toNat=[x]:=by
  have e1:(elemDig s).toNat=x.toNat-48:=by omega
  rw[e1,Lib.decDigits,dif_pos (by omega)];congr 1;apply UInt8.toNat_inj.1;have:=dig_byte (x.toNat-48) (by omega);omega
 unfold elemNm decS mark1;simp only[ByteArray.data_append,Array.toList_append,hdec,hA];rw[hsplit]
 conv=>rhs;rw[←hB,ht,hy]
 rw[List.take_append_of_le_length (by rw[List.length_take];omega),List.take_take,Nat.min_self];simp
theorem lev14:∀o,o∈[(1:Int),2,3,24,25]→levO o=14∧binL o=none:=by decide +kernel
abbrev Pc:=List (Option Tok)
def txt:Pc→Bs
 | []=>[]
 | none::r=>32::txt r
 | some t::r=>t.text.data.toList++txt r
theorem txt_app:∀a b:Pc,txt (a++b)=txt a++txt b
 | [],b=>rfl
 | none::r,b=>by simp only[List.cons_append,txt,txt_app r b]
 | some t::r,b=>by simp only[List.cons_append,txt,txt_app r b,List.append_assoc]
structure Fine(t:Tok)(q:Bs):Prop where
 v:vTok t=true
 n:t.text.data.toList≠[]
 r:readL (t.text.data.toList++q)=.tok t.kind t.num t.text.data.toList.length
 s:skipL (t.text.data.toList++q)=t.text.data.toList++q
def good:Pc→Bs→Prop
 | [],_=>True
 | none::r,q=>good r q
 | some t::r,q=>Fine t (txt r++q)∧good r q
theorem txt_solo(c:UInt8)(X:Pc):txt (some (tm (mark1 c))::X)=c::txt X:=rfl
def itAt(k:Nat)(a:Int×Pc):Pc:=if levO a.1<k then some (tm (mark1 40))::(a.2++[some (tm (mark1 41))])else a.2
def itPairs:List (Int×Pc)→Pc
 | []=>[]
 | [_]=>[]
 | [a,b]=>a.2++none::some (tm (mark2 46 46))::none::b.2
 | a::b::c::r=>a.2++none::some (tm (mark2 46 46))::none::(b.2++some (tm (mark1 44))::none::itPairs (c::r))
def itNode(o n:Int)(s:ByteArray)(xs:List (Int×Pc)):Pc:=match binL o with
 | some (m,l)=>itAt (if l=2 then 3 else l) (xs.getD 0 (1,[]))++none::some (tm m)::none::itAt (if l=2 then 2 else l+1) (xs.getD 1 (1,[]))
 | none=>
  if o=4 then some (tm (mark1 33))::itAt 13 (xs.getD 0 (1,[]))
  else if o=5 then some (tm (mark1 126))::itAt 13 (xs.getD 0 (1,[]))
  else if o=6 then some (tm (mark1 45))::itAt 13 (xs.getD 0 (1,[]))
  else if o=22 then itAt 2 (xs.getD 0 (1,[]))++none::some (tm (mark1 63))::none::(itAt 1 (xs.getD 1 (1,[]))++none::some (tm (mark1 58))::none::itAt 1 (xs.getD 2 (1,[])))
  else if o=23 then itAt 9 (xs.getD 0 (1,[]))++none::some (tw insideW)::none::some (tm (mark1 123))::none::(itPairs xs.tail++[none,some (tm (mark1 125))])
  else if o=1 then[some (td n)]
  else if o=3 then some (tn s)::some (tm (mark1 91))::((xs.getD 0 (1,[])).2++[some (tm (mark1 93))])
  else if o=24 then[some (tn sumW),some (tm (mark1 40)),some (tn s),some (tm (mark1 41))]
  else if o=25 then some (tn onesW)::some (tm (mark1 40))::((xs.getD 0 (1,[])).2++[some (tm (mark1 41))])
  else(varTk s).map some
mutual
def pcE:Ex→Pc
 | .mk o n s l=>itNode o n s (pcEs l)
def pcEs:List Ex→List (Int×Pc)
 | []=>[]
 | a::r=>(a.op,pcE a)::pcEs r
end
def textE(e:Ex):Bs:=txt (pcE e)
inductive Sh:Ex→Prop where
 | const (n:Int) (h0:0≤n) (h1:n≤65535):Sh (.mk 1 n ⟨#[]⟩ [])
 | var (s:ByteArray) (h:isVarB s=true):Sh (.mk 2 0 s [])
 | elem (s:ByteArray) (x:Ex) (h:nameB s=true) (hx:errE x=0):Sh (.mk 3 0 s [x])
 | pre (o:Int) (x:Ex) (h:o=4∨o=5∨o=6) (hx:errE x=0):Sh (.mk o 0 ⟨#[]⟩ [x])
 | bin (o:Int) (m:ByteArray) (k:Nat) (x y:Ex) (h:binL o=some (m,k)) (hx:errE x=0) (hy:errE y=0):Sh (.mk o 0 ⟨#[]⟩ [x,y])
 | ite (x y z:Ex) (hx:errE x=0) (hy:errE y=0) (hz:errE z=0):Sh (.mk 22 0 ⟨#[]⟩ [x,y,z])
 | inside (x:Ex) (l:List Ex) (hx:errE x=0) (hl:∀a,a∈l→errE a=0) (hev:l.length%2=0) (hne:2≤l.length) (h32:l.length≤32):Sh (.mk 23 0 ⟨#[]⟩ (x::l))
 | sum (s:ByteArray) (h:nameB s=true):Sh (.mk 24 0 s [])
 | ones (x:Ex) (hx:errE x=0):Sh (.mk 25 0 ⟨#[]⟩ [x])
theorem sh_of{e:Ex}(he:errE e=0):Sh e:=by
 obtain⟨o,n,s,l⟩:=e;obtain⟨hnode,hargs⟩:=errE_parts he;obtain⟨o1,o25,hc,hop,hvar,hname,hn0,hs0⟩:=node_facts hnode;by_cases c1:o=1
 ·subst c1;have hl:l=[]:=List.eq_nil_of_length_eq_zero (by simpa[operB,arity]using hop);have hs:s=⟨#[]⟩:=hs0 (by decide);subst hl;subst hs;obtain⟨h0,h1⟩:=hc rfl;exact .const n h0 h1
 have hn:n=0:=hn0 c1;subst hn;by_cases c2:o=2
 ·subst c2;have hl:l=[]:=List.eq_nil_of_length_eq_zero (by simpa[operB,arity]using hop);subst hl;exact .var s (hvar rfl)
 by_cases c3:o=3
 ·subst c3;have hnm:=hname (.inl rfl)
  have hl:l.length=1:=by have:(l.length:Int)=1:=by simpa[operB,arity]using hop
                         omega
  obtain⟨x,rfl⟩:=List.length_eq_one_iff.1 hl;exact .elem s x hnm (hargs x (by simp))
 by_cases c24:o=24
 ·subst c24;have hl:l=[]:=List.eq_nil_of_length_eq_zero (by simpa[operB,arity]using hop);subst hl;exact .sum s (hname (.inr rfl))
 have hs:s=⟨#[]⟩:=hs0 (by unfold namedB;simp[c2,c3,c24]);subst hs;by_cases c25:o=25
 ·subst c25
  have hl:l.length=1:=by have:(l.length:Int)=1:=by simpa[operB,arity]using hop
                         omega
  obtain⟨x,rfl⟩:=List.length_eq_one_iff.1 hl;exact .ones x (hargs x (by simp))
 by_cases c456:o=4∨o=5∨o=6
 ·have hl:l.length=1:=by
   have:(l.length:Int)=1:=by
    rcases c456 with rfl|rfl|rfl<;>simpa[operB,arity]using hop
   omega
  obtain⟨x,rfl⟩:=List.length_eq_one_iff.1 hl;exact .pre o x c456 (hargs x (by simp))
 by_cases c22:o=22
 ·subst c22
  have hl:l.length=3:=by have:(l.length:Int)=3:=by simpa[operB,arity]using hop
                         omega
  match l,hl,hargs with
  | [x,y,z],_,hargs=>exact .ite x y z (hargs x (by simp)) (hargs y (by simp)) (hargs z (by simp))
 by_cases c23:o=23
 ·subst c23
  have hl:l.length%2=1∧3≤l.length∧l.length≤33:=by
   have:(decide (l.length%2=1)&&decide (3≤l.length)&&decide (l.length≤33))=true:=by simpa[operB]using hop
   simp only[Bool.and_eq_true,decide_eq_true_eq]at this;exact⟨this.1.1,this.1.2,this.2⟩
  match l,hl,hargs with
  | x::m,⟨h1,h2,h3⟩,hargs=>
   simp only[List.length_cons]at h1 h2 h3;exact .inside x m (hargs x (by simp)) (fun a ha=>hargs a (by simp[ha])) (by omega) (by omega) (by omega)
 have hl:l.length=2:=by
  have:(l.length:Int)=2:=by
   have h1:(l.length:Int)=arity o:=by unfold operB at hop;rw[if_neg c23]at hop;exact of_decide_eq_true hop
   rw[h1];unfold arity;rw[if_neg (by omega),if_neg (by omega),if_neg c22,if_neg c23,if_neg (by omega)]
  omega
 match l,hl,hargs with
 | [x,y],_,hargs=>
  obtain⟨k,hk⟩:=Int.eq_ofNat_of_zero_le (show 0≤o by omega);have hb:=ops_bin k (by omega) (by omega);rw[←hk]at hb;obtain⟨⟨m,p⟩,hp⟩:=Option.isSome_iff_exists.1 hb;exact .bin o m p x y hp (hargs x (by simp)) (hargs y (by simp))
def opS(k:Nat)(x:Ex):Bs:=if levO x.op<k then 40::(textE x++[41])else textE x
theorem txt_at(k:Nat)(x:Ex):txt (itAt k (x.op,pcE x))=opS k x:=by
 unfold itAt opS;simp only;split
 ·rw[txt_solo,txt_app,txt_solo];rfl
 ·rfl
theorem opS_one(x:Ex):opS 1 x=textE x:=by
 unfold opS;rw[if_neg (by have:=(levO_bd x.op).1;omega)]
theorem txt_cons(t:Tok)(X:Pc):txt (some t::X)=t.text.data.toList++txt X:=rfl
theorem txt_none(X:Pc):txt (none::X)=32::txt X:=rfl
theorem txt_nil:txt []=[]:=rfl
theorem text_const(n:Int):textE (.mk 1 n ⟨#[]⟩ [])=Lib.decDigits n.toNat:=by
 show txt [some (td n)]=_;rw[txt_cons,txt_nil,List.append_nil];rfl
theorem text_elem(s:ByteArray)(x:Ex):textE (.mk 3 0 s [x])=s.data.toList++91::(textE x++[93]):=by
 show txt (some (tn s)::some (tm (mark1 91))::(pcE x++[some (tm (mark1 93))]))=_;rw[txt_cons,txt_solo,txt_app,txt_solo];rfl
theorem text_sum(s:ByteArray):textE (.mk 24 0 s [])=[115,117,109,40]++(s.data.toList++[41]):=by
 show txt [some (tn sumW),some (tm (mark1 40)),some (tn s),some (tm (mark1 41))]=_;rw[txt_cons,txt_solo,txt_cons,txt_solo];rfl
theorem text_ones(x:Ex):textE (.mk 25 0 ⟨#[]⟩ [x])=[111,110,101,115,40]++(textE x++[41]):=by
 show txt (some (tn onesW)::some (tm (mark1 40))::(pcE x++[some (tm (mark1 41))]))=_;rw[txt_cons,txt_solo,txt_app,txt_solo];rfl
theorem text_if(x y z:Ex):textE (.mk 22 0 ⟨#[]⟩ [x,y,z])=opS 2 x++([32,63,32]++(opS 1 y++([32,58,32]++opS 1 z))):=by
 show txt (itAt 2 (x.op,pcE x)++none::some (tm (mark1 63))::none::(itAt 1 (y.op,pcE y)++none::some (tm (mark1 58))::none::itAt 1 (z.op,pcE z)))=_;rw[txt_app,txt_none,txt_solo,txt_none,txt_app,txt_none,txt_solo,txt_none,txt_at,txt_at,txt_at];rfl
theorem text_bin{o:Int}{m:ByteArray}{k:Nat}(h:binL o=some (m,k))(x y:Ex):textE (.mk o 0 ⟨#[]⟩ [x,y])=opS (if k=2 then 3 else k) x++(32::(m.data.toList++(32::opS (if k=2 then 2 else k+1) y))):=by
 show txt (itNode o 0 ⟨#[]⟩ [(x.op,pcE x),(y.op,pcE y)])=_;unfold itNode;rw[h];simp only;rw[txt_app,txt_none,txt_cons,txt_none];show txt (itAt _ (x.op,pcE x))++(32::(m.data.toList++(32::txt (itAt _ (y.op,pcE y)))))=_;rw[txt_at,txt_at]
theorem pre_lev:∀o,o∈[(4:Int),5,6]→binL o=none:=by decide +kernel
def preS(o:Int):Bs:=if o=4 then[33]else if o=5 then[126]else if o=6 then[45]else[]
theorem text_pre{o:Int}(h:o=4∨o=5∨o=6)(x:Ex):textE (.mk o 0 ⟨#[]⟩ [x])=preS o++opS 13 x:=by
 rcases h with rfl|rfl|rfl
 ·show txt (some (tm (mark1 33))::itAt 13 (x.op,pcE x))=_;rw[txt_solo,txt_at];rfl
 ·show txt (some (tm (mark1 126))::itAt 13 (x.op,pcE x))=_;rw[txt_solo,txt_at];rfl
 ·show txt (some (tm (mark1 45))::itAt 13 (x.op,pcE x))=_;rw[txt_solo,txt_at];rfl
def pairS:List Ex→Bs
 | []=>[]
 | [_]=>[]
 | [a,b]=>textE a++([32,46,46,32]++textE b)
 | a::b::c::r=>(textE a++([32,46,46,32]++textE b))++([44,32]++pairS (c::r))
theorem txt_pairs:∀l:List Ex,txt (itPairs (pcEs l))=pairS l
 | []=>rfl
 | [_]=>rfl
 | [a,b]=>by
  show txt (pcE a++none::some (tm (mark2 46 46))::none::pcE b)=_;rw[txt_app,txt_none,txt_cons,txt_none];rfl
 | a::b::c::r=>by
  have:=txt_pairs (c::r);show txt (pcE a++none::some (tm (mark2 46 46))::none::(pcE b++some (tm (mark1 44))::none::itPairs (pcEs (c::r))))=_;rw[txt_app,txt_none,txt_cons,txt_none,txt_app,txt_solo,txt_none,this];simp only[pairS,textE,List.append_assoc];rfl
theorem text_inside(x:Ex)(l:List Ex):textE (.mk 23 0 ⟨#[]⟩ (x::l))=opS 9 x++([32,105,110,115,105,100,101,32,123,32]++(pairS l++[32,125])):=by
 show txt (itAt 9 (x.op,pcE x)++none::some (tw insideW)::none::some (tm (mark1 123))::none::(itPairs (pcEs l)++[none,some (tm (mark1 125))]))=_;rw[txt_app,txt_none,txt_cons,txt_none,txt_solo,txt_none,txt_app,txt_pairs,txt_none,txt_solo,txt_at];rfl
theorem text_var(s:ByteArray):textE (.mk 2 0 s [])=if elemB s=true then(cutA s 91).data.toList++64::Lib.decDigits (elemDig s).toNat else s.data.toList:=by
 show txt ((varTk s).map some)=_;unfold varTk;split
 ·show txt [some (tn (cutA s 91)),some (tm (mark1 64)),some (td (elemDig s))]=_;rw[txt_cons,txt_solo,txt_cons,txt_nil,List.append_nil];rfl
 ·show txt [some (tn s)]=_;rw[txt_cons,txt_nil,List.append_nil];rfl
theorem opS_len(k:Nat)(x:Ex):(opS k x).length≤(textE x).length+2:=by
 unfold opS;split
 ·simp only[List.length_cons,List.length_append,List.length_nil];omega
 ·omega
theorem name_len{s:ByteArray}(h:nameB s=true):s.data.toList.length≤16:=by
 simp only[nameB,Bool.and_eq_true,decide_eq_true_eq]at h;have:=h.1.2;rw[Lib.size_eq]at this;exact this
theorem dec_five(u:Nat)(h:u≤65535):(Lib.decDigits u).length≤5:=by
 have H:∀(k u:Nat),u<10^(k+1)→(Lib.decDigits u).length≤k+1:=by
  intro k
  induction k with
  | zero=>intro u h;rw[Lib.decDigits,dif_pos (by simpa using h)];simp
  | succ k ih=>
   intro u h;rw[Lib.decDigits];split
   ·simp
   ·have:=ih (u/10) (by rw[Nat.pow_succ]at h;omega);rw[List.length_append,List.length_singleton];omega
 exact H 4 u (by omega)
theorem mark_len:∀b,b∈binTab→b.1.data.toList.length≤2:=by decide +kernel
theorem pair_len:∀l:List Ex,(∀a,a∈l→(textE a).length+20≤64*esize a)→(pairS l).length+10*l.length≤64*esizes l
 | [],_=>by simp[pairS,esizes]
 | [a],h=>by have:=h a (by simp);simp only[pairS,esizes,List.length_nil,List.length_cons];omega
 | [a,b],h=>by
  have h1:=h a (by simp);have h2:=h b (by simp);simp only[pairS,esizes,List.length_nil,List.length_cons,List.length_append];omega
 | a::b::c::r,h=>by
  have h1:=h a (by simp);have h2:=h b (by simp);have h3:=pair_len (c::r) fun x hx=>h x (by simp only[List.mem_cons]at hx ⊢;exact .inr (.inr hx));simp only[pairS,esizes,List.length_nil,List.length_cons,List.length_append]at h3 ⊢;omega
theorem text_len(e:Ex):errE e=0→(textE e).length+20≤64*esize e:=by
 induction e using Ex.ind with
 | h o n s l ih=>
 intro he;have hs:=sh_of he;generalize hE:Ex.mk o n s l=E at hs;cases hs with
 | const n h0 h1=>
  have:=dec_five n.toNat (by omega);rw[text_const];simp only[esize,esizes];omega
 | var s h=>
  cases hE;rw[text_var];unfold isVarB at h;rw[Bool.or_eq_true]at h;simp only[esize,esizes];split
  ·rename_i hel;obtain⟨g1,g2,g3,g4⟩:=elem_name hel;have h1:=name_len g1;have h2:=dec_five (elemDig s).toNat (by omega);simp only[List.length_append,List.length_cons];omega
  ·rename_i hel;have h1:=name_len (h.resolve_left hel);omega
 | elem s x h hx=>
  cases hE;have h1:=ih x (by simp) hx;have h2:=name_len h;rw[text_elem];simp only[esize,esizes,List.length_append,List.length_cons,List.length_nil];omega
 | pre o x h hx=>
  cases hE;have h1:=ih x (by simp) hx;have h2:=opS_len 13 x;have h3:(preS o).length≤1:=by rcases h with rfl|rfl|rfl<;>decide
  rw[text_pre h];simp only[esize,esizes,List.length_append];omega
 | bin o m k x y h hx hy=>
  cases hE;have h1:=ih x (by simp) hx;have h2:=ih y (by simp) hy;have h3:=mark_len _ (binL_some h);have h4:=opS_len (if k=2 then 3 else k) x;have h5:=opS_len (if k=2 then 2 else k+1) y;rw[text_bin h];simp only[esize,esizes,List.length_append,List.length_cons]at h3 ⊢;omega
 | ite x y z hx hy hz=>
  cases hE;have h1:=ih x (by simp) hx;have h2:=ih y (by simp) hy;have h3:=ih z (by simp) hz;have h4:=opS_len 2 x;have h5:=opS_len 1 y;have h6:=opS_len 1 z;rw[text_if];simp only[esize,esizes,List.length_append,List.length_cons,List.length_nil];omega
 | inside x l hx hl hev hne h32=>
  cases hE;have h1:=ih x (by simp) hx;have h2:=pair_len l fun a ha=>ih a (by simp[ha]) (hl a ha);have h4:=opS_len 9 x;rw[text_inside];simp only[esize,esizes,List.length_append,List.length_cons,List.length_nil];omega
 | sum s h=>
  cases hE;have h2:=name_len h;rw[text_sum];simp only[esize,esizes,List.length_append,List.length_cons,List.length_nil];omega
 | ones x hx=>
  cases hE;have h1:=ih x (by simp) hx;rw[text_ones];simp only[esize,esizes,List.length_append,List.length_cons,List.length_nil];omega
end Go.Proofs.YtcbahpllcfbkmaaGreatDoor
