import Derived.Test.YtcbahpllcfbkmaaGreatDoorPt
set_option linter.unusedVariables false
set_option linter.unusedSimpArgs false
set_option linter.unusedSectionVars false
namespace Go.Proofs.YtcbahpllcfbkmaaGreatDoor
open Go.RowKit
theorem i7{o:Int}{m:ByteArray}{l:Nat}(h:eI o=some (m,l)):(m,o,l)∈dU:=by
 unfold eI at h;obtain⟨b,hb,e⟩:=Option.map_eq_some_iff.1 h;have h1:=List.mem_of_find?_eq_some hb;have h2:=List.find?_some hb;simp only[decide_eq_true_eq]at h2;cases e;subst h2;exact h1
theorem yx:∀b,b∈dU→2≤b.2.2∧b.2.2≤12∧(b.2.2=2→b.2.1=21∧b.1=dW 61 62)∧7≤b.2.1∧b.2.1≤21:=by decide +kernel
theorem xQ:∀o:Nat,o≤21→7≤o→(eI (o:Int)).isSome=true:=by decide +kernel
theorem rq{s:ByteArray}(h:s.toList=[]):s=⟨#[]⟩:=by
 rw[ByteArray.toList_eq]at h;cases s with
 | mk d=>
  have:d = #[]:=by
   apply Array.toList_inj.1;simpa using h
  rw[this]
theorem ol{o n:Int}{s:ByteArray}{k:Nat}(h:aC o n s k=0):
 1≤o∧o≤25∧(o=1→0≤n∧n≤65535)∧cd o k=true∧(o=2→aK s=true)∧(o=3∨o=24→aL s=true)∧(¬o=1→n=0)∧(cr o=false→s=⟨#[]⟩):=by
 unfold aC at h;split at h
 ·cases h
 ·split at h
  ·cases h
  ·split at h
   ·cases h
   ·split at h
    ·cases h
    ·rename_i h1 h2 h3 h4;refine⟨by omega,by omega,fun e=>by omega,?_,fun e=>?_,fun e=>?_,fun e=>by omega,fun e=>?_⟩
     ·cases ho:cd o k with
      | true=>rfl
      | false=>exact absurd (.inr ho) h3
     ·cases hv:aK s with
      | true=>rfl
      | false=>exact absurd (.inl ⟨e,hv⟩) h4
     ·cases hv:aL s with
      | true=>rfl
      | false=>exact absurd (.inr ⟨e,hv⟩) h4
     ·refine rq (Decidable.byContradiction fun hs=>h3 (.inl ⟨e,hs⟩))
theorem uA{l:List Ex}(h:gH l=0):∀a,a∈l→cu a=0:=by
 induction l with
 | nil=>intro a ha;cases ha
 | cons b r ih=>
  simp only[gH]at h;split at h
  ·rename_i hb;intro a ha;rcases List.mem_cons.1 ha with e|e
   ·rw[e];exact hb
   ·exact ih h a e
  ·rename_i hb;exact absurd h hb
theorem pI{o n:Int}{s:ByteArray}{l:List Ex}(h:cu (.mk o n s l)=0):aC o n s l.length=0∧∀a,a∈l→cu a=0:=by
 simp only[cu]at h;split at h
 ·exact⟨by assumption,uA h⟩
 ·rename_i hb;exact absurd h hb
theorem w8{a b:ByteArray}(h:a.data.toList=b.data.toList):a=b:=by
 cases a;cases b;simp only at h;rw[Array.toList_inj.1 h]
theorem tR{t:ByteArray}(h:t.size=2):t.data.toList=[t[0]'(by omega),t[1]'(by omega)]:=by
 have hl:t.data.toList.length=2:=by rw[←Lib.size_eq];exact h
 match hq:t.data.toList,hl with
 | [x,y],_=>
  have h0:=eo t 0 (by omega);have h1:=eo t 1 (by omega);rw[hq]at h0 h1;simp only[List.getElem?_cons_zero,List.getElem?_cons_succ,Option.some.injEq]at h0 h1;rw[←h0,←h1]
theorem cP{s:ByteArray}(h:dj s=true):aL (cI s 91)=true∧0≤bO s∧bO s≤7∧fU (cI s 91) (bO s)=s:=by
 unfold dj at h;simp only[Bool.and_eq_true]at h;obtain⟨⟨h1,h2⟩,h3⟩:=h;have hi:0≤Lib.indexByte s.data.toList 91:=of_decide_eq_true h1;obtain⟨o,ho⟩:=Int.eq_ofNat_of_zero_le hi;have hne:¬Lib.indexByte s.data.toList 91 = -1:=by omega
 have hA:(cI s 91).data.toList=s.data.toList.take o:=by
  unfold cI;rw[if_neg hne,ho,Lib.extract_eq];simp
 have hB:(eG s 91).data.toList=s.data.toList.drop (o+1):=by
  unfold eG;rw[if_neg hne,ho,Lib.extract_eq];have hz:(s.data.toList.drop (o+1)).length≤s.size-(o+1):=by rw[List.length_drop,←Lib.size_eq];exact Nat.le_refl _
  first
   | (show List.take (s.size-(o+1)) (s.data.toList.drop (o+1))=_;exact List.take_of_length_le hz)
   | (show List.drop (o+1) (s.data.toList.take s.size)=_;rw[List.take_of_length_le (by rw[←Lib.size_eq];exact Nat.le_refl _)])
 have hat:s.data.toList[o]? = some 91:=(Lib.indexByte_some ho).1
 have hz:(eG s 91).size=2:=by
  refine Decidable.byContradiction fun hn=>?_;rw[iY hn]at h3;cases h3
 rw[fp hz]at h3;simp only[Bool.and_eq_true,decide_eq_true_eq]at h3;have ht:=tR hz;generalize (eG s 91)[0]'(by omega)=x at *;generalize (eG s 91)[1]'(by omega)=y at *;obtain⟨⟨g1,g2⟩,g3⟩:=h3
 have hy:y=93:=by
  have:y.toNat=(93:UInt8).toNat:=g1;exact UInt8.toNat_inj.1 this
 have hd:bO s=(x.toNat:Int)-48:=by unfold bO;rw[ht];rfl
 refine⟨h2,by omega,by omega,?_⟩;apply w8;have hol:=(List.getElem?_eq_some_iff.1 hat).1
 have hsplit:s.data.toList=s.data.toList.take o++91::s.data.toList.drop (o+1):=by
  conv=>lhs;rw[←List.take_append_drop o s.data.toList,List.drop_eq_getElem_cons hol]
  rw[(List.getElem?_eq_some_iff.1 hat).2]
 have hdec:Lib.decDigits (bO s).toNat=[x]:=by
  have e1:(bO s).toNat=x.toNat-48:=by omega
  rw[e1,Lib.decDigits,dif_pos (by omega)];congr 1;apply UInt8.toNat_inj.1;have:=uE (x.toNat-48) (by omega);omega
 unfold fU pX aR;simp only[ByteArray.data_append,Array.toList_append,hdec,hA];rw[hsplit]
 conv=>rhs;rw[←hB,ht,hy]
 rw[List.take_append_of_le_length (by rw[List.length_take];omega),List.take_take,Nat.min_self];simp
theorem nw:∀o,o∈[(1:Int),2,3,24,25]→r9 o=14∧eI o=none:=by decide +kernel
abbrev Pc:=List (Option Tok)
def txt:Pc→Bs
 | []=>[]
 | none::r=>32::txt r
 | some t::r=>t.text.data.toList++txt r
theorem cR:∀a b:Pc,txt (a++b)=txt a++txt b
 | [],b=>rfl
 | none::r,b=>by simp only[List.cons_append,txt,cR r b]
 | some t::r,b=>by simp only[List.cons_append,txt,cR r b,List.append_assoc]
structure Fine(t:Tok)(q:Bs):Prop where
 v:xL t=true
 n:t.text.data.toList≠[]
 r:BS (t.text.data.toList++q)=.tok t.kind t.num t.text.data.toList.length
 s:CD (t.text.data.toList++q)=t.text.data.toList++q
def xW:Pc→Bs→Prop
 | [],_=>True
 | none::r,q=>xW r q
 | some t::r,q=>Fine t (txt r++q)∧xW r q
theorem bR(c:UInt8)(X:Pc):txt (some (tm (aR c))::X)=c::txt X:=rfl
def fj(k:Nat)(a:Int×Pc):Pc:=if r9 a.1<k then some (tm (aR 40))::(a.2++[some (tm (aR 41))])else a.2
def hU:List (Int×Pc)→Pc
 | []=>[]
 | [_]=>[]
 | [a,b]=>a.2++none::some (tm (dW 46 46))::none::b.2
 | a::b::c::r=>a.2++none::some (tm (dW 46 46))::none::(b.2++some (tm (aR 44))::none::hU (c::r))
def pP(o n:Int)(s:ByteArray)(xs:List (Int×Pc)):Pc:=match eI o with
 | some (m,l)=>fj (if l=2 then 3 else l) (xs.getD 0 (1,[]))++none::some (tm m)::none::fj (if l=2 then 2 else l+1) (xs.getD 1 (1,[]))
 | none=>
  if o=4 then some (tm (aR 33))::fj 13 (xs.getD 0 (1,[]))
  else if o=5 then some (tm (aR 126))::fj 13 (xs.getD 0 (1,[]))
  else if o=6 then some (tm (aR 45))::fj 13 (xs.getD 0 (1,[]))
  else if o=22 then fj 2 (xs.getD 0 (1,[]))++none::some (tm (aR 63))::none::(fj 1 (xs.getD 1 (1,[]))++none::some (tm (aR 58))::none::fj 1 (xs.getD 2 (1,[])))
  else if o=23 then fj 9 (xs.getD 0 (1,[]))++none::some (tw mS)::none::some (tm (aR 123))::none::(hU xs.tail++[none,some (tm (aR 125))])
  else if o=1 then[some (td n)]
  else if o=3 then some (tn s)::some (tm (aR 91))::((xs.getD 0 (1,[])).2++[some (tm (aR 93))])
  else if o=24 then[some (tn Aj),some (tm (aR 40)),some (tn s),some (tm (aR 41))]
  else if o=25 then some (tn tS)::some (tm (aR 40))::((xs.getD 0 (1,[])).2++[some (tm (aR 41))])
  else(uG s).map some
mutual
def pcE:Ex→Pc
 | .mk o n s l=>pP o n s (wK l)
def wK:List Ex→List (Int×Pc)
 | []=>[]
 | a::r=>(a.op,pcE a)::wK r
end
def aH(e:Ex):Bs:=txt (pcE e)
end Go.Proofs.YtcbahpllcfbkmaaGreatDoor
