import Derived.Test.YtcbahpllcfbkmaaGreatDoorPt
set_option linter.unusedVariables false
set_option linter.unusedSimpArgs false
set_option linter.unusedSectionVars false
namespace Go.Proofs.YtcbahpllcfbkmaaGreatDoor
open Go.RowKit
theorem binL_some{o:Int}{m:ByteArray}{l:Nat}(h:binL o=some (m,l)):(m,o,l)∈binTab:=by
 unfold binL at h;obtain⟨b,hb,e⟩:=Option.map_eq_some_iff.1 h;have h1:=List.mem_of_find?_eq_some hb;have h2:=List.find?_some hb;simp only[decide_eq_true_eq]at h2;cases e;subst h2;exact h1
theorem bin_lev:∀b,b∈binTab→2≤b.2.2∧b.2.2≤12∧(b.2.2=2→b.2.1=21∧b.1=mark2 61 62)∧7≤b.2.1∧b.2.1≤21:=by decide +kernel
theorem ops_bin:∀o:Nat,o≤21→7≤o→(binL (o:Int)).isSome=true:=by decide +kernel
theorem bytes_nil{s:ByteArray}(h:s.toList=[]):s=⟨#[]⟩:=by
 rw[ByteArray.toList_eq]at h;cases s with
 | mk d=>
  have:d = #[]:=by
   apply Array.toList_inj.1;simpa using h
  rw[this]
theorem node_facts{o n:Int}{s:ByteArray}{k:Nat}(h:nodeErr o n s k=0):
 1≤o∧o≤25∧(o=1→0≤n∧n≤65535)∧operB o k=true∧(o=2→isVarB s=true)∧(o=3∨o=24→nameB s=true)∧(¬o=1→n=0)∧(namedB o=false→s=⟨#[]⟩):=by
 unfold nodeErr at h;split at h
 ·cases h
 ·split at h
  ·cases h
  ·split at h
   ·cases h
   ·split at h
    ·cases h
    ·rename_i h1 h2 h3 h4;refine⟨by omega,by omega,fun e=>by omega,?_,fun e=>?_,fun e=>?_,fun e=>by omega,fun e=>?_⟩
     ·cases ho:operB o k with
      | true=>rfl
      | false=>exact absurd (.inr ho) h3
     ·cases hv:isVarB s with
      | true=>rfl
      | false=>exact absurd (.inl ⟨e,hv⟩) h4
     ·cases hv:nameB s with
      | true=>rfl
      | false=>exact absurd (.inr ⟨e,hv⟩) h4
     ·refine bytes_nil (Decidable.byContradiction fun hs=>h3 (.inl ⟨e,hs⟩))
theorem errL_all{l:List Ex}(h:errL l=0):∀a,a∈l→errE a=0:=by
 induction l with
 | nil=>intro a ha;cases ha
 | cons b r ih=>
  simp only[errL]at h;split at h
  ·rename_i hb;intro a ha;rcases List.mem_cons.1 ha with e|e
   ·rw[e];exact hb
   ·exact ih h a e
  ·rename_i hb;exact absurd h hb
theorem errE_parts{o n:Int}{s:ByteArray}{l:List Ex}(h:errE (.mk o n s l)=0):nodeErr o n s l.length=0∧∀a,a∈l→errE a=0:=by
 simp only[errE]at h;split at h
 ·exact⟨by assumption,errL_all h⟩
 ·rename_i hb;exact absurd h hb
theorem ba_list{a b:ByteArray}(h:a.data.toList=b.data.toList):a=b:=by
 cases a;cases b;simp only at h;rw[Array.toList_inj.1 h]
theorem two_list{t:ByteArray}(h:t.size=2):t.data.toList=[t[0]'(by omega),t[1]'(by omega)]:=by
 have hl:t.data.toList.length=2:=by rw[←Lib.size_eq];exact h
 match hq:t.data.toList,hl with
 | [x,y],_=>
  have h0:=get_list t 0 (by omega);have h1:=get_list t 1 (by omega);rw[hq]at h0 h1;simp only[List.getElem?_cons_zero,List.getElem?_cons_succ,Option.some.injEq]at h0 h1;rw[←h0,←h1]
theorem elem_name{s:ByteArray}(h:elemB s=true):nameB (cutA s 91)=true∧0≤elemDig s∧elemDig s≤7∧elemNm (cutA s 91) (elemDig s)=s:=by
 unfold elemB at h;simp only[Bool.and_eq_true]at h;obtain⟨⟨h1,h2⟩,h3⟩:=h;have hi:0≤Lib.indexByte s.data.toList 91:=of_decide_eq_true h1;obtain⟨o,ho⟩:=Int.eq_ofNat_of_zero_le hi;have hne:¬Lib.indexByte s.data.toList 91 = -1:=by omega
 have hA:(cutA s 91).data.toList=s.data.toList.take o:=by
  unfold cutA;rw[if_neg hne,ho,Lib.extract_eq];simp
 have hB:(cutB s 91).data.toList=s.data.toList.drop (o+1):=by
  unfold cutB;rw[if_neg hne,ho,Lib.extract_eq];have hz:(s.data.toList.drop (o+1)).length≤s.size-(o+1):=by rw[List.length_drop,←Lib.size_eq];exact Nat.le_refl _
  first
   | (show List.take (s.size-(o+1)) (s.data.toList.drop (o+1))=_;exact List.take_of_length_le hz)
   | (show List.drop (o+1) (s.data.toList.take s.size)=_;rw[List.take_of_length_le (by rw[←Lib.size_eq];exact Nat.le_refl _)])
 have hat:s.data.toList[o]? = some 91:=(Lib.indexByte_some ho).1
 have hz:(cutB s 91).size=2:=by
  refine Decidable.byContradiction fun hn=>?_;rw[closeB_ne hn]at h3;cases h3
 rw[closeB_eq hz]at h3;simp only[Bool.and_eq_true,decide_eq_true_eq]at h3;have ht:=two_list hz;generalize (cutB s 91)[0]'(by omega)=x at *;generalize (cutB s 91)[1]'(by omega)=y at *;obtain⟨⟨g1,g2⟩,g3⟩:=h3
 have hy:y=93:=by
  have:y.toNat=(93:UInt8).toNat:=g1;exact UInt8.toNat_inj.1 this
 have hd:elemDig s=(x.toNat:Int)-48:=by unfold elemDig;rw[ht];rfl
 refine⟨h2,by omega,by omega,?_⟩;apply ba_list;have hol:=(List.getElem?_eq_some_iff.1 hat).1
 have hsplit:s.data.toList=s.data.toList.take o++91::s.data.toList.drop (o+1):=by
  conv=>lhs;rw[←List.take_append_drop o s.data.toList,List.drop_eq_getElem_cons hol]
  rw[(List.getElem?_eq_some_iff.1 hat).2]
 have hdec:Lib.decDigits (elemDig s).toNat=[x]:=by
  have e1:(elemDig s).toNat=x.toNat-48:=by omega
  rw[e1,Lib.decDigits,dif_pos (by omega)];congr 1;apply UInt8.toNat_inj.1;have:=dig_byte (x.toNat-48) (by omega);omega
 unfold elemNm decS mark1;simp only[ByteArray.data_append,Array.toList_append,hdec,hA];rw[hsplit]
 conv=>rhs;rw[←hB,ht,hy]
 rw[List.take_append_of_le_length (by rw[List.length_take];omega),List.take_take,Nat.min_self];simp
theorem lev14:∀o,o∈[(1:Int),2,3,24,25]→levO o=14∧binL o=none:=by decide +kernel
abbrev Pc:=List (Option Tok)
def txt:Pc→Bs
 | []=>[]
 | none::r=>32::txt r
 | some t::r=>t.text.data.toList++txt r
theorem txt_app:∀a b:Pc,txt (a++b)=txt a++txt b
 | [],b=>rfl
 | none::r,b=>by simp only[List.cons_append,txt,txt_app r b]
 | some t::r,b=>by simp only[List.cons_append,txt,txt_app r b,List.append_assoc]
theorem txt_solo(c:UInt8)(X:Pc):txt (some (tm (mark1 c))::X)=c::txt X:=rfl
def itAt(k:Nat)(a:Int×Pc):Pc:=if levO a.1<k then some (tm (mark1 40))::(a.2++[some (tm (mark1 41))])else a.2
def itPairs:List (Int×Pc)→Pc
 | []=>[]
 | [_]=>[]
 | [a,b]=>a.2++none::some (tm (mark2 46 46))::none::b.2
 | a::b::c::r=>a.2++none::some (tm (mark2 46 46))::none::(b.2++some (tm (mark1 44))::none::itPairs (c::r))
def itNode(o n:Int)(s:ByteArray)(xs:List (Int×Pc)):Pc:=match binL o with
 | some (m,l)=>itAt (if l=2 then 3 else l) (xs.getD 0 (1,[]))++none::some (tm m)::none::itAt (if l=2 then 2 else l+1) (xs.getD 1 (1,[]))
 | none=>
  if o=4 then some (tm (mark1 33))::itAt 13 (xs.getD 0 (1,[]))
  else if o=5 then some (tm (mark1 126))::itAt 13 (xs.getD 0 (1,[]))
  else if o=6 then some (tm (mark1 45))::itAt 13 (xs.getD 0 (1,[]))
  else if o=22 then itAt 2 (xs.getD 0 (1,[]))++none::some (tm (mark1 63))::none::(itAt 1 (xs.getD 1 (1,[]))++none::some (tm (mark1 58))::none::itAt 1 (xs.getD 2 (1,[])))
  else if o=23 then itAt 9 (xs.getD 0 (1,[]))++none::some (tw insideW)::none::some (tm (mark1 123))::none::(itPairs xs.tail++[none,some (tm (mark1 125))])
  else if o=1 then[some (td n)]
  else if o=3 then some (tn s)::some (tm (mark1 91))::((xs.getD 0 (1,[])).2++[some (tm (mark1 93))])
  else if o=24 then[some (tn sumW),some (tm (mark1 40)),some (tn s),some (tm (mark1 41))]
  else if o=25 then some (tn onesW)::some (tm (mark1 40))::((xs.getD 0 (1,[])).2++[some (tm (mark1 41))])
  else(varTk s).map some
mutual
def pcE:Ex→Pc
 | .mk o n s l=>itNode o n s (pcEs l)
def pcEs:List Ex→List (Int×Pc)
 | []=>[]
 | a::r=>(a.op,pcE a)::pcEs r
end
def textE(e:Ex):Bs:=txt (pcE e)
end Go.Proofs.YtcbahpllcfbkmaaGreatDoor
