import Derived.Test.YtcbahpllcfbkmaaGreatDoorPt
set_option linter.unusedVariables false
set_option linter.unusedSimpArgs false
set_option linter.unusedSectionVars false
namespace Go.Proofs.YtcbahpllcfbkmaaGreatDoor
open Go.RowKit
theorem fC{o:Int}{m:ByteArray}{l:Nat}(h:eI o=some (m,l)):(m,o,l)∈cj:=by
 unfold eI at h;obtain⟨b,hb,e⟩:=Option.map_eq_some_iff.1 h;have h1:=List.mem_of_find?_eq_some hb;have h2:=List.find?_some hb;simp only[decide_eq_true_eq]at h2;cases e;subst h2;exact h1
theorem qo:∀b,b∈cj→2≤b.2.2∧b.2.2≤12∧(b.2.2=2→b.2.1=21∧b.1=bO 61 62)∧7≤b.2.1∧b.2.1≤21:=by decide +kernel
theorem CH(o:Int):1≤iU o∧iU o≤14:=by
 unfold iU;split
 ·rename_i m l h;have:=qo _ (fC h);simp only at this;omega
 ·repeat' split
  all_goals omega
theorem ql:∀o:Nat,o≤21→7≤o→(eI (o:Int)).isSome=true:=by decide +kernel
theorem xH{s:ByteArray}(h:s.toList=[]):s=⟨#[]⟩:=by
 rw[ByteArray.toList_eq]at h;cases s with
 | mk d=>
  have:d = #[]:=by
   apply Array.toList_inj.1;simpa using h
  rw[this]
theorem jR{o n:Int}{s:ByteArray}{k:Nat}(h:aH o n s k=0):
 1≤o∧o≤25∧(o=1→0≤n∧n≤65535)∧bM o k=true∧(o=2→aL s=true)∧(o=3∨o=24→aD s=true)∧(¬o=1→n=0)∧(cE o=false→s=⟨#[]⟩):=by
 unfold aH at h;split at h
 ·cases h
 ·split at h
  ·cases h
  ·split at h
   ·cases h
   ·split at h
    ·cases h
    ·rename_i h1 h2 h3 h4;refine⟨by omega,by omega,fun e=>by omega,?_,fun e=>?_,fun e=>?_,fun e=>by omega,fun e=>?_⟩
     ·cases ho:bM o k with
      | true=>rfl
      | false=>exact absurd (.inr ho) h3
     ·cases hv:aL s with
      | true=>rfl
      | false=>exact absurd (.inl ⟨e,hv⟩) h4
     ·cases hv:aD s with
      | true=>rfl
      | false=>exact absurd (.inr ⟨e,hv⟩) h4
     ·refine xH (Decidable.byContradiction fun hs=>h3 (.inl ⟨e,hs⟩))
theorem yU{l:List Ex}(h:jB l=0):∀a,a∈l→b8 a=0:=by
 induction l with
 | nil=>intro a ha;cases ha
 | cons b r ih=>
  simp only[jB]at h;split at h
  ·rename_i hb;intro a ha;rcases List.mem_cons.1 ha with e|e
   ·rw[e];exact hb
   ·exact ih h a e
  ·rename_i hb;exact absurd h hb
theorem jV{o n:Int}{s:ByteArray}{l:List Ex}(h:b8 (.mk o n s l)=0):aH o n s l.length=0∧∀a,a∈l→b8 a=0:=by
 simp only[b8]at h;split at h
 ·exact⟨by assumption,yU h⟩
 ·rename_i hb;exact absurd h hb
theorem tk1(e:Ex):dJ 1 (e.op,a6 e)=a6 e:=by
 unfold dJ;rw[if_neg (by have:=(CH e.op).1;simp only;omega)]
theorem vtd{n:Int}(h0:0≤n)(h1:n≤65535):dG (td n)=true:=by
 unfold dG td;rw[if_pos rfl];simp only[Bool.and_eq_true,decide_eq_true_eq,beq_iff_eq];exact⟨⟨h0,by omega⟩,by simp[nW]⟩
theorem vtn{s:ByteArray}(h:aD s=true):dG (tn s)=true:=by
 unfold dG tn;simp[h]
theorem uK{n:Int}(h0:0≤n)(h1:n≤65535)(r:List Tok):kf (td n::r)=some (n,r):=by
 simp only[kf];rw[if_pos ⟨vtd h0 h1,rfl⟩];rfl
theorem kh(s:ByteArray)(r:List Tok):kf (tn s::r)=none:=by
 simp only[kf];rw[if_neg (fun h=>by cases h.2)]
theorem gD{s:ByteArray}(h:aD s=true)(r:List Tok):ir (tn s::r)=some (s,r):=by
 simp only[ir];rw[if_pos ⟨vtn h,rfl⟩];rfl
theorem Bz{a b:ByteArray}(h:a.data.toList=b.data.toList):a=b:=by
 cases a;cases b;simp only at h;rw[Array.toList_inj.1 h]
theorem zJ{t:ByteArray}(h:t.size=2):t.data.toList=[t[0]'(by omega),t[1]'(by omega)]:=by
 have hl:t.data.toList.length=2:=by rw[←Lib.size_eq];exact h
 match hq:t.data.toList,hl with
 | [x,y],_=>
  have h0:=fG t 0 (by omega);have h1:=fG t 1 (by omega);rw[hq]at h0 h1;simp only[List.getElem?_cons_zero,List.getElem?_cons_succ,Option.some.injEq]at h0 h1;rw[←h0,←h1]
theorem cv{s:ByteArray}(h:dO s=true):aD (df s 91)=true∧0≤bT s∧bT s≤7∧ib (df s 91) (bT s)=s:=by
 unfold dO at h;simp only[Bool.and_eq_true]at h;obtain⟨⟨h1,h2⟩,h3⟩:=h;have hi:0≤Lib.indexByte s.data.toList 91:=of_decide_eq_true h1;obtain⟨o,ho⟩:=Int.eq_ofNat_of_zero_le hi;have hne:¬Lib.indexByte s.data.toList 91 = -1:=by omega
 have hA:(df s 91).data.toList=s.data.toList.take o:=by
  unfold df;rw[if_neg hne,ho,Lib.extract_eq];simp
 have hB:(fW s 91).data.toList=s.data.toList.drop (o+1):=by
  unfold fW;rw[if_neg hne,ho,Lib.extract_eq];have hz:(s.data.toList.drop (o+1)).length≤s.size-(o+1):=by rw[List.length_drop,←Lib.size_eq];exact Nat.le_refl _
  first
   | (show List.take (s.size-(o+1)) (s.data.toList.drop (o+1))=_;exact List.take_of_length_le hz)
   | (show List.drop (o+1) (s.data.toList.take s.size)=_;rw[List.take_of_length_le (by rw[←Lib.size_eq];exact Nat.le_refl _)])
 have hat:s.data.toList[o]? = some 91:=(Lib.indexByte_some ho).1
 have hz:(fW s 91).size=2:=by
  refine Decidable.byContradiction fun hn=>?_;rw[lq hn]at h3;cases h3
 rw[gC hz]at h3;simp only[Bool.and_eq_true,decide_eq_true_eq]at h3;have ht:=zJ hz;generalize (fW s 91)[0]'(by omega)=x at *;generalize (fW s 91)[1]'(by omega)=y at *;obtain⟨⟨g1,g2⟩,g3⟩:=h3
 have hy:y=93:=by
  have:y.toNat=(93:UInt8).toNat:=g1;exact UInt8.toNat_inj.1 this
 have hd:bT s=(x.toNat:Int)-48:=by unfold bT;rw[ht];rfl
 refine⟨h2,by omega,by omega,?_⟩;apply Bz;have hol:=(List.getElem?_eq_some_iff.1 hat).1
 have hsplit:s.data.toList=s.data.toList.take o++91::s.data.toList.drop (o+1):=by
  conv=>lhs;rw[←List.take_append_drop o s.data.toList,List.drop_eq_getElem_cons hol]
  rw[(List.getElem?_eq_some_iff.1 hat).2]
 have hdec:Lib.decDigits (bT s).toNat=[x]:=by
  have e1:(bT s).toNat=x.toNat-48:=by omega
  rw[e1,Lib.decDigits,dif_pos (by omega)];congr 1;apply UInt8.toNat_inj.1;have:=gB (x.toNat-48) (by omega);omega
 unfold ib nW al;simp only[ByteArray.data_append,Array.toList_append,hdec,hA];rw[hsplit]
 conv=>rhs;rw[←hB,ht,hy]
 rw[List.take_append_of_le_length (by rw[List.length_take];omega),List.take_take,Nat.min_self];simp
theorem qK:∀(m:Nat) (l:List Ex),l.length≤m→(∀a,a∈l→RT a)→l.length%2=0→l≠[]→∀(args:List Ex) (r:List Tok),par (.Ip args) (cJ (cN l)++(tm (al 125)::r))=.ok (cD 23 (args++l)) r:=by
 intro m
 induction m with
 | zero=>intro l hl _ _ hne;exact absurd (List.eq_nil_of_length_eq_zero (by omega)) hne
 | succ m ih=>
 intro l hl hrt hev hne args r
 match l,hne with
 | [a],_=>simp at hev
 | [a,b],_=>
  have ha:=(hrt a (by simp)).at_ 1 (by omega) (by omega);have hb:=(hrt b (by simp)).at_ 1 (by omega) (by omega);rw[tk1]at ha hb;have h1:=ha (tm (bO 46 46)::(a6 b++(tm (al 125)::r))) (fi (by simp) 1 _);have h2:=hb (tm (al 125)::r) (fi (by simp) 1 _);have hp:pk 1=.W:=rfl;rw[hp]at h1 h2;rw[dn];simp only[cN,cJ,List.append_assoc,List.cons_append,bG,h1,PR.bind,cO (da (bO 46 46) (by simp)),h2];rw[cw (t:=tm (al 125)) (by decide +kernel),cO (da (al 125) (by simp))]
 | a::b::c::q,_=>
  have ha:=(hrt a (by simp)).at_ 1 (by omega) (by omega);have hb:=(hrt b (by simp)).at_ 1 (by omega) (by omega);rw[tk1]at ha hb;have h1:=ha (tm (bO 46 46)::(a6 b++(tm (al 44)::(cJ (cN (c::q))++(tm (al 125)::r))))) (fi (by simp) 1 _);have h2:=hb (tm (al 44)::(cJ (cN (c::q))++(tm (al 125)::r))) (fi (by simp) 1 _);have hp:pk 1=.W:=rfl;rw[hp]at h1 h2;have h3:=ih (c::q) (by simp only[List.length_cons]at hl ⊢;omega) (fun x hx=>hrt x (by simp only[List.mem_cons]at hx ⊢;exact .inr (.inr hx))) (by simp only[List.length_cons]at hev ⊢;omega) (by simp) (args++[a,b]) r;have hte:cN (a::b::c::q)=(a.op,a6 a)::(b.op,a6 b)::cN (c::q):=rfl;have hpe:cJ (cN (a::b::c::q))=a6 a++tm (bO 46 46)::(a6 b++tm (al 44)::cJ (cN (c::q))):=rfl;rw[dn,hpe]
  simp only[List.append_assoc,List.cons_append,bG,h1,PR.bind,cO (da (bO 46 46) (by simp)),h2,cO (da (al 44) (by simp)),h3];simp
theorem DW{o:Int}{x y:Ex}{m:ByteArray}{k:Nat}(hb:eI o=some (m,k))(hx:RT x)(hy:RT y):RT (cD o [x,y]):=by
 have hmem:=fC hb;obtain⟨l2,l12,l21,o7,o21⟩:=qo _ hmem;simp only at l2 l12 l21;have hlev:iU o=k:=by unfold iU;rw[hb]
 have htk:a6 (cD o [x,y])=dJ (if k=2 then 3 else k) (x.op,a6 x)++tm m::dJ (if k=2 then 2 else k+1) (y.op,a6 y):=by
  show gw o 0 ⟨#[]⟩ (cN [x,y])=_;unfold gw;rw[hb];rfl
 by_cases k2:k=2
 ·obtain⟨ho,hm⟩:=l21 k2;subst k2;subst hm;rw[if_pos rfl,if_pos rfl]at htk;refine pt 2 hlev (by omega) (by omega) (fun r hr=>?_) (fun e=>by omega) (fun e=>by omega);have h1:=hx.at_ 3 (by omega) (by omega) (tm (bO 61 62)::(dJ 2 (y.op,a6 y)++r)) (rH hmem _);have h2:=hy.at_ 2 (by omega) (by omega) r hr;have hp3:pk 3=.L 3:=rfl;have hp2:pk 2=.I:=rfl;rw[hp3]at h1;rw[hp2]at h2 ⊢;rw[dn,htk];have hv:=sd _ hmem;simp only[List.append_assoc,List.cons_append,bG,h1,PR.bind,cO hv,h2];rw[ho]
 ·rw[if_neg k2,if_neg k2]at htk
  have hl:∀r,Stop (k+1) r→par (.L k) (a6 (cD o [x,y])++r)=par (.Lp k (cD o [x,y])) r:=fun r hr=>by
   have h1:=hx.left k (by omega) l12 (tm m::(dJ (k+1) (y.op,a6 y)++r)) (rH hmem _);have h2:=hy.at_ (k+1) (by omega) (by omega) r hr;have hp:pk (k+1)=.L (k+1):=by unfold pk;rw[if_neg (by omega),if_neg (by omega),if_neg (by omega)]
   rw[hp]at h2;rw[htk,List.append_assoc,List.cons_append,h1,dn];simp only[bG]
   have hi:(if k=9 then acc cu (tm m::(dJ (k+1) (y.op,a6 y)++r))else none)=none:=by
    split
    ·exact cw (t:=tm m) ((by decide +kernel:∀b,b∈cj→b.1≠cu) _ hmem)
    ·rfl
   have hop:=zu _ hmem (by simp only;omega) (dJ (k+1) (y.op,a6 y)++r);simp only at hop;rw[hi,hop];simp only[h2,PR.bind];rfl
  refine pt k hlev (by omega) (by omega) (fun r hr=>?_) (fun e=>by omega) (fun _ _=>hl);have hp:pk k=.L k:=by unfold pk;rw[if_neg (by omega),if_neg (by omega),if_neg (by omega)]
  rw[hp,hl r (hr.mono (Nat.le_succ k))];exact p9 hr (by omega) _
theorem te{o:Int}{m:UInt8}{x:Ex}(h:(o=4∧m=33)∨(o=5∧m=126)∨(o=6∧m=45))(hx:RT x):RT (cD o [x]):=by
 have hlev:iU o=13:=by rcases h with⟨rfl,rfl⟩|⟨rfl,rfl⟩|⟨rfl,rfl⟩<;>decide +kernel
 have hb:eI o=none:=by rcases h with⟨rfl,rfl⟩|⟨rfl,rfl⟩|⟨rfl,rfl⟩<;>decide +kernel
 have htk:a6 (cD o [x])=tm (al m)::dJ 13 (x.op,a6 x):=by
  show gw o 0 ⟨#[]⟩ (cN [x])=_;unfold gw;rw[hb];rcases h with⟨rfl,rfl⟩|⟨rfl,rfl⟩|⟨rfl,rfl⟩<;>rfl
 refine pt 13 hlev (by omega) (by omega) (fun r hr=>?_) (fun e=>by omega) (fun _ e=>by omega);have h2:=hx.at_ 13 (by omega) (by omega) r hr;have hp:pk 13=.L 13:=rfl;rw[hp,qa]at h2;rw[hp,qa,dn,htk];rcases h with⟨rfl,rfl⟩|⟨rfl,rfl⟩|⟨rfl,rfl⟩
 ·simp only[List.cons_append,bG,cO (da (al 33) (by simp)),h2,PR.bind]
 ·simp only[List.cons_append,bG];rw[cw (t:=tm (al 126)) (by decide +kernel)];simp only[cO (da (al 126) (by simp)),h2,PR.bind]
 ·simp only[List.cons_append,bG];rw[cw (t:=tm (al 45)) (by decide +kernel),cw (t:=tm (al 45)) (by decide +kernel)];simp only[cO (da (al 45) (by simp)),h2,PR.bind]
theorem Gw{x y z:Ex}(hx:RT x)(hy:RT y)(hz:RT z):RT (cD 22 [x,y,z]):=by
 have htk:a6 (cD 22 [x,y,z])=dJ 2 (x.op,a6 x)++tm (al 63)::(a6 y++tm (al 58)::a6 z):=by
  have h1:=tk1 y;have h2:=tk1 z;rw[←h1,←h2];rfl
 refine pt 1 (show iU 22=1 by decide +kernel) (by omega) (by omega) (fun r hr=>?_) (fun e=>by omega) (fun e=>by omega);have h1:=hx.at_ 2 (by omega) (by omega) (tm (al 63)::(a6 y++(tm (al 58)::(a6 z++r)))) (Dl _);have h2:=hy.at_ 1 (by omega) (by omega) (tm (al 58)::(a6 z++r)) (fi (by simp) 1 _);have h3:=hz.at_ 1 (by omega) (by omega) r hr;rw[tk1]at h2 h3;have hp1:pk 1=.W:=rfl;have hp2:pk 2=.I:=rfl;rw[hp2]at h1;rw[hp1]at h2 h3 ⊢;rw[dn,htk];simp only[List.append_assoc,List.cons_append,bG,h1,PR.bind,cO (da (al 63) (by simp)),h2,cO (da (al 58) (by simp)),h3]
theorem u0{x:Ex}{l:List Ex}(hx:RT x)(hl:∀a,a∈l→RT a)(hev:l.length%2=0)(hne:l≠[]):RT (cD 23 (x::l)):=by
 have htk:a6 (cD 23 (x::l))=dJ 9 (x.op,a6 x)++tw cu::tm (al 123)::(cJ (cN l)++[tm (al 125)]):=rfl
 have hlf:∀r,Stop 10 r→par (.L 9) (a6 (cD 23 (x::l))++r)=par (.Lp 9 (cD 23 (x::l))) r:=fun r hr=>by
  have h1:=hx.left 9 (by omega) (by omega) (tw cu::tm (al 123)::(cJ (cN l)++(tm (al 125)::r))) (rK _);have h2:=qK _ l (Nat.le_refl _) hl hev hne [x] r
  have h3:par (.In x) (tm (al 123)::(cJ (cN l)++(tm (al 125)::r)))=.ok (cD 23 (x::l)) r:=by
   rw[dn];simp only[bG,cO (da (al 123) (by simp)),h2];rfl
  rw[htk];simp only[List.append_assoc,List.cons_append,List.nil_append];rw[h1,dn];simp only[bG,if_true,D5 ol,h3,PR.bind]
 refine pt 9 (show iU 23=9 by decide +kernel) (by omega) (by omega) (fun r hr=>?_) (fun e=>by omega) (fun _ _=>hlf);have hp:pk 9=.L 9:=rfl;rw[hp,hlf r (hr.mono (by omega))];exact p9 hr (by omega) _
theorem fV(s:ByteArray)(r:List Tok):acc (al 33) (tn s::r)=none∧acc (al 126) (tn s::r)=none∧acc (al 45) (tn s::r)=none:=⟨iQ _ _ _,iQ _ _ _,iQ _ _ _⟩
theorem iK:∀o,o∈[(1:Int),2,3,24,25]→iU o=14∧eI o=none:=by decide +kernel
theorem jr{e:Ex}{t:Tok}{q:List Tok}(hl:iU e.op=14)(ht:a6 e=t::q)(hn:∀r,acc (al 33) (t::r)=none∧acc (al 126) (t::r)=none∧acc (al 45) (t::r)=none)(h:∀r,Stop 14 r→fp par (a6 e++r)=.ok e r):RT e:=by
 refine pt 14 hl (by omega) (by omega) (fun r hr=>?_) (fun _ r=>?_) (fun _ e=>by omega)
 ·have hp:pk 14=.P:=rfl;rw[hp,dn];simp only[bG];exact h r hr
 ·rw[ht];exact hn _
theorem ln{p:Prop}[Decidable p]{o:Option (List Tok)}(h:o=none):(if p then o else none)=none:=by rw[h];split<;>rfl
theorem Ds(e:Ex):b8 e=0→RT e:=by
 induction e using Ex.ind with
 | h o n s l ih=>
 intro he;obtain⟨hnode,hargs⟩:=jV he;obtain⟨o1,o25,hc,hop,hvar,hname,hn0,hs0⟩:=jR hnode;have hrt:∀a,a∈l→RT a:=fun a ha=>ih a ha (hargs a ha);have e1:acc (al 40)=acc (al 40):=rfl;by_cases c1:o=1
 ·subst c1;have hl:l=[]:=List.eq_nil_of_length_eq_zero (by simpa[bM,cf]using hop);have hs:s=⟨#[]⟩:=hs0 (by decide);subst hl;subst hs;obtain⟨h0,h1⟩:=hc rfl;refine jr (t:=td n) (q:=[]) (iK 1 (by simp)).1 rfl (fun r=>⟨pC _ _ _,pC _ _ _,pC _ _ _⟩) fun r hr=>?_;have ht:a6 (.mk 1 n ⟨#[]⟩ [])=[td n]:=rfl;rw[ht];unfold fp;simp only[List.cons_append,List.nil_append,pC,uK h0 h1];rw[if_neg (by omega)]
 have hn:n=0:=hn0 c1;subst hn;by_cases c2:o=2
 ·subst c2;have hl:l=[]:=List.eq_nil_of_length_eq_zero (by simpa[bM,cf]using hop);subst hl;have hv:=hvar rfl;have ht:a6 (.mk 2 0 s [])=iu s:=rfl;by_cases hel:dO s=true
  ·obtain⟨g1,g2,g3,g4⟩:=cv hel;have ht2:iu s=[tn (df s 91),tm (al 64),td (bT s)]:=if_pos hel;refine jr (iK 2 (by simp)).1 (ht.trans ht2) (fun r=>fV _ _) fun r hr=>?_;rw[ht,ht2];unfold fp;simp only[List.cons_append,List.nil_append,iQ,kh,gD g1];rw[ln (cw (t:=tm (al 64)) (by decide +kernel)),ln (cw (t:=tm (al 64)) (by decide +kernel)),cw (t:=tm (al 64)) (by decide +kernel)];simp only[cO (da (al 64) (by simp)),uK g2 (by omega)];rw[if_neg (by omega),g4]
  ·have hnm:aD s=true:=by
    unfold aL at hv;rw[Bool.or_eq_true]at hv;exact hv.resolve_left hel
   have ht2:iu s=[tn s]:=if_neg hel;refine jr (iK 2 (by simp)).1 (ht.trans ht2) (fun r=>fV _ _) fun r hr=>?_;rw[ht,ht2];unfold fp;simp only[List.cons_append,List.nil_append,iQ,kh,gD hnm];rw[ln hr.p,ln hr.p];simp only[hr.b,hr.a]
 by_cases c3:o=3
 ·subst c3;have hnm:=hname (.inl rfl)
  have hl:l.length=1:=by have:(l.length:Int)=1:=by simpa[bM,cf]using hop
                         omega
  obtain⟨x,rfl⟩:=List.length_eq_one_iff.1 hl;have hx:=(hrt x (by simp)).at_ 1 (by omega) (by omega);rw[tk1]at hx;have ht:a6 (.mk 3 0 s [x])=tn s::tm (al 91)::(a6 x++[tm (al 93)]):=rfl;refine jr (iK 3 (by simp)).1 ht (fun r=>fV _ _) fun r hr=>?_;have h1:=hx (tm (al 93)::r) (fi (by simp) 1 _);have hp:pk 1=.W:=rfl;rw[hp]at h1;rw[ht];unfold fp;simp only[List.cons_append,List.append_assoc,List.nil_append,iQ,kh,gD hnm];rw[ln (cw (t:=tm (al 91)) (by decide +kernel)),ln (cw (t:=tm (al 91)) (by decide +kernel))];simp only[cO (da (al 91) (by simp)),h1,PR.bind,cO (da (al 93) (by simp))]
 by_cases c24:o=24
 ·subst c24;have hnm:=hname (.inr rfl);have hl:l=[]:=List.eq_nil_of_length_eq_zero (by simpa[bM,cf]using hop);subst hl;have ht:a6 (.mk 24 0 s [])=[tn lY,tm (al 40),tn s,tm (al 41)]:=rfl;have hsw:aD lY=true:=by decide +kernel
  refine jr (iK 24 (by simp)).1 ht (fun r=>fV _ _) fun r hr=>?_;rw[ht];unfold fp;simp only[List.cons_append,List.nil_append,iQ,kh,gD hsw,if_true,cO (da (al 40) (by simp)),gD hnm,cO (da (al 41) (by simp))]
 have hs:s=⟨#[]⟩:=hs0 (by unfold cE;simp[c2,c3,c24]);subst hs;by_cases c25:o=25
 ·subst c25
  have hl:l.length=1:=by have:(l.length:Int)=1:=by simpa[bM,cf]using hop
                         omega
  obtain⟨x,rfl⟩:=List.length_eq_one_iff.1 hl;have hx:=(hrt x (by simp)).at_ 1 (by omega) (by omega);rw[tk1]at hx;have ht:a6 (.mk 25 0 ⟨#[]⟩ [x])=tn ip::tm (al 40)::(a6 x++[tm (al 41)]):=rfl;have how:aD ip=true:=by decide +kernel
  refine jr (iK 25 (by simp)).1 ht (fun r=>fV _ _) fun r hr=>?_;have h1:=hx (tm (al 41)::r) (fi (by simp) 1 _);have hp:pk 1=.W:=rfl;rw[hp]at h1;have hns:¬ip=lY:=by decide +kernel
  rw[ht];unfold fp;simp only[List.cons_append,List.append_assoc,List.nil_append,iQ,kh,gD how,if_neg hns,if_true,cO (da (al 40) (by simp)),h1,PR.bind,cO (da (al 41) (by simp))];rfl
 by_cases c456:o=4∨o=5∨o=6
 ·have hl:l.length=1:=by
   have:(l.length:Int)=1:=by
    rcases c456 with rfl|rfl|rfl<;>simpa[bM,cf]using hop
   omega
  obtain⟨x,rfl⟩:=List.length_eq_one_iff.1 hl;rcases c456 with rfl|rfl|rfl
  ·exact te (m:=33) (.inl ⟨rfl,rfl⟩) (hrt x (by simp))
  ·exact te (m:=126) (.inr (.inl ⟨rfl,rfl⟩)) (hrt x (by simp))
  ·exact te (m:=45) (.inr (.inr ⟨rfl,rfl⟩)) (hrt x (by simp))
 by_cases c22:o=22
 ·subst c22
  have hl:l.length=3:=by have:(l.length:Int)=3:=by simpa[bM,cf]using hop
                         omega
  match l,hl with
  | [x,y,z],_=>exact Gw (hrt x (by simp)) (hrt y (by simp)) (hrt z (by simp))
 by_cases c23:o=23
 ·subst c23
  have hl:l.length%2=1∧3≤l.length:=by
   have:(decide (l.length%2=1)&&decide (3≤l.length)&&decide (l.length≤33))=true:=by simpa[bM]using hop
   simp only[Bool.and_eq_true,decide_eq_true_eq]at this;exact this.1
  match l,hl with
  | x::q,⟨h1,h2⟩=>
   simp only[List.length_cons]at h1 h2;exact u0 (hrt x (by simp)) (fun a ha=>hrt a (by simp[ha])) (by omega) (fun e=>by rw[e]at h2;simp at h2)
 have hl:l.length=2:=by
  have:(l.length:Int)=2:=by
   have h1:(l.length:Int)=cf o:=by unfold bM at hop;rw[if_neg c23]at hop;exact of_decide_eq_true hop
   rw[h1];unfold cf;rw[if_neg (by omega),if_neg (by omega),if_neg c22,if_neg c23,if_neg (by omega)]
  omega
 match l,hl with
 | [x,y],_=>
  obtain⟨k,hk⟩:=Int.eq_ofNat_of_zero_le (show 0≤o by omega);have hb:=ql k (by omega) (by omega);rw[←hk]at hb;obtain⟨p,hp⟩:=Option.isSome_iff_exists.1 hb;exact DW (m:=p.1) (k:=p.2) hp (hrt x (by simp)) (hrt y (by simp))
end Go.Proofs.YtcbahpllcfbkmaaGreatDoor
