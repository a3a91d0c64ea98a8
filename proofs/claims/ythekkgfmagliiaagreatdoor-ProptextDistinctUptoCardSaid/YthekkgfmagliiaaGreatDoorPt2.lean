import Derived.Test.YthekkgfmagliiaaGreatDoorPt
set_option linter.unusedVariables false
set_option linter.unusedSimpArgs false
set_option linter.unusedSectionVars false
namespace Go.Proofs.YthekkgfmagliiaaGreatDoor
open Go.RowKit
theorem ip{o:Int}{m:ByteArray}{l:Nat}(h:fD o=some (m,l)):(m,o,l)∈cv:=by
 unfold fD at h;obtain⟨b,hb,e⟩:=Option.map_eq_some_iff.1 h;have h1:=List.mem_of_find?_eq_some hb;have h2:=List.find?_some hb;simp only[decide_eq_true_eq]at h2;cases e;subst h2;exact h1
theorem sj:∀b,b∈cv→2≤b.2.2∧b.2.2≤12∧(b.2.2=2→b.2.1=21∧b.1=aO 61 62)∧7≤b.2.1∧b.2.1≤21:=by decide +kernel
theorem F0(o:Int):1≤jD o∧jD o≤14:=by
 unfold jD;split
 ·rename_i m l h;have:=sj _ (ip h);simp only at this;omega
 ·repeat' split
  all_goals omega
theorem sH:∀o:Nat,o≤21→7≤o→(fD (o:Int)).isSome=true:=by decide +kernel
theorem yW{s:ByteArray}(h:s.toList=[]):s=⟨#[]⟩:=by
 rw[ByteArray.toList_eq]at h;cases s with
 | mk d=>
  have:d = #[]:=by
   apply Array.toList_inj.1;simpa using h
  rw[this]
theorem kM{o n:Int}{s:ByteArray}{k:Nat}(h:aJ o n s k=0):
 1≤o∧o≤25∧(o=1→0≤n∧n≤65535)∧bK o k=true∧(o=2→ez s=true)∧(o=3∨o=24→a8 s=true)∧(¬o=1→n=0)∧(cR o=false→s=⟨#[]⟩):=by
 unfold aJ at h;split at h
 ·cases h
 ·split at h
  ·cases h
  ·split at h
   ·cases h
   ·split at h
    ·cases h
    ·rename_i h1 h2 h3 h4;refine⟨by omega,by omega,fun e=>by omega,?_,fun e=>?_,fun e=>?_,fun e=>by omega,fun e=>?_⟩
     ·cases ho:bK o k with
      | true=>rfl
      | false=>exact absurd (.inr ho) h3
     ·cases hv:ez s with
      | true=>rfl
      | false=>exact absurd (.inl ⟨e,hv⟩) h4
     ·cases hv:a8 s with
      | true=>rfl
      | false=>exact absurd (.inr ⟨e,hv⟩) h4
     ·refine yW (Decidable.byContradiction fun hs=>h3 (.inl ⟨e,hs⟩))
theorem CZ{l:List Ex}(h:lc l=0):∀a,a∈l→dz a=0:=by
 induction l with
 | nil=>intro a ha;cases ha
 | cons b r ih=>
  simp only[lc]at h;split at h
  ·rename_i hb;intro a ha;rcases List.mem_cons.1 ha with e|e
   ·rw[e];exact hb
   ·exact ih h a e
  ·rename_i hb;exact absurd h hb
theorem kB{o n:Int}{s:ByteArray}{l:List Ex}(h:dz (.mk o n s l)=0):aJ o n s l.length=0∧∀a,a∈l→dz a=0:=by
 simp only[dz]at h;split at h
 ·exact⟨by assumption,CZ h⟩
 ·rename_i hb;exact absurd h hb
theorem tk1(e:Ex):ey 1 (e.op,bh e)=bh e:=by
 unfold ey;rw[if_neg (by have:=(F0 e.op).1;simp only;omega)]
theorem vtd{n:Int}(h0:0≤n)(h1:n≤65535):cK (td n)=true:=by
 unfold cK td;rw[if_pos rfl];simp only[Bool.and_eq_true,decide_eq_true_eq,beq_iff_eq];exact⟨⟨h0,by omega⟩,by simp[ta]⟩
theorem vtn{s:ByteArray}(h:a8 s=true):cK (tn s)=true:=by
 unfold cK tn;simp[h]
theorem xz{n:Int}(h0:0≤n)(h1:n≤65535)(r:List Tok):dX (td n::r)=some (n,r):=by
 simp only[dX];rw[if_pos ⟨vtd h0 h1,rfl⟩];rfl
theorem ly(s:ByteArray)(r:List Tok):dX (tn s::r)=none:=by
 simp only[dX];rw[if_neg (fun h=>by cases h.2)]
theorem il{s:ByteArray}(h:a8 s=true)(r:List Tok):cD (tn s::r)=some (s,r):=by
 simp only[cD];rw[if_pos ⟨vtn h,rfl⟩];rfl
theorem Fg{a b:ByteArray}(h:a.data.toList=b.data.toList):a=b:=by
 cases a;cases b;simp only at h;rw[Array.toList_inj.1 h]
theorem DN{t:ByteArray}(h:t.size=2):t.data.toList=[t[0]'(by omega),t[1]'(by omega)]:=by
 have hl:t.data.toList.length=2:=by rw[←Lib.size_eq];exact h
 match hq:t.data.toList,hl with
 | [x,y],_=>
  have h0:=gH t 0 (by omega);have h1:=gH t 1 (by omega);rw[hq]at h0 h1;simp only[List.getElem?_cons_zero,List.getElem?_cons_succ,Option.some.injEq]at h0 h1;rw[←h0,←h1]
theorem jS{s:ByteArray}(h:fW s=true):a8 (gD s 91)=true∧0≤c6 s∧c6 s≤7∧rA (gD s 91) (c6 s)=s:=by
 unfold fW at h;simp only[Bool.and_eq_true]at h;obtain⟨⟨h1,h2⟩,h3⟩:=h;have hi:0≤Lib.indexByte s.data.toList 91:=of_decide_eq_true h1;obtain⟨o,ho⟩:=Int.eq_ofNat_of_zero_le hi;have hne:¬Lib.indexByte s.data.toList 91 = -1:=by omega
 have hA:(gD s 91).data.toList=s.data.toList.take o:=by
  unfold gD;rw[if_neg hne,ho,Lib.extract_eq];simp
 have hB:(je s 91).data.toList=s.data.toList.drop (o+1):=by
  unfold je;rw[if_neg hne,ho,Lib.extract_eq];have hz:(s.data.toList.drop (o+1)).length≤s.size-(o+1):=by rw[List.length_drop,←Lib.size_eq];exact Nat.le_refl _
  first
   | (show List.take (s.size-(o+1)) (s.data.toList.drop (o+1))=_;exact List.take_of_length_le hz)
   | (show List.drop (o+1) (s.data.toList.take s.size)=_;rw[List.take_of_length_le (by rw[←Lib.size_eq];exact Nat.le_refl _)])
 have hat:s.data.toList[o]? = some 91:=(Lib.indexByte_some ho).1
 have hz:(je s 91).size=2:=by
  refine Decidable.byContradiction fun hn=>?_;rw[l6 hn]at h3;cases h3
 rw[ii hz]at h3;simp only[Bool.and_eq_true,decide_eq_true_eq]at h3;have ht:=DN hz;generalize (je s 91)[0]'(by omega)=x at *;generalize (je s 91)[1]'(by omega)=y at *;obtain⟨⟨g1,g2⟩,g3⟩:=h3
 have hy:y=93:=by
  have:y.toNat=(93:UInt8).toNat:=g1;exact UInt8.toNat_inj.1 this
 have hd:c6 s=(x.toNat:Int)-48:=by unfold c6;rw[ht];rfl
 refine⟨h2,by omega,by omega,?_⟩;apply Fg;have hol:=(List.getElem?_eq_some_iff.1 hat).1
 have hsplit:s.data.toList=s.data.toList.take o++91::s.data.toList.drop (o+1):=by
  conv=>lhs;rw[←List.take_append_drop o s.data.toList,List.drop_eq_getElem_cons hol]
  rw[(List.getElem?_eq_some_iff.1 hat).2]
 have hdec:Lib.decDigits (c6 s).toNat=[x]:=by
  have e1:(c6 s).toNat=x.toNat-48:=by omega
  rw[e1,Lib.decDigits,dif_pos (by omega)];congr 1;apply UInt8.toNat_inj.1;have:=iD (x.toNat-48) (by omega);omega
 unfold rA ta aj;simp only[ByteArray.data_append,Array.toList_append,hdec,hA];rw[hsplit]
 conv=>rhs;rw[←hB,ht,hy]
 rw[List.take_append_of_le_length (by rw[List.length_take];omega),List.take_take,Nat.min_self];simp
theorem uy:∀(m:Nat) (l:List Ex),l.length≤m→(∀a,a∈l→RT a)→l.length%2=0→l≠[]→∀(args:List Ex) (r:List Tok),par (.Ip args) (d7 (dJ l)++(tm (aj 125)::r))=.ok (cj 23 (args++l)) r:=by
 intro m
 induction m with
 | zero=>intro l hl _ _ hne;exact absurd (List.eq_nil_of_length_eq_zero (by omega)) hne
 | succ m ih=>
 intro l hl hrt hev hne args r
 match l,hne with
 | [a],_=>simp at hev
 | [a,b],_=>
  have ha:=(hrt a (by simp)).at_ 1 (by omega) (by omega);have hb:=(hrt b (by simp)).at_ 1 (by omega) (by omega);rw[tk1]at ha hb;have h1:=ha (tm (aO 46 46)::(bh b++(tm (aj 125)::r))) (eO (by simp) 1 _);have h2:=hb (tm (aj 125)::r) (eO (by simp) 1 _);have hp:pk 1=.W:=rfl;rw[hp]at h1 h2;rw[dT];simp only[dJ,d7,List.append_assoc,List.cons_append,aT,h1,PR.bind,b5 (bJ (aO 46 46) (by simp)),h2];rw[bt (t:=tm (aj 125)) (by decide +kernel),b5 (bJ (aj 125) (by simp))]
 | a::b::c::q,_=>
  have ha:=(hrt a (by simp)).at_ 1 (by omega) (by omega);have hb:=(hrt b (by simp)).at_ 1 (by omega) (by omega);rw[tk1]at ha hb;have h1:=ha (tm (aO 46 46)::(bh b++(tm (aj 44)::(d7 (dJ (c::q))++(tm (aj 125)::r))))) (eO (by simp) 1 _);have h2:=hb (tm (aj 44)::(d7 (dJ (c::q))++(tm (aj 125)::r))) (eO (by simp) 1 _);have hp:pk 1=.W:=rfl;rw[hp]at h1 h2;have h3:=ih (c::q) (by simp only[List.length_cons]at hl ⊢;omega) (fun x hx=>hrt x (by simp only[List.mem_cons]at hx ⊢;exact .inr (.inr hx))) (by simp only[List.length_cons]at hev ⊢;omega) (by simp) (args++[a,b]) r;have hte:dJ (a::b::c::q)=(a.op,bh a)::(b.op,bh b)::dJ (c::q):=rfl;have hpe:d7 (dJ (a::b::c::q))=bh a++tm (aO 46 46)::(bh b++tm (aj 44)::d7 (dJ (c::q))):=rfl;rw[dT,hpe]
  simp only[List.append_assoc,List.cons_append,aT,h1,PR.bind,b5 (bJ (aO 46 46) (by simp)),h2,b5 (bJ (aj 44) (by simp)),h3];simp
theorem Jl{o:Int}{x y:Ex}{m:ByteArray}{k:Nat}(hb:fD o=some (m,k))(hx:RT x)(hy:RT y):RT (cj o [x,y]):=by
 have hmem:=ip hb;obtain⟨l2,l12,l21,o7,o21⟩:=sj _ hmem;simp only at l2 l12 l21;have hlev:jD o=k:=by unfold jD;rw[hb]
 have htk:bh (cj o [x,y])=ey (if k=2 then 3 else k) (x.op,bh x)++tm m::ey (if k=2 then 2 else k+1) (y.op,bh y):=by
  show jl o 0 ⟨#[]⟩ (dJ [x,y])=_;unfold jl;rw[hb];rfl
 by_cases k2:k=2
 ·obtain⟨ho,hm⟩:=l21 k2;subst k2;subst hm;rw[if_pos rfl,if_pos rfl]at htk;refine qw 2 hlev (by omega) (by omega) (fun r hr=>?_) (fun e=>by omega) (fun e=>by omega);have h1:=hx.at_ 3 (by omega) (by omega) (tm (aO 61 62)::(ey 2 (y.op,bh y)++r)) (uF hmem _);have h2:=hy.at_ 2 (by omega) (by omega) r hr;have hp3:pk 3=.L 3:=rfl;have hp2:pk 2=.I:=rfl;rw[hp3]at h1;rw[hp2]at h2 ⊢;rw[dT,htk];have hv:=u7 _ hmem;simp only[List.append_assoc,List.cons_append,aT,h1,PR.bind,b5 hv,h2];rw[ho]
 ·rw[if_neg k2,if_neg k2]at htk
  have hl:∀r,Stop (k+1) r→par (.L k) (bh (cj o [x,y])++r)=par (.Lp k (cj o [x,y])) r:=fun r hr=>by
   have h1:=hx.left k (by omega) l12 (tm m::(ey (k+1) (y.op,bh y)++r)) (uF hmem _);have h2:=hy.at_ (k+1) (by omega) (by omega) r hr;have hp:pk (k+1)=.L (k+1):=by unfold pk;rw[if_neg (by omega),if_neg (by omega),if_neg (by omega)]
   rw[hp]at h2;rw[htk,List.append_assoc,List.cons_append,h1,dT];simp only[aT]
   have hi:(if k=9 then acc bU (tm m::(ey (k+1) (y.op,bh y)++r))else none)=none:=by
    split
    ·exact bt (t:=tm m) ((by decide +kernel:∀b,b∈cv→b.1≠bU) _ hmem)
    ·rfl
   have hop:=Dd _ hmem (by simp only;omega) (ey (k+1) (y.op,bh y)++r);simp only at hop;rw[hi,hop];simp only[h2,PR.bind];rfl
  refine qw k hlev (by omega) (by omega) (fun r hr=>?_) (fun e=>by omega) (fun _ _=>hl);have hp:pk k=.L k:=by unfold pk;rw[if_neg (by omega),if_neg (by omega),if_neg (by omega)]
  rw[hp,hl r (hr.mono (Nat.le_succ k))];exact sa hr (by omega) _
theorem wM{o:Int}{m:UInt8}{x:Ex}(h:(o=4∧m=33)∨(o=5∧m=126)∨(o=6∧m=45))(hx:RT x):RT (cj o [x]):=by
 have hlev:jD o=13:=by rcases h with⟨rfl,rfl⟩|⟨rfl,rfl⟩|⟨rfl,rfl⟩<;>decide +kernel
 have hb:fD o=none:=by rcases h with⟨rfl,rfl⟩|⟨rfl,rfl⟩|⟨rfl,rfl⟩<;>decide +kernel
 have htk:bh (cj o [x])=tm (aj m)::ey 13 (x.op,bh x):=by
  show jl o 0 ⟨#[]⟩ (dJ [x])=_;unfold jl;rw[hb];rcases h with⟨rfl,rfl⟩|⟨rfl,rfl⟩|⟨rfl,rfl⟩<;>rfl
 refine qw 13 hlev (by omega) (by omega) (fun r hr=>?_) (fun e=>by omega) (fun _ e=>by omega);have h2:=hx.at_ 13 (by omega) (by omega) r hr;have hp:pk 13=.L 13:=rfl;rw[hp,sJ]at h2;rw[hp,sJ,dT,htk];rcases h with⟨rfl,rfl⟩|⟨rfl,rfl⟩|⟨rfl,rfl⟩
 ·simp only[List.cons_append,aT,b5 (bJ (aj 33) (by simp)),h2,PR.bind]
 ·simp only[List.cons_append,aT];rw[bt (t:=tm (aj 126)) (by decide +kernel)];simp only[b5 (bJ (aj 126) (by simp)),h2,PR.bind]
 ·simp only[List.cons_append,aT];rw[bt (t:=tm (aj 45)) (by decide +kernel),bt (t:=tm (aj 45)) (by decide +kernel)];simp only[b5 (bJ (aj 45) (by simp)),h2,PR.bind]
theorem LJ{x y z:Ex}(hx:RT x)(hy:RT y)(hz:RT z):RT (cj 22 [x,y,z]):=by
 have htk:bh (cj 22 [x,y,z])=ey 2 (x.op,bh x)++tm (aj 63)::(bh y++tm (aj 58)::bh z):=by
  have h1:=tk1 y;have h2:=tk1 z;rw[←h1,←h2];rfl
 refine qw 1 (show jD 22=1 by decide +kernel) (by omega) (by omega) (fun r hr=>?_) (fun e=>by omega) (fun e=>by omega);have h1:=hx.at_ 2 (by omega) (by omega) (tm (aj 63)::(bh y++(tm (aj 58)::(bh z++r)))) (HA _);have h2:=hy.at_ 1 (by omega) (by omega) (tm (aj 58)::(bh z++r)) (eO (by simp) 1 _);have h3:=hz.at_ 1 (by omega) (by omega) r hr;rw[tk1]at h2 h3;have hp1:pk 1=.W:=rfl;have hp2:pk 2=.I:=rfl;rw[hp2]at h1;rw[hp1]at h2 h3 ⊢;rw[dT,htk];simp only[List.append_assoc,List.cons_append,aT,h1,PR.bind,b5 (bJ (aj 63) (by simp)),h2,b5 (bJ (aj 58) (by simp)),h3]
theorem Al{x:Ex}{l:List Ex}(hx:RT x)(hl:∀a,a∈l→RT a)(hev:l.length%2=0)(hne:l≠[]):RT (cj 23 (x::l)):=by
 have htk:bh (cj 23 (x::l))=ey 9 (x.op,bh x)++tw bU::tm (aj 123)::(d7 (dJ l)++[tm (aj 125)]):=rfl
 have hlf:∀r,Stop 10 r→par (.L 9) (bh (cj 23 (x::l))++r)=par (.Lp 9 (cj 23 (x::l))) r:=fun r hr=>by
  have h1:=hx.left 9 (by omega) (by omega) (tw bU::tm (aj 123)::(d7 (dJ l)++(tm (aj 125)::r))) (ud _);have h2:=uy _ l (Nat.le_refl _) hl hev hne [x] r
  have h3:par (.In x) (tm (aj 123)::(d7 (dJ l)++(tm (aj 125)::r)))=.ok (cj 23 (x::l)) r:=by
   rw[dT];simp only[aT,b5 (bJ (aj 123) (by simp)),h2];rfl
  rw[htk];simp only[List.append_assoc,List.cons_append,List.nil_append];rw[h1,dT];simp only[aT,if_true,l8 rf,h3,PR.bind]
 refine qw 9 (show jD 23=9 by decide +kernel) (by omega) (by omega) (fun r hr=>?_) (fun e=>by omega) (fun _ _=>hlf);have hp:pk 9=.L 9:=rfl;rw[hp,hlf r (hr.mono (by omega))];exact sa hr (by omega) _
theorem gG(s:ByteArray)(r:List Tok):acc (aj 33) (tn s::r)=none∧acc (aj 126) (tn s::r)=none∧acc (aj 45) (tn s::r)=none:=⟨jo _ _ _,jo _ _ _,jo _ _ _⟩
theorem jg:∀o,o∈[(1:Int),2,3,24,25]→jD o=14∧fD o=none:=by decide +kernel
theorem jU{e:Ex}{t:Tok}{q:List Tok}(hl:jD e.op=14)(ht:bh e=t::q)(hn:∀r,acc (aj 33) (t::r)=none∧acc (aj 126) (t::r)=none∧acc (aj 45) (t::r)=none)(h:∀r,Stop 14 r→dY par (bh e++r)=.ok e r):RT e:=by
 refine qw 14 hl (by omega) (by omega) (fun r hr=>?_) (fun _ r=>?_) (fun _ e=>by omega)
 ·have hp:pk 14=.P:=rfl;rw[hp,dT];simp only[aT];exact h r hr
 ·rw[ht];exact hn _
theorem mb{p:Prop}[Decidable p]{o:Option (List Tok)}(h:o=none):(if p then o else none)=none:=by rw[h];split<;>rfl
theorem IR(e:Ex):dz e=0→RT e:=by
 induction e using Ex.ind with
 | h o n s l ih=>
 intro he;obtain⟨hnode,hargs⟩:=kB he;obtain⟨o1,o25,hc,hop,hvar,hname,hn0,hs0⟩:=kM hnode;have hrt:∀a,a∈l→RT a:=fun a ha=>ih a ha (hargs a ha);have e1:acc (aj 40)=acc (aj 40):=rfl;by_cases c1:o=1
 ·subst c1;have hl:l=[]:=List.eq_nil_of_length_eq_zero (by simpa[bK,cy]using hop);have hs:s=⟨#[]⟩:=hs0 (by decide);subst hl;subst hs;obtain⟨h0,h1⟩:=hc rfl;refine jU (t:=td n) (q:=[]) (jg 1 (by simp)).1 rfl (fun r=>⟨oB _ _ _,oB _ _ _,oB _ _ _⟩) fun r hr=>?_;have ht:bh (.mk 1 n ⟨#[]⟩ [])=[td n]:=rfl;rw[ht];unfold dY;simp only[List.cons_append,List.nil_append,oB,xz h0 h1];rw[if_neg (by omega)]
 have hn:n=0:=hn0 c1;subst hn;by_cases c2:o=2
 ·subst c2;have hl:l=[]:=List.eq_nil_of_length_eq_zero (by simpa[bK,cy]using hop);subst hl;have hv:=hvar rfl;have ht:bh (.mk 2 0 s [])=kw s:=rfl;by_cases hel:fW s=true
  ·obtain⟨g1,g2,g3,g4⟩:=jS hel;have ht2:kw s=[tn (gD s 91),tm (aj 64),td (c6 s)]:=if_pos hel;refine jU (jg 2 (by simp)).1 (ht.trans ht2) (fun r=>gG _ _) fun r hr=>?_;rw[ht,ht2];unfold dY;simp only[List.cons_append,List.nil_append,jo,ly,il g1];rw[mb (bt (t:=tm (aj 64)) (by decide +kernel)),mb (bt (t:=tm (aj 64)) (by decide +kernel)),bt (t:=tm (aj 64)) (by decide +kernel)];simp only[b5 (bJ (aj 64) (by simp)),xz g2 (by omega)];rw[if_neg (by omega),g4]
  ·have hnm:a8 s=true:=by
    unfold ez at hv;rw[Bool.or_eq_true]at hv;exact hv.resolve_left hel
   have ht2:kw s=[tn s]:=if_neg hel;refine jU (jg 2 (by simp)).1 (ht.trans ht2) (fun r=>gG _ _) fun r hr=>?_;rw[ht,ht2];unfold dY;simp only[List.cons_append,List.nil_append,jo,ly,il hnm];rw[mb hr.p,mb hr.p];simp only[hr.b,hr.a]
 by_cases c3:o=3
 ·subst c3;have hnm:=hname (.inl rfl)
  have hl:l.length=1:=by have:(l.length:Int)=1:=by simpa[bK,cy]using hop
                         omega
  obtain⟨x,rfl⟩:=List.length_eq_one_iff.1 hl;have hx:=(hrt x (by simp)).at_ 1 (by omega) (by omega);rw[tk1]at hx;have ht:bh (.mk 3 0 s [x])=tn s::tm (aj 91)::(bh x++[tm (aj 93)]):=rfl;refine jU (jg 3 (by simp)).1 ht (fun r=>gG _ _) fun r hr=>?_;have h1:=hx (tm (aj 93)::r) (eO (by simp) 1 _);have hp:pk 1=.W:=rfl;rw[hp]at h1;rw[ht];unfold dY;simp only[List.cons_append,List.append_assoc,List.nil_append,jo,ly,il hnm];rw[mb (bt (t:=tm (aj 91)) (by decide +kernel)),mb (bt (t:=tm (aj 91)) (by decide +kernel))];simp only[b5 (bJ (aj 91) (by simp)),h1,PR.bind,b5 (bJ (aj 93) (by simp))]
 by_cases c24:o=24
 ·subst c24;have hnm:=hname (.inr rfl);have hl:l=[]:=List.eq_nil_of_length_eq_zero (by simpa[bK,cy]using hop);subst hl;have ht:bh (.mk 24 0 s [])=[tn kP,tm (aj 40),tn s,tm (aj 41)]:=rfl;have hsw:a8 kP=true:=by decide +kernel
  refine jU (jg 24 (by simp)).1 ht (fun r=>gG _ _) fun r hr=>?_;rw[ht];unfold dY;simp only[List.cons_append,List.nil_append,jo,ly,il hsw,if_true,b5 (bJ (aj 40) (by simp)),il hnm,b5 (bJ (aj 41) (by simp))]
 have hs:s=⟨#[]⟩:=hs0 (by unfold cR;simp[c2,c3,c24]);subst hs;by_cases c25:o=25
 ·subst c25
  have hl:l.length=1:=by have:(l.length:Int)=1:=by simpa[bK,cy]using hop
                         omega
  obtain⟨x,rfl⟩:=List.length_eq_one_iff.1 hl;have hx:=(hrt x (by simp)).at_ 1 (by omega) (by omega);rw[tk1]at hx;have ht:bh (.mk 25 0 ⟨#[]⟩ [x])=tn gC::tm (aj 40)::(bh x++[tm (aj 41)]):=rfl;have how:a8 gC=true:=by decide +kernel
  refine jU (jg 25 (by simp)).1 ht (fun r=>gG _ _) fun r hr=>?_;have h1:=hx (tm (aj 41)::r) (eO (by simp) 1 _);have hp:pk 1=.W:=rfl;rw[hp]at h1;have hns:¬gC=kP:=by decide +kernel
  rw[ht];unfold dY;simp only[List.cons_append,List.append_assoc,List.nil_append,jo,ly,il how,if_neg hns,if_true,b5 (bJ (aj 40) (by simp)),h1,PR.bind,b5 (bJ (aj 41) (by simp))];rfl
 by_cases c456:o=4∨o=5∨o=6
 ·have hl:l.length=1:=by
   have:(l.length:Int)=1:=by
    rcases c456 with rfl|rfl|rfl<;>simpa[bK,cy]using hop
   omega
  obtain⟨x,rfl⟩:=List.length_eq_one_iff.1 hl;rcases c456 with rfl|rfl|rfl
  ·exact wM (m:=33) (.inl ⟨rfl,rfl⟩) (hrt x (by simp))
  ·exact wM (m:=126) (.inr (.inl ⟨rfl,rfl⟩)) (hrt x (by simp))
  ·exact wM (m:=45) (.inr (.inr ⟨rfl,rfl⟩)) (hrt x (by simp))
 by_cases c22:o=22
 ·subst c22
  have hl:l.length=3:=by have:(l.length:Int)=3:=by simpa[bK,cy]using hop
                         omega
  match l,hl with
  | [x,y,z],_=>exact LJ (hrt x (by simp)) (hrt y (by simp)) (hrt z (by simp))
 by_cases c23:o=23
 ·subst c23
  have hl:l.length%2=1∧3≤l.length:=by
   have:(decide (l.length%2=1)&&decide (3≤l.length)&&decide (l.length≤33))=true:=by simpa[bK]using hop
   simp only[Bool.and_eq_true,decide_eq_true_eq]at this;exact this.1
  match l,hl with
  | x::q,⟨h1,h2⟩=>
   simp only[List.length_cons]at h1 h2;exact Al (hrt x (by simp)) (fun a ha=>hrt a (by simp[ha])) (by omega) (fun e=>by rw[e]at h2;simp at h2)
 have hl:l.length=2:=by
  have:(l.length:Int)=2:=by
   have h1:(l.length:Int)=cy o:=by unfold bK at hop;rw[if_neg c23]at hop;exact of_decide_eq_true hop
   rw[h1];unfold cy;rw[if_neg (by omega),if_neg (by omega),if_neg c22,if_neg c23,if_neg (by omega)]
  omega
 match l,hl with
 | [x,y],_=>
  obtain⟨k,hk⟩:=Int.eq_ofNat_of_zero_le (show 0≤o by omega);have hb:=sH k (by omega) (by omega);rw[←hk]at hb;obtain⟨p,hp⟩:=Option.isSome_iff_exists.1 hb;exact Jl (m:=p.1) (k:=p.2) hp (hrt x (by simp)) (hrt y (by simp))
end Go.Proofs.YthekkgfmagliiaaGreatDoor
