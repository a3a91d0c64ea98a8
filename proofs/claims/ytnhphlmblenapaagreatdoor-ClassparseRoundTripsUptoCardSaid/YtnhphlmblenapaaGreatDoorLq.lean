import Derived.Test.YtnhphlmblenapaaGreatDoorPt
set_option linter.unusedVariables false
set_option linter.unusedSimpArgs false
set_option linter.unusedSectionVars false
open Bool renaming and_eq_true->TU,false_eq_true->TV,or_eq_true->TW
open Int renaming eq_ofNat_of_zero_le->TX
open List renaming cons_append->TY,append_assoc->TZ,eq_nil_of_length_eq_zero->T0,nil_append->T3,head?_cons->T4,length_cons->T5,getD_eq_getElem?_getD->T6,map_cons->T7,take_of_length_le->T8,append_nil->T9,mem_cons->Ua
namespace Go.Proofs.YtnhphlmblenapaaGreatDoor
open Go.RowKit
theorem ku{o:Int}{m:ByteArray}{l:Nat}(h:iw o=some (m,l)):(m,o,l)∈ce:=by
 unfold iw at h;obtain⟨b,hb,e⟩:=Option.map_eq_some_iff.1 h;have h1:=List.mem_of_find?_eq_some hb;have h2:=List.find?_some hb;simp only[decide_eq_true_eq]at h2;cases e;subst h2;exact h1
theorem wF:∀b,b∈ce->2≤b.2.2/\b.2.2≤12/\(b.2.2=2->b.2.1=21/\b.1=aE 61 62)/\7≤b.2.1/\b.2.1≤21:=by decide +kernel
theorem Ks(o:Int):1≤mG o/\mG o≤14:=by
 unfold mG;split
 .rename_i m l h;have:=wF _ (ku h);simp only at this;omega
 .repeat' split
  all_goals omega
theorem wL:∀o:Nat,o≤21->7≤o->(iw (o:Int)).isSome=true:=by decide +kernel
theorem Ef{s:ByteArray}(h:s.toList=[]):s=⟨#[]⟩:=by
 rw[ByteArray.toList_eq]at h;cases s with
 | mk d=>
  have:d = #[]:=by
   apply Array.toList_inj.1;simpa using h
  rw[this]
theorem ol{o n:Int}{s:ByteArray}{k:Nat}(h:bM o n s k=0):
 1≤o/\o≤25/\(o=1->0≤n/\n≤65535)/\cA o k=true/\(o=2->bv s=true)/\(o=3\/o=24->aS s=true)/\(¬o=1->n=0)/\(kR o=false->s=⟨#[]⟩):=by
 unfold bM at h;split at h
 .cases h
 .split at h
  .cases h
  .split at h
   .cases h
   .split at h
    .cases h
    .rename_i h1 h2 h3 h4;refine⟨by omega,by omega,fun e=>by omega,?_,fun e=>?_,fun e=>?_,fun e=>by omega,fun e=>?_⟩
     .cases ho:cA o k with
      | true=>rfl
      | false=>exact absurd (.inr ho) h3
     .cases hv:bv s with
      | true=>rfl
      | false=>exact absurd (.inl ⟨e,hv⟩) h4
     .cases hv:aS s with
      | true=>rfl
      | false=>exact absurd (.inr ⟨e,hv⟩) h4
     .refine Ef (Decidable.byContradiction fun hs=>h3 (.inl ⟨e,hs⟩))
theorem Fk{l:List Ex}(h:mM l=0):∀a,a∈l->dj a=0:=by
 induction l with
 | nil=>intro a ha;cases ha
 | cons b r ih=>
  simp only[mM]at h;split at h
  .rename_i hb;intro a ha;rcases List.mem_cons.1 ha with e|e
   .rw[e];exact hb
   .exact ih h a e
  .rename_i hb;exact absurd h hb
theorem ow{o n:Int}{s:ByteArray}{l:List Ex}(h:dj (.mk o n s l)=0):bM o n s l.length=0/\∀a,a∈l->dj a=0:=by
 simp only[dj]at h;split at h
 .exact⟨by assumption,Fk h⟩
 .rename_i hb;exact absurd h hb
theorem tk1(e:Ex):fj 1 (e.op,aW e)=aW e:=by
 unfold fj;rw[if_neg (by have:=(Ks e.op).1;simp only;omega)]
theorem vtd{n:Int}(h0:0≤n)(h1:n≤65535):bq (td n)=true:=by
 unfold bq td;rw[if_pos rfl];simp only[TU,decide_eq_true_eq,beq_iff_eq];exact⟨⟨h0,by omega⟩,by simp[rH]⟩
theorem vtn{s:ByteArray}(h:aS s=true):bq (tn s)=true:=by
 unfold bq tn;simp[h]
theorem vg{n:Int}(h0:0≤n)(h1:n≤65535)(r:List Tok):ct (td n::r)=some (n,r):=by
 simp only[ct];rw[if_pos ⟨vtd h0 h1,rfl⟩];rfl
theorem oC(s:ByteArray)(r:List Tok):ct (tn s::r)=none:=by
 simp only[ct];rw[if_neg (fun h=>by cases h.2)]
theorem jL{s:ByteArray}(h:aS s=true)(r:List Tok):bW (tn s::r)=some (s,r):=by
 simp only[bW];rw[if_pos ⟨vtn h,rfl⟩];rfl
theorem KG{a b:ByteArray}(h:a.data.toList=b.data.toList):a=b:=by
 cases a;cases b;simp only at h;rw[Array.toList_inj.1 h]
theorem Hr{t:ByteArray}(h:t.size=2):t.data.toList=[t[0]'(by omega),t[1]'(by omega)]:=by
 have hl:t.data.toList.length=2:=by rw[<-Lib.size_eq];exact h
 match hq:t.data.toList,hl with
 | [x,y],_=>
  have h0:=pA t 0 (by omega);have h1:=pA t 1 (by omega);rw[hq]at h0 h1;simp only[List.getElem?_cons_zero,List.getElem?_cons_succ,Option.some.injEq]at h0 h1;rw[<-h0,<-h1]
theorem dX{s:ByteArray}(h:fc s=true):aS (ff s 91)=true/\0≤ci s/\ci s≤7/\iP (ff s 91) (ci s)=s:=by
 unfold fc at h;simp only[TU]at h;obtain⟨⟨h1,h2⟩,h3⟩:=h;have hi:0≤Lib.indexByte s.data.toList 91:=of_decide_eq_true h1;obtain⟨o,ho⟩:=TX hi;have hne:¬Lib.indexByte s.data.toList 91 = -1:=by omega
 have hA:(ff s 91).data.toList=s.data.toList.take o:=by
  unfold ff;rw[if_neg hne,ho,Lib.extract_eq];simp
 have hB:(lS s 91).data.toList=s.data.toList.drop (o+1):=by
  unfold lS;rw[if_neg hne,ho,Lib.extract_eq];have hz:(s.data.toList.drop (o+1)).length≤s.size-(o+1):=by rw[List.length_drop,<-Lib.size_eq];exact Nat.le_refl _
  first
   | (show List.take (s.size-(o+1)) (s.data.toList.drop (o+1))=_;exact T8 hz)
   | (show List.drop (o+1) (s.data.toList.take s.size)=_;rw[T8 (by rw[<-Lib.size_eq];exact Nat.le_refl _)])
 have hat:s.data.toList[o]? = some 91:=(Lib.indexByte_some ho).1
 have hz:(lS s 91).size=2:=by
  refine Decidable.byContradiction fun hn=>?_;rw[uA hn]at h3;cases h3
 rw[qe hz]at h3;simp only[TU,decide_eq_true_eq]at h3;have ht:=Hr hz;generalize (lS s 91)[0]'(by omega)=x at *;generalize (lS s 91)[1]'(by omega)=y at *;obtain⟨⟨g1,g2⟩,g3⟩:=h3
 have hy:y=93:=by
  have:y.toNat=(93:UInt8).toNat:=g1;exact UInt8.toNat_inj.1 this
 have hd:ci s=(x.toNat:Int)-48:=by unfold ci;rw[ht];rfl
 refine⟨h2,by omega,by omega,?_⟩;apply KG;have hol:=(List.getElem?_eq_some_iff.1 hat).1
 have hsplit:s.data.toList=s.data.toList.take o++91::s.data.toList.drop (o+1):=by
  conv=>lhs;rw[<-List.take_append_drop o s.data.toList,List.drop_eq_getElem_cons hol]
  rw[(List.getElem?_eq_some_iff.1 hat).2]
 have hdec:Lib.decDigits (ci s).toNat=[x]:=by
  have e1:(ci s).toNat=x.toNat-48:=by omega
  rw[e1,Lib.decDigits,dif_pos (by omega)];congr 1;apply UInt8.toNat_inj.1;have:=ir (x.toNat-48) (by omega);omega
 unfold iP rH aa;simp only[ByteArray.data_append,Array.toList_append,hdec,hA];rw[hsplit]
 conv=>rhs;rw[<-hB,ht,hy]
 rw[List.take_append_of_le_length (by rw[List.length_take];omega),List.take_take,Nat.min_self];simp
theorem yz:∀(m:Nat) (l:List Ex),l.length≤m->(∀a,a∈l->RT a)->l.length%2=0->l≠[]->∀(args:List Ex) (r:List Tok),par (.Ip args) (fy (eH l)++(tm (aa 125)::r))=.ok (aU 23 (args++l)) r:=by
 intro m
 induction m with
 | zero=>intro l hl _ _ hne;exact absurd (T0 (by omega)) hne
 | succ m ih=>
 intro l hl hrt hev hne args r
 match l,hne with
 | [a],_=>simp at hev
 | [a,b],_=>
  have ha:=(hrt a (by simp)).at_ 1 (by omega) (by omega);have hb:=(hrt b (by simp)).at_ 1 (by omega) (by omega);rw[tk1]at ha hb;have h1:=ha (tm (aE 46 46)::(aW b++(tm (aa 125)::r))) (gy (by simp) 1 _);have h2:=hb (tm (aa 125)::r) (gy (by simp) 1 _);have hp:pk 1=.W:=rfl;rw[hp]at h1 h2;rw[cP];simp only[eH,fy,TZ,TY,aJ,h1,PR.bind,dk (ew (aE 46 46) (by simp)),h2];rw[ch (t:=tm (aa 125)) (by decide +kernel),dk (ew (aa 125) (by simp))]
 | a::b::c::q,_=>
  have ha:=(hrt a (by simp)).at_ 1 (by omega) (by omega);have hb:=(hrt b (by simp)).at_ 1 (by omega) (by omega);rw[tk1]at ha hb;have h1:=ha (tm (aE 46 46)::(aW b++(tm (aa 44)::(fy (eH (c::q))++(tm (aa 125)::r))))) (gy (by simp) 1 _);have h2:=hb (tm (aa 44)::(fy (eH (c::q))++(tm (aa 125)::r))) (gy (by simp) 1 _);have hp:pk 1=.W:=rfl;rw[hp]at h1 h2;have h3:=ih (c::q) (by simp only[T5]at hl ⊢;omega) (fun x hx=>hrt x (by simp only[Ua]at hx ⊢;exact .inr (.inr hx))) (by simp only[T5]at hev ⊢;omega) (by simp) (args++[a,b]) r;have hte:eH (a::b::c::q)=(a.op,aW a)::(b.op,aW b)::eH (c::q):=rfl;have hpe:fy (eH (a::b::c::q))=aW a++tm (aE 46 46)::(aW b++tm (aa 44)::fy (eH (c::q))):=rfl;rw[cP,hpe]
  simp only[TZ,TY,aJ,h1,PR.bind,dk (ew (aE 46 46) (by simp)),h2,dk (ew (aa 44) (by simp)),h3];simp
theorem LB{o:Int}{x y:Ex}{m:ByteArray}{k:Nat}(hb:iw o=some (m,k))(hx:RT x)(hy:RT y):RT (aU o [x,y]):=by
 have hmem:=ku hb;obtain⟨l2,l12,l21,o7,o21⟩:=wF _ hmem;simp only at l2 l12 l21;have hlev:mG o=k:=by unfold mG;rw[hb]
 have htk:aW (aU o [x,y])=fj (if k=2 then 3 else k) (x.op,aW x)++tm m::fj (if k=2 then 2 else k+1) (y.op,aW y):=by
  show kW o 0 ⟨#[]⟩ (eH [x,y])=_;unfold kW;rw[hb];rfl
 by_cases k2:k=2
 .obtain⟨ho,hm⟩:=l21 k2;subst k2;subst hm;rw[if_pos rfl,if_pos rfl]at htk;refine uR 2 hlev (by omega) (by omega) (fun r hr=>?_) (fun e=>by omega) (fun e=>by omega);have h1:=hx.at_ 3 (by omega) (by omega) (tm (aE 61 62)::(fj 2 (y.op,aW y)++r)) (yC hmem _);have h2:=hy.at_ 2 (by omega) (by omega) r hr;have hp3:pk 3=.L 3:=rfl;have hp2:pk 2=.I:=rfl;rw[hp3]at h1;rw[hp2]at h2 ⊢;rw[cP,htk];have hv:=za _ hmem;simp only[TZ,TY,aJ,h1,PR.bind,dk hv,h2];rw[ho]
 .rw[if_neg k2,if_neg k2]at htk
  have hl:∀r,Stop (k+1) r->par (.L k) (aW (aU o [x,y])++r)=par (.Lp k (aU o [x,y])) r:=fun r hr=>by
   have h1:=hx.left k (by omega) l12 (tm m::(fj (k+1) (y.op,aW y)++r)) (yC hmem _);have h2:=hy.at_ (k+1) (by omega) (by omega) r hr;have hp:pk (k+1)=.L (k+1):=by unfold pk;rw[if_neg (by omega),if_neg (by omega),if_neg (by omega)]
   rw[hp]at h2;rw[htk,TZ,TY,h1,cP];simp only[aJ]
   have hi:(if k=9 then acc b9 (tm m::(fj (k+1) (y.op,aW y)++r))else none)=none:=by
    split
    .exact ch (t:=tm m) ((by decide +kernel:∀b,b∈ce->b.1≠b9) _ hmem)
    .rfl
   have hop:=E3 _ hmem (by simp only;omega) (fj (k+1) (y.op,aW y)++r);simp only at hop;rw[hi,hop];simp only[h2,PR.bind];rfl
  refine uR k hlev (by omega) (by omega) (fun r hr=>?_) (fun e=>by omega) (fun _ _=>hl);have hp:pk k=.L k:=by unfold pk;rw[if_neg (by omega),if_neg (by omega),if_neg (by omega)]
  rw[hp,hl r (hr.mono (Nat.le_succ k))];exact vA hr (by omega) _
theorem Ac{o:Int}{m:UInt8}{x:Ex}(h:(o=4/\m=33)\/(o=5/\m=126)\/(o=6/\m=45))(hx:RT x):RT (aU o [x]):=by
 have hlev:mG o=13:=by rcases h with⟨rfl,rfl⟩|⟨rfl,rfl⟩|⟨rfl,rfl⟩<;>decide +kernel
 have hb:iw o=none:=by rcases h with⟨rfl,rfl⟩|⟨rfl,rfl⟩|⟨rfl,rfl⟩<;>decide +kernel
 have htk:aW (aU o [x])=tm (aa m)::fj 13 (x.op,aW x):=by
  show kW o 0 ⟨#[]⟩ (eH [x])=_;unfold kW;rw[hb];rcases h with⟨rfl,rfl⟩|⟨rfl,rfl⟩|⟨rfl,rfl⟩<;>rfl
 refine uR 13 hlev (by omega) (by omega) (fun r hr=>?_) (fun e=>by omega) (fun _ e=>by omega);have h2:=hx.at_ 13 (by omega) (by omega) r hr;have hp:pk 13=.L 13:=rfl;rw[hp,vw]at h2;rw[hp,vw,cP,htk];rcases h with⟨rfl,rfl⟩|⟨rfl,rfl⟩|⟨rfl,rfl⟩
 .simp only[TY,aJ,dk (ew (aa 33) (by simp)),h2,PR.bind]
 .simp only[TY,aJ];rw[ch (t:=tm (aa 126)) (by decide +kernel)];simp only[dk (ew (aa 126) (by simp)),h2,PR.bind]
 .simp only[TY,aJ];rw[ch (t:=tm (aa 45)) (by decide +kernel),ch (t:=tm (aa 45)) (by decide +kernel)];simp only[dk (ew (aa 45) (by simp)),h2,PR.bind]
theorem OR{x y z:Ex}(hx:RT x)(hy:RT y)(hz:RT z):RT (aU 22 [x,y,z]):=by
 have htk:aW (aU 22 [x,y,z])=fj 2 (x.op,aW x)++tm (aa 63)::(aW y++tm (aa 58)::aW z):=by
  have h1:=tk1 y;have h2:=tk1 z;rw[<-h1,<-h2];rfl
 refine uR 1 (show mG 22=1 by decide +kernel) (by omega) (by omega) (fun r hr=>?_) (fun e=>by omega) (fun e=>by omega);have h1:=hx.at_ 2 (by omega) (by omega) (tm (aa 63)::(aW y++(tm (aa 58)::(aW z++r)))) (L3 _);have h2:=hy.at_ 1 (by omega) (by omega) (tm (aa 58)::(aW z++r)) (gy (by simp) 1 _);have h3:=hz.at_ 1 (by omega) (by omega) r hr;rw[tk1]at h2 h3;have hp1:pk 1=.W:=rfl;have hp2:pk 2=.I:=rfl;rw[hp2]at h1;rw[hp1]at h2 h3 ⊢;rw[cP,htk];simp only[TZ,TY,aJ,h1,PR.bind,dk (ew (aa 63) (by simp)),h2,dk (ew (aa 58) (by simp)),h3]
theorem C3{x:Ex}{l:List Ex}(hx:RT x)(hl:∀a,a∈l->RT a)(hev:l.length%2=0)(hne:l≠[]):RT (aU 23 (x::l)):=by
 have htk:aW (aU 23 (x::l))=fj 9 (x.op,aW x)++tw b9::tm (aa 123)::(fy (eH l)++[tm (aa 125)]):=rfl
 have hlf:∀r,Stop 10 r->par (.L 9) (aW (aU 23 (x::l))++r)=par (.Lp 9 (aU 23 (x::l))) r:=fun r hr=>by
  have h1:=hx.left 9 (by omega) (by omega) (tw b9::tm (aa 123)::(fy (eH l)++(tm (aa 125)::r))) (yu _);have h2:=yz _ l (Nat.le_refl _) hl hev hne [x] r
  have h3:par (.In x) (tm (aa 123)::(fy (eH l)++(tm (aa 125)::r)))=.ok (aU 23 (x::l)) r:=by
   rw[cP];simp only[aJ,dk (ew (aa 123) (by simp)),h2];rfl
  rw[htk];simp only[TZ,TY,T3];rw[h1,cP];simp only[aJ,if_true,od u0,h3,PR.bind]
 refine uR 9 (show mG 23=9 by decide +kernel) (by omega) (by omega) (fun r hr=>?_) (fun e=>by omega) (fun _ _=>hlf);have hp:pk 9=.L 9:=rfl;rw[hp,hlf r (hr.mono (by omega))];exact vA hr (by omega) _
theorem jt(s:ByteArray)(r:List Tok):acc (aa 33) (tn s::r)=none/\acc (aa 126) (tn s::r)=none/\acc (aa 45) (tn s::r)=none:=⟨ki _ _ _,ki _ _ _,ki _ _ _⟩
theorem mj:∀o,o∈[(1:Int),2,3,24,25]->mG o=14/\iw o=none:=by decide +kernel
theorem nr{e:Ex}{t:Tok}{q:List Tok}(hl:mG e.op=14)(ht:aW e=t::q)(hn:∀r,acc (aa 33) (t::r)=none/\acc (aa 126) (t::r)=none/\acc (aa 45) (t::r)=none)(h:∀r,Stop 14 r->dO par (aW e++r)=.ok e r):RT e:=by
 refine uR 14 hl (by omega) (by omega) (fun r hr=>?_) (fun _ r=>?_) (fun _ e=>by omega)
 .have hp:pk 14=.P:=rfl;rw[hp,cP];simp only[aJ];exact h r hr
 .rw[ht];exact hn _
theorem qb{p:Prop}[Decidable p]{o:Option (List Tok)}(h:o=none):(if p then o else none)=none:=by rw[h];split<;>rfl
theorem MH(e:Ex):dj e=0->RT e:=by
 induction e using Ex.ind with
 | h o n s l ih=>
 intro he;obtain⟨hnode,hargs⟩:=ow he;obtain⟨o1,o25,hc,hop,hvar,hname,hn0,hs0⟩:=ol hnode;have hrt:∀a,a∈l->RT a:=fun a ha=>ih a ha (hargs a ha);have e1:acc (aa 40)=acc (aa 40):=rfl;by_cases c1:o=1
 .subst c1;have hl:l=[]:=T0 (by simpa[cA,dQ]using hop);have hs:s=⟨#[]⟩:=hs0 (by decide);subst hl;subst hs;obtain⟨h0,h1⟩:=hc rfl;refine nr (t:=td n) (q:=[]) (mj 1 (by simp)).1 rfl (fun r=>⟨pS _ _ _,pS _ _ _,pS _ _ _⟩) fun r hr=>?_;have ht:aW (.mk 1 n ⟨#[]⟩ [])=[td n]:=rfl;rw[ht];unfold dO;simp only[TY,T3,pS,vg h0 h1];rw[if_neg (by omega)]
 have hn:n=0:=hn0 c1;subst hn;by_cases c2:o=2
 .subst c2;have hl:l=[]:=T0 (by simpa[cA,dQ]using hop);subst hl;have hv:=hvar rfl;have ht:aW (.mk 2 0 s [])=lN s:=rfl;by_cases hel:fc s=true
  .obtain⟨g1,g2,g3,g4⟩:=dX hel;have ht2:lN s=[tn (ff s 91),tm (aa 64),td (ci s)]:=if_pos hel;refine nr (mj 2 (by simp)).1 (ht.trans ht2) (fun r=>jt _ _) fun r hr=>?_;rw[ht,ht2];unfold dO;simp only[TY,T3,ki,oC,jL g1];rw[qb (ch (t:=tm (aa 64)) (by decide +kernel)),qb (ch (t:=tm (aa 64)) (by decide +kernel)),ch (t:=tm (aa 64)) (by decide +kernel)];simp only[dk (ew (aa 64) (by simp)),vg g2 (by omega)];rw[if_neg (by omega),g4]
  .have hnm:aS s=true:=by
    unfold bv at hv;rw[TW]at hv;exact hv.resolve_left hel
   have ht2:lN s=[tn s]:=if_neg hel;refine nr (mj 2 (by simp)).1 (ht.trans ht2) (fun r=>jt _ _) fun r hr=>?_;rw[ht,ht2];unfold dO;simp only[TY,T3,ki,oC,jL hnm];rw[qb hr.p,qb hr.p];simp only[hr.b,hr.a]
 by_cases c3:o=3
 .subst c3;have hnm:=hname (.inl rfl)
  have hl:l.length=1:=by have:(l.length:Int)=1:=by simpa[cA,dQ]using hop
                         omega
  obtain⟨x,rfl⟩:=List.length_eq_one_iff.1 hl;have hx:=(hrt x (by simp)).at_ 1 (by omega) (by omega);rw[tk1]at hx;have ht:aW (.mk 3 0 s [x])=tn s::tm (aa 91)::(aW x++[tm (aa 93)]):=rfl;refine nr (mj 3 (by simp)).1 ht (fun r=>jt _ _) fun r hr=>?_;have h1:=hx (tm (aa 93)::r) (gy (by simp) 1 _);have hp:pk 1=.W:=rfl;rw[hp]at h1;rw[ht];unfold dO;simp only[TY,TZ,T3,ki,oC,jL hnm];rw[qb (ch (t:=tm (aa 91)) (by decide +kernel)),qb (ch (t:=tm (aa 91)) (by decide +kernel))];simp only[dk (ew (aa 91) (by simp)),h1,PR.bind,dk (ew (aa 93) (by simp))]
 by_cases c24:o=24
 .subst c24;have hnm:=hname (.inr rfl);have hl:l=[]:=T0 (by simpa[cA,dQ]using hop);subst hl;have ht:aW (.mk 24 0 s [])=[tn mD,tm (aa 40),tn s,tm (aa 41)]:=rfl;have hsw:aS mD=true:=by decide +kernel
  refine nr (mj 24 (by simp)).1 ht (fun r=>jt _ _) fun r hr=>?_;rw[ht];unfold dO;simp only[TY,T3,ki,oC,jL hsw,if_true,dk (ew (aa 40) (by simp)),jL hnm,dk (ew (aa 41) (by simp))]
 have hs:s=⟨#[]⟩:=hs0 (by unfold kR;simp[c2,c3,c24]);subst hs;by_cases c25:o=25
 .subst c25
  have hl:l.length=1:=by have:(l.length:Int)=1:=by simpa[cA,dQ]using hop
                         omega
  obtain⟨x,rfl⟩:=List.length_eq_one_iff.1 hl;have hx:=(hrt x (by simp)).at_ 1 (by omega) (by omega);rw[tk1]at hx;have ht:aW (.mk 25 0 ⟨#[]⟩ [x])=tn gV::tm (aa 40)::(aW x++[tm (aa 41)]):=rfl;have how:aS gV=true:=by decide +kernel
  refine nr (mj 25 (by simp)).1 ht (fun r=>jt _ _) fun r hr=>?_;have h1:=hx (tm (aa 41)::r) (gy (by simp) 1 _);have hp:pk 1=.W:=rfl;rw[hp]at h1;have hns:¬gV=mD:=by decide +kernel
  rw[ht];unfold dO;simp only[TY,TZ,T3,ki,oC,jL how,if_neg hns,if_true,dk (ew (aa 40) (by simp)),h1,PR.bind,dk (ew (aa 41) (by simp))];rfl
 by_cases c456:o=4\/o=5\/o=6
 .have hl:l.length=1:=by
   have:(l.length:Int)=1:=by
    rcases c456 with rfl|rfl|rfl<;>simpa[cA,dQ]using hop
   omega
  obtain⟨x,rfl⟩:=List.length_eq_one_iff.1 hl;rcases c456 with rfl|rfl|rfl
  .exact Ac (m:=33) (.inl ⟨rfl,rfl⟩) (hrt x (by simp))
  .exact Ac (m:=126) (.inr (.inl ⟨rfl,rfl⟩)) (hrt x (by simp))
  .exact Ac (m:=45) (.inr (.inr ⟨rfl,rfl⟩)) (hrt x (by simp))
 by_cases c22:o=22
 .subst c22
  have hl:l.length=3:=by have:(l.length:Int)=3:=by simpa[cA,dQ]using hop
                         omega
  match l,hl with
  | [x,y,z],_=>exact OR (hrt x (by simp)) (hrt y (by simp)) (hrt z (by simp))
 by_cases c23:o=23
 .subst c23
  have hl:l.length%2=1/\3≤l.length:=by
   have:(decide (l.length%2=1)&&decide (3≤l.length)&&decide (l.length≤33))=true:=by simpa[cA]using hop
   simp only[TU,decide_eq_true_eq]at this;exact this.1
  match l,hl with
  | x::q,⟨h1,h2⟩=>
   simp only[T5]at h1 h2;exact C3 (hrt x (by simp)) (fun a ha=>hrt a (by simp[ha])) (by omega) (fun e=>by rw[e]at h2;simp at h2)
 have hl:l.length=2:=by
  have:(l.length:Int)=2:=by
   have h1:(l.length:Int)=dQ o:=by unfold cA at hop;rw[if_neg c23]at hop;exact of_decide_eq_true hop
   rw[h1];unfold dQ;rw[if_neg (by omega),if_neg (by omega),if_neg c22,if_neg c23,if_neg (by omega)]
  omega
 match l,hl with
 | [x,y],_=>
  obtain⟨k,hk⟩:=TX (show 0≤o by omega);have hb:=wL k (by omega) (by omega);rw[<-hk]at hb;obtain⟨p,hp⟩:=Option.isSome_iff_exists.1 hb;exact LB (m:=p.1) (k:=p.2) hp (hrt x (by simp)) (hrt y (by simp))
abbrev Pc:=List (Option Tok)
def txt:Pc->Bs
 | []=>[]
 | none::r=>32::txt r
 | some t::r=>t.text.data.toList++txt r
def tks:Pc->List Tok
 | []=>[]
 | none::r=>tks r
 | some t::r=>t::tks r
theorem b8:∀a b:Pc,txt (a++b)=txt a++txt b
 | [],b=>rfl
 | none::r,b=>by simp only[TY,txt,b8 r b]
 | some t::r,b=>by simp only[TY,txt,b8 r b,TZ]
theorem dS:∀a b:Pc,tks (a++b)=tks a++tks b
 | [],b=>rfl
 | none::r,b=>by simp only[TY,tks,dS r b]
 | some t::r,b=>by simp only[TY,tks,dS r b]
theorem xW:∀l:List Tok,tks (l.map some)=l
 | []=>rfl
 | t::r=>by simp only[T7,tks,xW r]
structure Fine(t:Tok)(q:Bs):Prop where
 v:bq t=true
 n:t.text.data.toList≠[]
 r:cB (t.text.data.toList++q)=.tok t.kind t.num t.text.data.toList.length
 s:ck (t.text.data.toList++q)=t.text.data.toList++q
def good:Pc->Bs->Prop
 | [],_=>True
 | none::r,q=>good r q
 | some t::r,q=>Fine t (txt r++q)/\good r q
theorem cI:∀(a b:Pc) (q:Bs),good a (txt b++q)->good b q->good (a++b) q
 | [],_,_,_,h=>h
 | none::r,b,q,h,h2=>cI r b q h h2
 | some t::r,b,q,h,h2=>⟨by have h1:=h.1;show Fine t (txt (r++b)++q);rw[b8,TZ];exact h1,cI r b q h.2 h2⟩
def Kq(q:Bs):Prop:=∀x,q.head? = some x->x≠61/\x≠62
def Hq(q:Bs):Prop:=∀x,q.head? = some x->inn x=false/\x≠61/\x≠62
theorem Hq.k{q:Bs}(h:Hq q):Kq q:=fun x hx=>(h x hx).2
theorem LG:Hq []:=fun x h=>by simp at h
theorem fx{c:UInt8}{q:Bs}(h:c∈[(32:UInt8),40,41,91,93,64,44]):Hq (c::q):=by
 intro x hx;simp only[T4,Option.some.injEq]at hx;subst hx;exact(by decide:∀c,c∈[(32:UInt8),40,41,91,93,64,44]->inn c=false/\c≠61/\c≠62) c h
theorem qc{t:Tok}(h:bq t=true)(hk:t.kind≠4){q:Bs}(hq:Hq q):Fine t q:=by
 have hqi:∀x,q.head? = some x->inn x=false:=fun x hx=>(hq x hx).1
 suffices H:t.text.data.toList≠[]/\cB (t.text.data.toList++q)=.tok t.kind t.num t.text.data.toList.length/\ck (t.text.data.toList++q)=t.text.data.toList++q from⟨h,H.1,H.2.1,H.2.2⟩
 unfold bq at h;split at h
 .rename_i hk;simp only[TU,decide_eq_true_eq,beq_iff_eq]at h;obtain⟨⟨h0,h1⟩,h2⟩:=h;obtain⟨c,r,h3,h4,h5⟩:=yR t.num.toNat;have hd:=AY t.num.toNat;have hv:=AZ t.num.toNat;rw[h2,h3]at *;have hin:∀x,x∈c::r->inn x=true:=fun x hx=>by have:=hd x hx;simp[inn,i6,this]
  have htw:=nY hin hqi;have hdc:=hd c (by simp);obtain⟨hb,h47⟩:=jg (.inr hdc);refine⟨by simp,?_,?_⟩
  .rw[TY]at htw ⊢;simp only[cB,htw,qI hdc,hdc,hv,if_true,TV,if_false];rw[if_neg,if_neg (by omega)]
   .rw[hk];congr 1;omega
   .rintro(ha|⟨ha,rfl⟩)
    .have:((c::r).all fun x=>d5 x.toNat)=true:=List.all_eq_true.2 hd;rw[this]at ha;cases ha
    .by_cases h10:t.num.toNat<10
     .rw[h5 h10]at ha;simp at ha
     .exact h4 (by omega) rfl
  .rw[TY];exact d8 hb h47
 .split at h
  .rename_i hk;simp only[TU,decide_eq_true_eq]at h;obtain⟨h0,h1⟩:=h;simp only[aS,TU,decide_eq_true_eq,Bool.not_eq_true']at h1;obtain⟨⟨hw,hz⟩,hkw⟩:=h1;unfold ju at hw;have htx:=pE t.text;rw[Lib.size_eq]at hz;generalize hl:t.text.data.toList=l at *
   match l,hw with
   | c::r,hw=>
    simp only[lP,TU]at hw;have hin:∀x,x∈c::r->inn x=true:=fun x hx=>List.all_eq_true.1 hw.2 x hx;have htw:=nY hin hqi;obtain⟨hb,h47⟩:=jg (.inl hw.1);refine⟨by simp,?_,?_⟩
    .rw[TY]at htw ⊢;simp only[cB,htw,hw.1,if_true];rw[if_neg (by omega),htx,hkw,hk,h0];rfl
    .rw[TY];exact d8 hb h47
  .split at h
   .rename_i hk;simp only[TU,decide_eq_true_eq]at h;obtain⟨h0,h1⟩:=h;have hf:=xY _ (BL h1);have htx:=pE t.text;generalize hl:t.text.data.toList=l at *
    match l,hf with
    | c::r,hf=>
     simp only[TU,decide_eq_true_eq]at hf;obtain⟨⟨hlow,hall⟩,hz⟩:=hf;have hin:∀x,x∈c::r->inn x=true:=fun x hx=>List.all_eq_true.1 hall x hx;have htw:=nY hin hqi;obtain⟨hb,h47⟩:=jg (.inl hlow);refine⟨by simp,?_,?_⟩
     .rw[TY]at htw ⊢;simp only[cB,htw,hlow,if_true];rw[if_neg (by omega),htx,h1,hk,h0];rfl
     .rw[TY];exact d8 hb h47
   .cases h
def qO:List UInt8:=[40,41,91,93,123,125,64,44,33,126,45]
theorem Aq:∀c,c∈qO->[c]∈aY/\cT [c]=1/\bq (tm (aa c))=true/\iz c.toNat=false/\d5 c.toNat=false/\lT c=false/\c≠47:=by decide +kernel
theorem DS:∀c,c∈qO->∀n:Nat,n<256->n≠61->n≠62->cT [c,UInt8.ofNat n]=1:=by decide +kernel
theorem qk{c:UInt8}(h:c∈qO){q:Bs}(hq:Kq q):Fine (tm (aa c)) q:=by
 obtain⟨h1,h2,h3,h4,h5,h6,h7⟩:=Aq c h
 have hb:cT (c::q)=1:=by
  rw[pQ]
  match q,hq with
  | [],_=>exact h2
  | x::q,hq=>
   have hx:=hq x rfl;have hl:x.toNat<256:=x.toNat_lt;have hx1:x.toNat≠61:=fun e=>hx.1 (UInt8.toNat.inj e);have hx2:x.toNat≠62:=fun e=>hx.2 (UInt8.toNat.inj e);have:=DS c h x.toNat hl hx1 hx2;rw[UInt8.ofNat_toNat]at this;exact this
 refine⟨h3,by simp[tm,aa],?_,d8 h6 h7⟩;show cB (c::q)=.tok 4 0 1;simp only[cB,h4,h5,hb];rfl
theorem zq{t:Tok}(h:bq t=true)(q:Bs):Fine t (32::q):=by
 have hb:Ad (32::q):=fun x hx=>by simp only[T4,Option.some.injEq]at hx;subst hx;decide
 obtain⟨h1,h2,h3⟩:=zk h hb;exact⟨h,h1,h2,h3⟩
theorem cD(c:UInt8)(X:Pc):txt (some (tm (aa c))::X)=c::txt X:=rfl
structure Hd(X:Pc):Prop where
 n:txt X≠[]
 k:Kq (txt X)
theorem Hd.q{X:Pc}(h:Hd X)(q:Bs):Kq (txt X++q):=by
 have h1:=h.n;have h2:=h.k;cases e:txt X with
 | nil=>exact absurd e h1
 | cons c r=>rw[e]at h2;exact fun x hx=>h2 x hx
theorem Hd.app{X:Pc}(h:Hd X)(Y:Pc):Hd (X++Y):=by
 refine⟨by rw[b8];simp[h.n],by rw[b8];exact h.q _⟩
theorem BT{c:UInt8}(h:c∈qO)(X:Pc):Hd (some (tm (aa c))::X):=
 ⟨by rw[cD];simp,by
   intro x hx;rw[cD]at hx;simp only[T4,Option.some.injEq]at hx;subst hx;exact(by decide:∀c,c∈qO->c≠61/\c≠62) c h⟩
theorem j7{t:Tok}(h:bq t=true)(hk:t.kind≠4)(X:Pc):Hd (some t::X):=by
 have hf:=qc h hk LG;have hn:=hf.n;have hr:=hf.r;refine⟨by simp[txt,hn],?_⟩;simp only[txt];cases e:t.text.data.toList with
 | nil=>exact absurd e hn
 | cons c r=>
  rw[e]at hr;intro x hx;simp only[TY,T4,Option.some.injEq]at hx;subst hx;rw[T9]at hr;simp only[cB]at hr;have hne:∀c:UInt8,c=61\/c=62->iz c.toNat=false/\d5 c.toNat=false:=by rintro c (rfl|rfl)<;>decide
  have:¬(c=61\/c=62):=by
   intro hc;obtain⟨g1,g2⟩:=hne c hc;simp only[g1,g2,TV,if_false]at hr;split at hr
   .cases hr
   .injection hr with h1;exact hk h1.symm
  exact⟨fun e=>this (.inl e),fun e=>this (.inr e)⟩
def iN(k:Nat)(a:Int×Pc):Pc:=if mG a.1<k then some (tm (aa 40))::(a.2++[some (tm (aa 41))])else a.2
def ii:List (Int×Pc)->Pc
 | []=>[]
 | [_]=>[]
 | [a,b]=>a.2++none::some (tm (aE 46 46))::none::b.2
 | a::b::c::r=>a.2++none::some (tm (aE 46 46))::none::(b.2++some (tm (aa 44))::none::ii (c::r))
def lV(o n:Int)(s:ByteArray)(xs:List (Int×Pc)):Pc:=match iw o with
 | some (m,l)=>iN (if l=2 then 3 else l) (xs.getD 0 (1,[]))++none::some (tm m)::none::iN (if l=2 then 2 else l+1) (xs.getD 1 (1,[]))
 | none=>
  if o=4 then some (tm (aa 33))::iN 13 (xs.getD 0 (1,[]))
  else if o=5 then some (tm (aa 126))::iN 13 (xs.getD 0 (1,[]))
  else if o=6 then some (tm (aa 45))::iN 13 (xs.getD 0 (1,[]))
  else if o=22 then iN 2 (xs.getD 0 (1,[]))++none::some (tm (aa 63))::none::(iN 1 (xs.getD 1 (1,[]))++none::some (tm (aa 58))::none::iN 1 (xs.getD 2 (1,[])))
  else if o=23 then iN 9 (xs.getD 0 (1,[]))++none::some (tw b9)::none::some (tm (aa 123))::none::(ii xs.tail++[none,some (tm (aa 125))])
  else if o=1 then[some (td n)]
  else if o=3 then some (tn s)::some (tm (aa 91))::((xs.getD 0 (1,[])).2++[some (tm (aa 93))])
  else if o=24 then[some (tn mD),some (tm (aa 40)),some (tn s),some (tm (aa 41))]
  else if o=25 then some (tn gV)::some (tm (aa 40))::((xs.getD 0 (1,[])).2++[some (tm (aa 41))])
  else(lN s).map some
mutual
def pcE:Ex->Pc
 | .mk o n s l=>lV o n s (vo l)
def vo:List Ex->List (Int×Pc)
 | []=>[]
 | a::r=>(a.op,pcE a)::vo r
end
theorem yM(l:List Ex):vo l=l.map fun a=>(a.op,pcE a):=by
 induction l with
 | nil=>rfl
 | cons a r ih=>simp only[vo,ih,T7]
def bh(e:Ex):Bs:=txt (pcE e)
theorem Fm(k:Nat)(a:Int×Pc):tks (iN k a)=fj k (a.1,tks a.2):=by
 unfold iN fj;simp only;split
 .simp only[tks,dS]
 .rfl
theorem uz:∀xs:List (Int×Pc),tks (ii xs)=fy (xs.map fun a=>(a.1,tks a.2))
 | []=>rfl
 | [_]=>rfl
 | [a,b]=>by simp only[ii,T7,List.map_nil,fy,dS,tks]
 | a::b::c::r=>by
  have:=uz (c::r);simp only[ii,dS,tks,this];rfl
theorem Hb(xs:List (Int×Pc))(i:Nat):(xs.map fun a=>(a.1,tks a.2)).getD i (1,[])=((xs.getD i (1,[])).1,tks (xs.getD i (1,[])).2):=by
 rw[T6,T6,List.getElem?_map];cases xs[i]?<;>rfl
theorem Ia(o n:Int)(s:ByteArray)(xs:List (Int×Pc)):tks (lV o n s xs)=kW o n s (xs.map fun a=>(a.1,tks a.2)):=by
 unfold lV kW;simp only[Hb];cases iw o with
 | some p=>simp only[dS,tks,Fm]
 | none=>
  simp only;repeat' split
  all_goals simp only[dS,tks,Fm,uz,xW,List.map_tail]
theorem yI(e:Ex):tks (pcE e)=aW e:=by
 induction e using Ex.ind with
 | h o n s l ih=>
 show tks (lV o n s (vo l))=kW o n s (eH l);rw[Ia,yM,yY,List.map_map];congr 1;exact List.map_congr_left fun a ha=>by simp only[Function.comp,ih a ha]
theorem dF{c:UInt8}(h:c∈qO){X:Pc}{q:Bs}(hk:Kq (txt X++q))(hX:good X q):good (some (tm (aa c))::X) q:=⟨qk h hk,hX⟩
theorem aI{t:Tok}(h:bq t=true){X:Pc}{q:Bs}(hX:good X q):good (some t::none::X) q:=⟨zq h _,hX⟩
theorem jc{t:Tok}(h:bq t=true)(hk:t.kind≠4){X:Pc}{q:Bs}(hq:Hq (txt X++q))(hX:good X q):good (some t::X) q:=⟨qc h hk hq,hX⟩
structure GT(X:Pc):Prop where
 g:∀q,Hq q->good X q
 h:Hd X
theorem rB{c:UInt8}(h:c∈qO){X:Pc}(hX:GT X):GT (some (tm (aa c))::X):=
 ⟨fun q hq=>dF h (hX.h.q q) (hX.g q hq),BT h _⟩
theorem sM(k:Nat){o:Int}{X:Pc}(hX:GT X):GT (iN k (o,X)):=by
 unfold iN;simp only;split
 .refine⟨fun q hq=>dF (by decide) ?_ (cI _ _ q (hX.g _ (fx (by decide))) (dF (by decide) ?_ trivial)),BT (by decide) _⟩
  .rw[b8,TZ];exact hX.h.q _
  .exact hq.k
 .exact hX
theorem vn{X Y:Pc}{m:ByteArray}(hm:bq (tm m)=true)(hX:GT X)(hY:GT Y):GT (X++none::some (tm m)::none::Y):=
 ⟨fun q hq=>cI _ _ q (hX.g _ (fx (by decide))) (aI hm (hY.g q hq)),hX.h.app _⟩
theorem yc:∀(l:List (Int×Pc)),(∀a,a∈l->GT a.2)->∀q,Hq q->good (ii l) q
 | [],_,_,_=>trivial
 | [_],_,_,_=>trivial
 | [a,b],h,q,hq=>(vn (ew (aE 46 46) (by simp)) (h a (by simp)) (h b (by simp))).g q hq
 | a::b::c::r,h,q,hq=>by
  have ih:=yc (c::r) (fun x hx=>h x (by simp only[Ua]at hx ⊢;exact .inr (.inr hx))) q hq;refine cI _ _ q ((h a (by simp)).g _ (fx (by decide))) (aI (ew (aE 46 46) (by simp)) ?_);refine cI _ _ q ((h b (by simp)).g _ (fx (by decide))) ?_;exact aI (ew (aa 44) (by simp)) ih
theorem cM{s:ByteArray}(h:aS s=true):bq (tn s)=true:=by
 unfold bq tn;simp[h]
theorem fU{n:Int}(h0:0≤n)(h1:n≤65535):bq (td n)=true:=by
 unfold bq td rH;simp only[if_true,TU,decide_eq_true_eq,beq_iff_eq];exact⟨⟨h0,by omega⟩,by simp⟩
theorem jK(s:ByteArray):(tn s).kind≠4:=by show(1:Int)≠4;decide
theorem ko(n:Int):(td n).kind≠4:=by show(3:Int)≠4;decide
theorem vR{t:Tok}(h:bq t=true)(hk:t.kind≠4):GT [some t]:=
 ⟨fun q hq=>jc h hk hq trivial,j7 h hk _⟩
theorem GS(e:Ex):dj e=0->GT (pcE e):=by
 induction e using Ex.ind with
 | h o n s l ih=>
 intro he;obtain⟨hnode,hargs⟩:=ow he;obtain⟨o1,o25,hc,hop,hvar,hname,hn0,hs0⟩:=ol hnode;have hrt:∀a,a∈l->GT (pcE a):=fun a ha=>ih a ha (hargs a ha);by_cases c1:o=1
 .subst c1;obtain⟨h0,h1⟩:=hc rfl;show GT [some (td n)];exact vR (fU h0 h1) (ko _)
 by_cases c2:o=2
 .subst c2;have hv:=hvar rfl;show GT ((lN s).map some);by_cases hel:fc s=true
  .obtain⟨g1,g2,g3,g4⟩:=dX hel;rw[show lN s=[tn (ff s 91),tm (aa 64),td (ci s)]from if_pos hel];have h1:=vR (fU g2 (by omega)) (ko _);have h2:=rB (c:=64) (by decide) h1;exact⟨fun q hq=>jc (cM g1) (jK _) (fx (by decide)) (h2.g q hq),j7 (cM g1) (jK _) _⟩
  .have hnm:aS s=true:=by
    unfold bv at hv;rw[TW]at hv;exact hv.resolve_left hel
   rw[show lN s=[tn s]from if_neg hel];exact vR (cM hnm) (jK _)
 by_cases c3:o=3
 .subst c3;have hnm:=hname (.inl rfl)
  have hl:l.length=1:=by have:(l.length:Int)=1:=by simpa[cA,dQ]using hop
                         omega
  obtain⟨x,rfl⟩:=List.length_eq_one_iff.1 hl;have hx:=hrt x (by simp);show GT (some (tn s)::some (tm (aa 91))::(pcE x++[some (tm (aa 93))]));refine⟨fun q hq=>jc (cM hnm) (jK _) (fx (by decide)) (dF (by decide) ?_ (cI _ _ q (hx.g _ (fx (by decide))) (dF (by decide) hq.k trivial))),j7 (cM hnm) (jK _) _⟩;rw[b8,TZ];exact hx.h.q _
 by_cases c24:o=24
 .subst c24;have hnm:=hname (.inr rfl);show GT [some (tn mD),some (tm (aa 40)),some (tn s),some (tm (aa 41))];have hsw:aS mD=true:=by decide +kernel
  refine⟨fun q hq=>jc (cM hsw) (jK _) (fx (by decide)) (dF (by decide) ?_ (jc (cM hnm) (jK _) (fx (by decide)) (dF (by decide) hq.k trivial))),j7 (cM hsw) (jK _) _⟩;exact(j7 (cM hnm) (jK _) _).q _
 by_cases c25:o=25
 .subst c25
  have hl:l.length=1:=by have:(l.length:Int)=1:=by simpa[cA,dQ]using hop
                         omega
  obtain⟨x,rfl⟩:=List.length_eq_one_iff.1 hl;have hx:=hrt x (by simp);have how:aS gV=true:=by decide +kernel
  show GT (some (tn gV)::some (tm (aa 40))::(pcE x++[some (tm (aa 41))]));refine⟨fun q hq=>jc (cM how) (jK _) (fx (by decide)) (dF (by decide) ?_ (cI _ _ q (hx.g _ (fx (by decide))) (dF (by decide) hq.k trivial))),j7 (cM how) (jK _) _⟩;rw[b8,TZ];exact hx.h.q _
 by_cases c456:o=4\/o=5\/o=6
 .have hl:l.length=1:=by
   have:(l.length:Int)=1:=by
    rcases c456 with rfl|rfl|rfl<;>simpa[cA,dQ]using hop
   omega
  obtain⟨x,rfl⟩:=List.length_eq_one_iff.1 hl;have hx:=sM 13 (o:=x.op) (hrt x (by simp));rcases c456 with rfl|rfl|rfl
  .exact rB (c:=33) (by decide) hx
  .exact rB (c:=126) (by decide) hx
  .exact rB (c:=45) (by decide) hx
 by_cases c22:o=22
 .subst c22
  have hl:l.length=3:=by have:(l.length:Int)=3:=by simpa[cA,dQ]using hop
                         omega
  match l,hl with
  | [x,y,z],_=>
   exact vn (ew (aa 63) (by simp)) (sM 2 (o:=x.op) (hrt x (by simp))) (vn (ew (aa 58) (by simp)) (sM 1 (o:=y.op) (hrt y (by simp))) (sM 1 (o:=z.op) (hrt z (by simp))))
 by_cases c23:o=23
 .subst c23
  have hl:l.length%2=1/\3≤l.length:=by
   have:(decide (l.length%2=1)&&decide (3≤l.length)&&decide (l.length≤33))=true:=by simpa[cA]using hop
   simp only[TU,decide_eq_true_eq]at this;exact this.1
  match l,hl with
  | x::m,⟨h1,h2⟩=>
   have hx:=sM 9 (o:=x.op) (hrt x (by simp));show GT (iN 9 (x.op,pcE x)++none::some (tw b9)::none::some (tm (aa 123))::none::(ii (vo m)++[none,some (tm (aa 125))]));refine⟨fun q hq=>cI _ _ q (hx.g _ (fx (by decide))) (aI u0 (aI (ew (aa 123) (by simp)) ?_)),hx.h.app _⟩;refine cI _ _ q (yc _ ?_ _ (fx (by decide))) (dF (by decide) hq.k trivial);intro a ha;rw[yM]at ha;obtain⟨b,hb,rfl⟩:=List.mem_map.1 ha;exact hrt b (by simp[hb])
 have hl:l.length=2:=by
  have:(l.length:Int)=2:=by
   have h1:(l.length:Int)=dQ o:=by unfold cA at hop;rw[if_neg c23]at hop;exact of_decide_eq_true hop
   rw[h1];unfold dQ;rw[if_neg (by omega),if_neg (by omega),if_neg c22,if_neg c23,if_neg (by omega)]
  omega
 match l,hl with
 | [x,y],_=>
  obtain⟨k,hk⟩:=TX (show 0≤o by omega);have hb:=wL k (by omega) (by omega);rw[<-hk]at hb;obtain⟨⟨m,p⟩,hp⟩:=Option.isSome_iff_exists.1 hb;show GT (lV o n s [(x.op,pcE x),(y.op,pcE y)]);unfold lV;rw[hp];exact vn (za _ (ku hp)) (sM _ (o:=x.op) (hrt x (by simp))) (sM _ (o:=y.op) (hrt y (by simp)))
theorem AL{e:Ex}(h:dj e=0):par .W (aW e)=.ok e []:=by
 have:=(MH e h).at_ 1 (by omega) (by omega) [] (xt 1);rw[tk1,T9]at this;exact this
end Go.Proofs.YtnhphlmblenapaaGreatDoor
