import Derived.Test.YthekkgfmagliiaaGreatDoorPt
set_option linter.unusedVariables false
set_option linter.unusedSimpArgs false
set_option linter.unusedSectionVars false
open Bool renaming and_eq_true->RS
open List renaming cons_append->RU,append_assoc->RW,eq_nil_of_length_eq_zero->RX,nil_append->RY,length_cons->RZ,map_cons->R0,take_of_length_le->R5,map->R6
open Nat renaming le_refl->R7,zero_le->R8
open Option renaming map_some->R9,map_none->Sa
namespace Go.Proofs.YthekkgfmagliiaaGreatDoor
open Go.RowKit
theorem jS{o:Int}{m:ByteArray}{l:Nat}(h:io o=some (m,l)):(m,o,l)∈cf:=by
 unfold io at h;obtain⟨b,hb,e⟩:=Option.map_eq_some_iff.1 h;have h1:=List.mem_of_find?_eq_some hb;have h2:=List.find?_some hb;simp only[decide_eq_true_eq]at h2;cases e;subst h2;exact h1
theorem uO:∀b,b∈cf->2≤b.2.2/\b.2.2≤12/\(b.2.2=2->b.2.1=21/\b.1=aE 61 62)/\7≤b.2.1/\b.2.1≤21:=by decide +kernel
theorem J7(o:Int):1≤lx o/\lx o≤14:=by
 unfold lx;split
 .rename_i m l h;have:=uO _ (jS h);simp only at this;omega
 .repeat' split
  all_goals omega
theorem vW:∀o:Nat,o≤21->7≤o->(io (o:Int)).isSome=true:=by decide +kernel
theorem B3{s:ByteArray}(h:s.toList=[]):s=⟨#[]⟩:=by
 rw[ByteArray.toList_eq]at h;cases s with
 | mk d=>
  have:d = #[]:=by
   apply Array.toList_inj.1;simpa using h
  rw[this]
theorem mU{o n:Int}{s:ByteArray}{k:Nat}(h:aF o n s k=0):
 1≤o/\o≤25/\(o=1->0≤n/\n≤65535)/\ci o k=true/\(o=2->fO s=true)/\(o=3\/o=24->bt s=true)/\(¬o=1->n=0)/\(dN o=false->s=⟨#[]⟩):=by
 unfold aF at h;split at h
 .cases h
 .split at h
  .cases h
  .split at h
   .cases h
   .split at h
    .cases h
    .rename_i h1 h2 h3 h4;refine⟨by omega,by omega,fun e=>by omega,?_,fun e=>?_,fun e=>?_,fun e=>by omega,fun e=>?_⟩
     .cases ho:ci o k with
      | true=>rfl
      | false=>exact absurd (.inr ho) h3
     .cases hv:fO s with
      | true=>rfl
      | false=>exact absurd (.inl ⟨e,hv⟩) h4
     .cases hv:bt s with
      | true=>rfl
      | false=>exact absurd (.inr ⟨e,hv⟩) h4
     .refine B3 (Decidable.byContradiction fun hs=>h3 (.inl ⟨e,hs⟩))
theorem Gj{l:List Ex}(h:kC l=0):∀a,a∈l->dF a=0:=by
 induction l with
 | nil=>intro a ha;cases ha
 | cons b r ih=>
  simp only[kC]at h;split at h
  .rename_i hb;intro a ha;rcases List.mem_cons.1 ha with e|e
   .rw[e];exact hb
   .exact ih h a e
  .rename_i hb;exact absurd h hb
theorem mX{o n:Int}{s:ByteArray}{l:List Ex}(h:dF (.mk o n s l)=0):aF o n s l.length=0/\∀a,a∈l->dF a=0:=by
 simp only[dF]at h;split at h
 .exact⟨by assumption,Gj h⟩
 .rename_i hb;exact absurd h hb
theorem tk1(e:Ex):fK 1 (e.op,bG e)=bG e:=by
 unfold fK;rw[if_neg (by have:=(J7 e.op).1;simp only;omega)]
theorem vtd{n:Int}(h0:0≤n)(h1:n≤65535):bC (td n)=true:=by
 unfold bC td;rw[if_pos rfl];simp only[RS,decide_eq_true_eq,beq_iff_eq];exact⟨⟨h0,by omega⟩,by simp[uT]⟩
theorem vtn{s:ByteArray}(h:bt s=true):bC (tn s)=true:=by
 unfold bC tn;simp[h]
theorem BK{n:Int}(h0:0≤n)(h1:n≤65535)(r:List Tok):ch (td n::r)=some (n,r):=by
 simp only[ch];rw[if_pos ⟨vtd h0 h1,rfl⟩];rfl
theorem nv(s:ByteArray)(r:List Tok):ch (tn s::r)=none:=by
 simp only[ch];rw[if_neg (fun h=>by cases h.2)]
theorem jP{s:ByteArray}(h:bt s=true)(r:List Tok):bA (tn s::r)=some (s,r):=by
 simp only[bA];rw[if_pos ⟨vtn h,rfl⟩];rfl
theorem IZ{a b:ByteArray}(h:a.data.toList=b.data.toList):a=b:=by
 cases a;cases b;simp only at h;rw[Array.toList_inj.1 h]
theorem EM{t:ByteArray}(h:t.size=2):t.data.toList=[t[0]'(by omega),t[1]'(by omega)]:=by
 have hl:t.data.toList.length=2:=by rw[<-Lib.size_eq];exact h
 match hq:t.data.toList,hl with
 | [x,y],_=>
  have h0:=jk t 0 (by omega);have h1:=jk t 1 (by omega);rw[hq]at h0 h1;simp only[List.getElem?_cons_zero,List.getElem?_cons_succ,Option.some.injEq]at h0 h1;rw[<-h0,<-h1]
theorem lS{s:ByteArray}(h:iz s=true):bt (iV s 91)=true/\0≤dU s/\dU s≤7/\oC (iV s 91) (dU s)=s:=by
 unfold iz at h;simp only[RS]at h;obtain⟨⟨h1,h2⟩,h3⟩:=h;have hi:0≤Lib.indexByte s.data.toList 91:=of_decide_eq_true h1;obtain⟨o,ho⟩:=Int.eq_ofNat_of_zero_le hi;have hne:¬Lib.indexByte s.data.toList 91 = -1:=by omega
 have hA:(iV s 91).data.toList=s.data.toList.take o:=by
  unfold iV;rw[if_neg hne,ho,Lib.extract_eq];simp
 have hB:(kQ s 91).data.toList=s.data.toList.drop (o+1):=by
  unfold kQ;rw[if_neg hne,ho,Lib.extract_eq];have hz:(s.data.toList.drop (o+1)).length≤s.size-(o+1):=by rw[List.length_drop,<-Lib.size_eq];exact R7 _
  first
   | (show List.take (s.size-(o+1)) (s.data.toList.drop (o+1))=_;exact R5 hz)
   | (show List.drop (o+1) (s.data.toList.take s.size)=_;rw[R5 (by rw[<-Lib.size_eq];exact R7 _)])
 have hat:s.data.toList[o]? = some 91:=(Lib.indexByte_some ho).1
 have hz:(kQ s 91).size=2:=by
  refine Decidable.byContradiction fun hn=>?_;rw[oZ hn]at h3;cases h3
 rw[jT hz]at h3;simp only[RS,decide_eq_true_eq]at h3;have ht:=EM hz;generalize (kQ s 91)[0]'(by omega)=x at *;generalize (kQ s 91)[1]'(by omega)=y at *;obtain⟨⟨g1,g2⟩,g3⟩:=h3
 have hy:y=93:=by
  have:y.toNat=(93:UInt8).toNat:=g1;exact UInt8.toNat_inj.1 this
 have hd:dU s=(x.toNat:Int)-48:=by unfold dU;rw[ht];rfl
 refine⟨h2,by omega,by omega,?_⟩;apply IZ;have hol:=(List.getElem?_eq_some_iff.1 hat).1
 have hsplit:s.data.toList=s.data.toList.take o++91::s.data.toList.drop (o+1):=by
  conv=>lhs;rw[<-List.take_append_drop o s.data.toList,List.drop_eq_getElem_cons hol]
  rw[(List.getElem?_eq_some_iff.1 hat).2]
 have hdec:Lib.decDigits (dU s).toNat=[x]:=by
  have e1:(dU s).toNat=x.toNat-48:=by omega
  rw[e1,Lib.decDigits,dif_pos (by omega)];congr 1;apply UInt8.toNat_inj.1;have:=il (x.toNat-48) (by omega);omega
 unfold oC uT aa;simp only[ByteArray.data_append,Array.toList_append,hdec,hA];rw[hsplit]
 conv=>rhs;rw[<-hB,ht,hy]
 rw[List.take_append_of_le_length (by rw[List.length_take];omega),List.take_take,Nat.min_self];simp
theorem wY:∀(m:Nat) (l:List Ex),l.length≤m->(∀a,a∈l->RT a)->l.length%2=0->l≠[]->∀(args:List Ex) (r:List Tok),par (.Ip args) (fp (eJ l)++(tm (aa 125)::r))=.ok (aZ 23 (args++l)) r:=by
 intro m
 induction m with
 | zero=>intro l hl _ _ hne;exact absurd (RX (by omega)) hne
 | succ m ih=>
 intro l hl hrt hev hne args r
 match l,hne with
 | [a],_=>simp at hev
 | [a,b],_=>
  have ha:=(hrt a (by simp)).at_ 1 (by omega) (by omega);have hb:=(hrt b (by simp)).at_ 1 (by omega) (by omega);rw[tk1]at ha hb;have h1:=ha (tm (aE 46 46)::(bG b++(tm (aa 125)::r))) (gb (by simp) 1 _);have h2:=hb (tm (aa 125)::r) (gb (by simp) 1 _);have hp:pk 1=.W:=rfl;rw[hp]at h1 h2;rw[cT];simp only[eJ,fp,RW,RU,aQ,h1,PR.bind,cC (ca (aE 46 46) (by simp)),h2];rw[bJ (t:=tm (aa 125)) (by decide +kernel),cC (ca (aa 125) (by simp))]
 | a::b::c::q,_=>
  have ha:=(hrt a (by simp)).at_ 1 (by omega) (by omega);have hb:=(hrt b (by simp)).at_ 1 (by omega) (by omega);rw[tk1]at ha hb;have h1:=ha (tm (aE 46 46)::(bG b++(tm (aa 44)::(fp (eJ (c::q))++(tm (aa 125)::r))))) (gb (by simp) 1 _);have h2:=hb (tm (aa 44)::(fp (eJ (c::q))++(tm (aa 125)::r))) (gb (by simp) 1 _);have hp:pk 1=.W:=rfl;rw[hp]at h1 h2;have h3:=ih (c::q) (by simp only[RZ]at hl ⊢;omega) (fun x hx=>hrt x (by simp only[List.mem_cons]at hx ⊢;exact .inr (.inr hx))) (by simp only[RZ]at hev ⊢;omega) (by simp) (args++[a,b]) r;have hte:eJ (a::b::c::q)=(a.op,bG a)::(b.op,bG b)::eJ (c::q):=rfl;have hpe:fp (eJ (a::b::c::q))=bG a++tm (aE 46 46)::(bG b++tm (aa 44)::fp (eJ (c::q))):=rfl;rw[cT,hpe]
  simp only[RW,RU,aQ,h1,PR.bind,cC (ca (aE 46 46) (by simp)),h2,cC (ca (aa 44) (by simp)),h3];simp
theorem Lz{o:Int}{x y:Ex}{m:ByteArray}{k:Nat}(hb:io o=some (m,k))(hx:RT x)(hy:RT y):RT (aZ o [x,y]):=by
 have hmem:=jS hb;obtain⟨l2,l12,l21,o7,o21⟩:=uO _ hmem;simp only at l2 l12 l21;have hlev:lx o=k:=by unfold lx;rw[hb]
 have htk:bG (aZ o [x,y])=fK (if k=2 then 3 else k) (x.op,bG x)++tm m::fK (if k=2 then 2 else k+1) (y.op,bG y):=by
  show lk o 0 ⟨#[]⟩ (eJ [x,y])=_;unfold lk;rw[hb];rfl
 by_cases k2:k=2
 .obtain⟨ho,hm⟩:=l21 k2;subst k2;subst hm;rw[if_pos rfl,if_pos rfl]at htk;refine tN 2 hlev (by omega) (by omega) (fun r hr=>?_) (fun e=>by omega) (fun e=>by omega);have h1:=hx.at_ 3 (by omega) (by omega) (tm (aE 61 62)::(fK 2 (y.op,bG y)++r)) (xP hmem _);have h2:=hy.at_ 2 (by omega) (by omega) r hr;have hp3:pk 3=.L 3:=rfl;have hp2:pk 2=.I:=rfl;rw[hp3]at h1;rw[hp2]at h2 ⊢;rw[cT,htk];have hv:=yS _ hmem;simp only[RW,RU,aQ,h1,PR.bind,cC hv,h2];rw[ho]
 .rw[if_neg k2,if_neg k2]at htk
  have hl:∀r,Stop (k+1) r->par (.L k) (bG (aZ o [x,y])++r)=par (.Lp k (aZ o [x,y])) r:=fun r hr=>by
   have h1:=hx.left k (by omega) l12 (tm m::(fK (k+1) (y.op,bG y)++r)) (xP hmem _);have h2:=hy.at_ (k+1) (by omega) (by omega) r hr;have hp:pk (k+1)=.L (k+1):=by unfold pk;rw[if_neg (by omega),if_neg (by omega),if_neg (by omega)]
   rw[hp]at h2;rw[htk,RW,RU,h1,cT];simp only[aQ]
   have hi:(if k=9 then acc bX (tm m::(fK (k+1) (y.op,bG y)++r))else none)=none:=by
    split
    .exact bJ (t:=tm m) ((by decide +kernel:∀b,b∈cf->b.1≠bX) _ hmem)
    .rfl
   have hop:=G2 _ hmem (by simp only;omega) (fK (k+1) (y.op,bG y)++r);simp only at hop;rw[hi,hop];simp only[h2,PR.bind];rfl
  refine tN k hlev (by omega) (by omega) (fun r hr=>?_) (fun e=>by omega) (fun _ _=>hl);have hp:pk k=.L k:=by unfold pk;rw[if_neg (by omega),if_neg (by omega),if_neg (by omega)]
  rw[hp,hl r (hr.mono (Nat.le_succ k))];exact uU hr (by omega) _
theorem AP{o:Int}{m:UInt8}{x:Ex}(h:(o=4/\m=33)\/(o=5/\m=126)\/(o=6/\m=45))(hx:RT x):RT (aZ o [x]):=by
 have hlev:lx o=13:=by rcases h with⟨rfl,rfl⟩|⟨rfl,rfl⟩|⟨rfl,rfl⟩<;>decide +kernel
 have hb:io o=none:=by rcases h with⟨rfl,rfl⟩|⟨rfl,rfl⟩|⟨rfl,rfl⟩<;>decide +kernel
 have htk:bG (aZ o [x])=tm (aa m)::fK 13 (x.op,bG x):=by
  show lk o 0 ⟨#[]⟩ (eJ [x])=_;unfold lk;rw[hb];rcases h with⟨rfl,rfl⟩|⟨rfl,rfl⟩|⟨rfl,rfl⟩<;>rfl
 refine tN 13 hlev (by omega) (by omega) (fun r hr=>?_) (fun e=>by omega) (fun _ e=>by omega);have h2:=hx.at_ 13 (by omega) (by omega) r hr;have hp:pk 13=.L 13:=rfl;rw[hp,u7]at h2;rw[hp,u7,cT,htk];rcases h with⟨rfl,rfl⟩|⟨rfl,rfl⟩|⟨rfl,rfl⟩
 .simp only[RU,aQ,cC (ca (aa 33) (by simp)),h2,PR.bind]
 .simp only[RU,aQ];rw[bJ (t:=tm (aa 126)) (by decide +kernel)];simp only[cC (ca (aa 126) (by simp)),h2,PR.bind]
 .simp only[RU,aQ];rw[bJ (t:=tm (aa 45)) (by decide +kernel),bJ (t:=tm (aa 45)) (by decide +kernel)];simp only[cC (ca (aa 45) (by simp)),h2,PR.bind]
theorem MH{x y z:Ex}(hx:RT x)(hy:RT y)(hz:RT z):RT (aZ 22 [x,y,z]):=by
 have htk:bG (aZ 22 [x,y,z])=fK 2 (x.op,bG x)++tm (aa 63)::(bG y++tm (aa 58)::bG z):=by
  have h1:=tk1 y;have h2:=tk1 z;rw[<-h1,<-h2];rfl
 refine tN 1 (show lx 22=1 by decide +kernel) (by omega) (by omega) (fun r hr=>?_) (fun e=>by omega) (fun e=>by omega);have h1:=hx.at_ 2 (by omega) (by omega) (tm (aa 63)::(bG y++(tm (aa 58)::(bG z++r)))) (LP _);have h2:=hy.at_ 1 (by omega) (by omega) (tm (aa 58)::(bG z++r)) (gb (by simp) 1 _);have h3:=hz.at_ 1 (by omega) (by omega) r hr;rw[tk1]at h2 h3;have hp1:pk 1=.W:=rfl;have hp2:pk 2=.I:=rfl;rw[hp2]at h1;rw[hp1]at h2 h3 ⊢;rw[cT,htk];simp only[RW,RU,aQ,h1,PR.bind,cC (ca (aa 63) (by simp)),h2,cC (ca (aa 58) (by simp)),h3]
theorem D1{x:Ex}{l:List Ex}(hx:RT x)(hl:∀a,a∈l->RT a)(hev:l.length%2=0)(hne:l≠[]):RT (aZ 23 (x::l)):=by
 have htk:bG (aZ 23 (x::l))=fK 9 (x.op,bG x)++tw bX::tm (aa 123)::(fp (eJ l)++[tm (aa 125)]):=rfl
 have hlf:∀r,Stop 10 r->par (.L 9) (bG (aZ 23 (x::l))++r)=par (.Lp 9 (aZ 23 (x::l))) r:=fun r hr=>by
  have h1:=hx.left 9 (by omega) (by omega) (tw bX::tm (aa 123)::(fp (eJ l)++(tm (aa 125)::r))) (vY _);have h2:=wY _ l (R7 _) hl hev hne [x] r
  have h3:par (.In x) (tm (aa 123)::(fp (eJ l)++(tm (aa 125)::r)))=.ok (aZ 23 (x::l)) r:=by
   rw[cT];simp only[aQ,cC (ca (aa 123) (by simp)),h2];rfl
  rw[htk];simp only[RW,RU,RY];rw[h1,cT];simp only[aQ,if_true,ol tl,h3,PR.bind]
 refine tN 9 (show lx 23=9 by decide +kernel) (by omega) (by omega) (fun r hr=>?_) (fun e=>by omega) (fun _ _=>hlf);have hp:pk 9=.L 9:=rfl;rw[hp,hlf r (hr.mono (by omega))];exact uU hr (by omega) _
theorem i7(s:ByteArray)(r:List Tok):acc (aa 33) (tn s::r)=none/\acc (aa 126) (tn s::r)=none/\acc (aa 45) (tn s::r)=none:=⟨lA _ _ _,lA _ _ _,lA _ _ _⟩
theorem lr:∀o,o∈[(1:Int),2,3,24,25]->lx o=14/\io o=none:=by decide +kernel
theorem me{e:Ex}{t:Tok}{q:List Tok}(hl:lx e.op=14)(ht:bG e=t::q)(hn:∀r,acc (aa 33) (t::r)=none/\acc (aa 126) (t::r)=none/\acc (aa 45) (t::r)=none)(h:∀r,Stop 14 r->eC par (bG e++r)=.ok e r):RT e:=by
 refine tN 14 hl (by omega) (by omega) (fun r hr=>?_) (fun _ r=>?_) (fun _ e=>by omega)
 .have hp:pk 14=.P:=rfl;rw[hp,cT];simp only[aQ];exact h r hr
 .rw[ht];exact hn _
theorem oP{p:Prop}[Decidable p]{o:Option (List Tok)}(h:o=none):(if p then o else none)=none:=by rw[h];split<;>rfl
theorem LV(e:Ex):dF e=0->RT e:=by
 induction e using Ex.ind with
 | h o n s l ih=>
 intro he;obtain⟨hnode,hargs⟩:=mX he;obtain⟨o1,o25,hc,hop,hvar,hname,hn0,hs0⟩:=mU hnode;have hrt:∀a,a∈l->RT a:=fun a ha=>ih a ha (hargs a ha);have e1:acc (aa 40)=acc (aa 40):=rfl;by_cases c1:o=1
 .subst c1;have hl:l=[]:=RX (by simpa[ci,cX]using hop);have hs:s=⟨#[]⟩:=hs0 (by decide);subst hl;subst hs;obtain⟨h0,h1⟩:=hc rfl;refine me (t:=td n) (q:=[]) (lr 1 (by simp)).1 rfl (fun r=>⟨qM _ _ _,qM _ _ _,qM _ _ _⟩) fun r hr=>?_;have ht:bG (.mk 1 n ⟨#[]⟩ [])=[td n]:=rfl;rw[ht];unfold eC;simp only[RU,RY,qM,BK h0 h1];rw[if_neg (by omega)]
 have hn:n=0:=hn0 c1;subst hn;by_cases c2:o=2
 .subst c2;have hl:l=[]:=RX (by simpa[ci,cX]using hop);subst hl;have hv:=hvar rfl;have ht:bG (.mk 2 0 s [])=mB s:=rfl;by_cases hel:iz s=true
  .obtain⟨g1,g2,g3,g4⟩:=lS hel;have ht2:mB s=[tn (iV s 91),tm (aa 64),td (dU s)]:=if_pos hel;refine me (lr 2 (by simp)).1 (ht.trans ht2) (fun r=>i7 _ _) fun r hr=>?_;rw[ht,ht2];unfold eC;simp only[RU,RY,lA,nv,jP g1];rw[oP (bJ (t:=tm (aa 64)) (by decide +kernel)),oP (bJ (t:=tm (aa 64)) (by decide +kernel)),bJ (t:=tm (aa 64)) (by decide +kernel)];simp only[cC (ca (aa 64) (by simp)),BK g2 (by omega)];rw[if_neg (by omega),g4]
  .have hnm:bt s=true:=by
    unfold fO at hv;rw[Bool.or_eq_true]at hv;exact hv.resolve_left hel
   have ht2:mB s=[tn s]:=if_neg hel;refine me (lr 2 (by simp)).1 (ht.trans ht2) (fun r=>i7 _ _) fun r hr=>?_;rw[ht,ht2];unfold eC;simp only[RU,RY,lA,nv,jP hnm];rw[oP hr.p,oP hr.p];simp only[hr.b,hr.a]
 by_cases c3:o=3
 .subst c3;have hnm:=hname (.inl rfl)
  have hl:l.length=1:=by have:(l.length:Int)=1:=by simpa[ci,cX]using hop
                         omega
  obtain⟨x,rfl⟩:=List.length_eq_one_iff.1 hl;have hx:=(hrt x (by simp)).at_ 1 (by omega) (by omega);rw[tk1]at hx;have ht:bG (.mk 3 0 s [x])=tn s::tm (aa 91)::(bG x++[tm (aa 93)]):=rfl;refine me (lr 3 (by simp)).1 ht (fun r=>i7 _ _) fun r hr=>?_;have h1:=hx (tm (aa 93)::r) (gb (by simp) 1 _);have hp:pk 1=.W:=rfl;rw[hp]at h1;rw[ht];unfold eC;simp only[RU,RW,RY,lA,nv,jP hnm];rw[oP (bJ (t:=tm (aa 91)) (by decide +kernel)),oP (bJ (t:=tm (aa 91)) (by decide +kernel))];simp only[cC (ca (aa 91) (by simp)),h1,PR.bind,cC (ca (aa 93) (by simp))]
 by_cases c24:o=24
 .subst c24;have hnm:=hname (.inr rfl);have hl:l=[]:=RX (by simpa[ci,cX]using hop);subst hl;have ht:bG (.mk 24 0 s [])=[tn kg,tm (aa 40),tn s,tm (aa 41)]:=rfl;have hsw:bt kg=true:=by decide +kernel
  refine me (lr 24 (by simp)).1 ht (fun r=>i7 _ _) fun r hr=>?_;rw[ht];unfold eC;simp only[RU,RY,lA,nv,jP hsw,if_true,cC (ca (aa 40) (by simp)),jP hnm,cC (ca (aa 41) (by simp))]
 have hs:s=⟨#[]⟩:=hs0 (by unfold dN;simp[c2,c3,c24]);subst hs;by_cases c25:o=25
 .subst c25
  have hl:l.length=1:=by have:(l.length:Int)=1:=by simpa[ci,cX]using hop
                         omega
  obtain⟨x,rfl⟩:=List.length_eq_one_iff.1 hl;have hx:=(hrt x (by simp)).at_ 1 (by omega) (by omega);rw[tk1]at hx;have ht:bG (.mk 25 0 ⟨#[]⟩ [x])=tn fV::tm (aa 40)::(bG x++[tm (aa 41)]):=rfl;have how:bt fV=true:=by decide +kernel
  refine me (lr 25 (by simp)).1 ht (fun r=>i7 _ _) fun r hr=>?_;have h1:=hx (tm (aa 41)::r) (gb (by simp) 1 _);have hp:pk 1=.W:=rfl;rw[hp]at h1;have hns:¬fV=kg:=by decide +kernel
  rw[ht];unfold eC;simp only[RU,RW,RY,lA,nv,jP how,if_neg hns,if_true,cC (ca (aa 40) (by simp)),h1,PR.bind,cC (ca (aa 41) (by simp))];rfl
 by_cases c456:o=4\/o=5\/o=6
 .have hl:l.length=1:=by
   have:(l.length:Int)=1:=by
    rcases c456 with rfl|rfl|rfl<;>simpa[ci,cX]using hop
   omega
  obtain⟨x,rfl⟩:=List.length_eq_one_iff.1 hl;rcases c456 with rfl|rfl|rfl
  .exact AP (m:=33) (.inl ⟨rfl,rfl⟩) (hrt x (by simp))
  .exact AP (m:=126) (.inr (.inl ⟨rfl,rfl⟩)) (hrt x (by simp))
  .exact AP (m:=45) (.inr (.inr ⟨rfl,rfl⟩)) (hrt x (by simp))
 by_cases c22:o=22
 .subst c22
  have hl:l.length=3:=by have:(l.length:Int)=3:=by simpa[ci,cX]using hop
                         omega
  match l,hl with
  | [x,y,z],_=>exact MH (hrt x (by simp)) (hrt y (by simp)) (hrt z (by simp))
 by_cases c23:o=23
 .subst c23
  have hl:l.length%2=1/\3≤l.length:=by
   have:(decide (l.length%2=1)&&decide (3≤l.length)&&decide (l.length≤33))=true:=by simpa[ci]using hop
   simp only[RS,decide_eq_true_eq]at this;exact this.1
  match l,hl with
  | x::q,⟨h1,h2⟩=>
   simp only[RZ]at h1 h2;exact D1 (hrt x (by simp)) (fun a ha=>hrt a (by simp[ha])) (by omega) (fun e=>by rw[e]at h2;simp at h2)
 have hl:l.length=2:=by
  have:(l.length:Int)=2:=by
   have h1:(l.length:Int)=cX o:=by unfold ci at hop;rw[if_neg c23]at hop;exact of_decide_eq_true hop
   rw[h1];unfold cX;rw[if_neg (by omega),if_neg (by omega),if_neg c22,if_neg c23,if_neg (by omega)]
  omega
 match l,hl with
 | [x,y],_=>
  obtain⟨k,hk⟩:=Int.eq_ofNat_of_zero_le (show 0≤o by omega);have hb:=vW k (by omega) (by omega);rw[<-hk]at hb;obtain⟨p,hp⟩:=Option.isSome_iff_exists.1 hb;exact Lz (m:=p.1) (k:=p.2) hp (hrt x (by simp)) (hrt y (by simp))
def PR.mapT(f:Tok->Tok):PR->PR
 | .out=>.out
 | .bad c r=>.bad c (r.map f)
 | .ok e r=>.ok e (r.map f)
structure SameTok(f:Tok->Tok):Prop where
 kind:∀t,(f t).kind=t.kind
 num:∀t,(f t).num=t.num
 text:∀t,(f t).text=t.text
section
variable {f : Tok -> Tok} (hf : SameTok f)
include hf
theorem oX(t:Tok):bC (f t)=bC t:=by unfold bC;rw[hf.kind,hf.num,hf.text]
theorem cu(m:ByteArray)(r:List Tok):acc m (r.map f)=(acc m r).map (R6 f):=by
 cases r with
 | nil=>rfl
 | cons t r=>
  simp only[acc,R0,oX hf,hf.kind,hf.text];split<;>rfl
theorem lZ(r:List Tok):bA (r.map f)=(bA r).map fun p=>(p.1,p.2.map f):=by
 cases r with
 | nil=>rfl
 | cons t r=>
  simp only[bA,R0,oX hf,hf.kind,hf.text];split<;>rfl
theorem nQ(r:List Tok):ch (r.map f)=(ch r).map fun p=>(p.1,p.2.map f):=by
 cases r with
 | nil=>rfl
 | cons t r=>
  simp only[ch,R0,oX hf,hf.kind,hf.num];split<;>rfl
theorem pa(k:Nat)(r:List Tok):∀l,jb l k (r.map f)=(jb l k r).map fun p=>(p.1,p.2.map f)
 | []=>rfl
 | b::l=>by
  simp only[jb,cu hf];split
  .cases acc b.1 r with
   | some r1=>rfl
   | none=>exact pa k r l
  .exact pa k r l
theorem CD(k:Nat)(r:List Tok):eY k (r.map f)=(eY k r).map fun p=>(p.1,p.2.1,p.2.2.map f):=by
 unfold eY;rw[pa hf,cu hf,cu hf];cases jb cf k r with
 | some p=>rfl
 | none=>
  simp only[Sa];split
  .cases acc (aa 62) r with
   | some r1=>rfl
   | none=>
    simp only[Sa];cases acc (aE 62 61) r with
    | some r1=>rfl
    | none=>rfl
  .rfl
theorem fg(r:List Tok):eX (r.map f)=(eX r).mapT f:=by cases r<;>rfl
omit hf in
theorem cV{x:PR}{g h:Ex->List Tok->PR}(hg:∀e r,h e (r.map f)=(g e r).mapT f):(x.mapT f).bind h=(x.bind g).mapT f:=by
 cases x with
 | out=>rfl
 | bad c r=>rfl
 | ok e r=>exact hg e r
theorem Fd{rec:PK->List Tok->PR}(h:∀k r,rec k (r.map f)=(rec k r).mapT f)(r:List Tok):eC rec (r.map f)=(eC rec r).mapT f:=by
 have hif:∀(c:Prop) [Decidable c] (m:ByteArray) (r:List Tok),(if c then acc m (r.map f)else none)=(if c then acc m r else none).map (R6 f):=fun c _ m r=>by split<;>simp[cu hf]
 unfold eC;rw[cu hf,nQ hf,lZ hf];cases acc (aa 40) r with
 | some r1=>
  simp only[R9,h];refine cV fun e r2=>?_;rw[cu hf];cases acc (aa 41) r2 with
  | some r3=>rfl
  | none=>exact fg hf r2
 | none=>
 simp only[Sa];cases ch r with
 | some p=>simp only[R9];split<;>rfl
 | none=>
 simp only[Sa];cases bA r with
 | none=>exact fg hf r
 | some p=>
 obtain⟨s,r1⟩:=p;simp only[R9,hif];cases (if s=kg then acc (aa 40) r1 else none)with
 | some r2=>
  simp only[R9];rw[lZ hf];cases bA r2 with
  | none=>exact fg hf r2
  | some p=>
   obtain⟨a,r3⟩:=p;simp only[R9];rw[cu hf];cases acc (aa 41) r3 with
   | some r4=>rfl
   | none=>exact fg hf r3
 | none=>
 simp only[Sa];cases (if s=fV then acc (aa 40) r1 else none)with
 | some r2=>
  simp only[R9,h];refine cV fun e r3=>?_;rw[cu hf];cases acc (aa 41) r3 with
  | some r4=>rfl
  | none=>exact fg hf r3
 | none=>
 simp only[Sa];rw[cu hf,cu hf];cases acc (aa 91) r1 with
 | some r2=>
  simp only[R9,h];refine cV fun e r3=>?_;rw[cu hf];cases acc (aa 93) r3 with
  | some r4=>rfl
  | none=>exact fg hf r3
 | none=>
 simp only[Sa];cases acc (aa 64) r1 with
 | some r2=>
  simp only[R9];rw[nQ hf];cases ch r2 with
  | none=>exact fg hf r2
  | some p=>simp only[R9];split<;>rfl
 | none=>rfl
theorem EX{rec:PK->List Tok->PR}(h:∀k r,rec k (r.map f)=(rec k r).mapT f)(k:PK)(r:List Tok):aQ rec k (r.map f)=(aQ rec k r).mapT f:=by
 cases k with
 | W=>
  simp only[aQ,h];refine cV fun c r1=>?_;rw[cu hf];cases acc (aa 63) r1 with
  | none=>rfl
  | some r2=>
   simp only[R9,h];refine cV fun a r3=>?_;rw[cu hf];cases acc (aa 58) r3 with
   | none=>exact fg hf r3
   | some r4=>
    simp only[R9,h];exact cV fun b r5=>rfl
 | I=>
  simp only[aQ,h];refine cV fun c r1=>?_;rw[cu hf];cases acc (aE 61 62) r1 with
  | none=>rfl
  | some r2=>
   simp only[R9,h];exact cV fun b r5=>rfl
 | L k=>
  simp only[aQ,h];split
  .rfl
  .exact cV fun a r1=>h _ _
 | Lp k a=>
  simp only[aQ];have hif:(if k=9 then acc bX (r.map f)else none)=(if k=9 then acc bX r else none).map (R6 f):=by split<;>simp[cu hf]
  rw[hif,CD hf];cases (if k=9 then acc bX r else none)with
  | some r1=>
   simp only[R9,h];exact cV fun b r2=>h _ _
  | none=>
   simp only[Sa];cases eY k r with
   | none=>rfl
   | some p=>
    simp only[R9,h];exact cV fun b r2=>h _ _
 | In a=>
  simp only[aQ];rw[cu hf];cases acc (aa 123) r with
  | none=>exact fg hf r
  | some r1=>exact h _ _
 | Ip args=>
  simp only[aQ,h];refine cV fun lo r1=>?_;rw[cu hf];cases acc (aE 46 46) r1 with
  | none=>exact fg hf r1
  | some r2=>
   simp only[R9,h];refine cV fun hi r3=>?_;rw[cu hf,cu hf];cases acc (aa 44) r3 with
   | some r4=>exact h _ _
   | none=>
    simp only[Sa];cases acc (aa 125) r3 with
    | some r5=>rfl
    | none=>exact fg hf r3
 | U=>
  simp only[aQ];rw[cu hf,cu hf,cu hf];cases acc (aa 33) r with
  | some r1=>simp only[R9,h];exact cV fun a r2=>rfl
  | none=>
  simp only[Sa];cases acc (aa 126) r with
  | some r1=>simp only[R9,h];exact cV fun a r2=>rfl
  | none=>
  simp only[Sa];cases acc (aa 45) r with
  | some r1=>simp only[R9,h];exact cV fun a r2=>rfl
  | none=>exact h _ _
 | P=>exact Fd hf h r
theorem wJ:∀(n:Nat) (k:PK) (r:List Tok),gz n k (r.map f)=(gz n k r).mapT f
 | 0,_,_=>rfl
 | n+1,k,r=>EX hf (wJ n) k r
theorem Ba(k:PK)(r:List Tok):par k (r.map f)=(par k r).mapT f:=by
 unfold par;rw[List.length_map];exact wJ hf _ k r
end
def PK.size:PK->Nat
 | .Lp _ a=>aT a
 | .In a=>aT a
 | .Ip l=>ba l
 | _=>0
theorem sk(a b:List Ex):ba (a++b)=ba a+ba b:=by
 induction a with
 | nil=>simp[ba]
 | cons x a ih=>simp only[RU,ba,ih];omega
def Sz(k:Nat)(r:List Tok)(x:PR):Prop:=match x with
 | .ok e r1=>r1.length≤r.length/\aT e≤k+(r.length-r1.length)
 | _=>True
theorem eR{k k2:Nat}{r:List Tok}{x:PR}{f:Ex->List Tok->PR}(h:Sz k r x)(hf:∀e r1,x=.ok e r1->r1.length≤r.length->aT e≤k+(r.length-r1.length)->Sz k2 r (f e r1)):Sz k2 r (x.bind f):=by
 cases x with
 | out=>trivial
 | bad c r=>trivial
 | ok e r1=>exact hf e r1 rfl h.1 h.2
theorem gg{k:Nat}{r r1:List Tok}:Sz k r (eX r1):=by cases r1<;>trivial
theorem Sz.up{k k2:Nat}{r r2:List Tok}{x:PR}(h:Sz k r2 x)(h1:r2.length≤r.length)(h2:k≤k2+(r.length-r2.length)):Sz k2 r x:=by
 cases x with
 | out=>trivial
 | bad c r=>trivial
 | ok e r1=>exact⟨Nat.le_trans h.1 h1,by have:=h.1;have:=h.2;omega⟩
theorem ID{rec:PK->List Tok->PR}(h:∀k r,Sz k.size r (rec k r))(r:List Tok):Sz 0 r (eC rec r):=by
 unfold eC;cases h1:acc (aa 40) r with
 | some r1=>
  have a1:=(ay h1).2;refine eR (k:=0) ((h .W r1).up (by omega) (R8 _)) fun e r2 _ l2 s2=>?_;cases h2:acc (aa 41) r2 with
  | some r3=>have:=(ay h2).2;exact⟨by omega,by omega⟩
  | none=>exact gg
 | none=>
 cases h2:ch r with
 | some p=>
  obtain⟨n,r1⟩:=p;have:=(lj h2).2;simp only;split
  .trivial
  .exact⟨by omega,by simp only[aT,ba];omega⟩
 | none=>
 cases h3:bA r with
 | none=>exact gg
 | some p=>
 obtain⟨s,r1⟩:=p;have n1:=(fq h3).2;simp only;cases h4:(if s=kg then acc (aa 40) r1 else none)with
 | some r2=>
  have a1:r2.length<r1.length:=by
   split at h4
   .exact(ay h4).2
   .cases h4
  simp only;cases h5:bA r2 with
  | none=>exact gg
  | some p=>
   obtain⟨a,r3⟩:=p;have n2:=(fq h5).2;simp only;cases h6:acc (aa 41) r3 with
   | some r4=>have:=(ay h6).2;exact⟨by omega,by simp only[aT,ba];omega⟩
   | none=>exact gg
 | none=>
 simp only;cases h5:(if s=fV then acc (aa 40) r1 else none)with
 | some r2=>
  have a1:r2.length<r1.length:=by
   split at h5
   .exact(ay h5).2
   .cases h5
  refine eR (k:=0) ((h .W r2).up (by omega) (R8 _)) fun e r3 e3 l3 s3=>?_;have hh:=h .W r2;rw[e3]at hh;have:=hh.2;have:=hh.1;cases h6:acc (aa 41) r3 with
  | some r4=>have:=(ay h6).2;exact⟨by omega,by simp only[aZ,aT,ba,PK.size]at *;omega⟩
  | none=>exact gg
 | none=>
 simp only;cases h6:acc (aa 91) r1 with
 | some r2=>
  have a1:=(ay h6).2;refine eR (k:=0) ((h .W r2).up (by omega) (R8 _)) fun e r3 e3 l3 s3=>?_;have hh:=h .W r2;rw[e3]at hh;have:=hh.2;have:=hh.1;cases h7:acc (aa 93) r3 with
  | some r4=>have:=(ay h7).2;exact⟨by omega,by simp only[aT,ba,PK.size]at *;omega⟩
  | none=>exact gg
 | none=>
 simp only;cases h7:acc (aa 64) r1 with
 | some r2=>
  have a1:=(ay h7).2;simp only;cases h8:ch r2 with
  | none=>exact gg
  | some p=>
   obtain⟨n,r3⟩:=p;have:=(lj h8).2;simp only;split
   .trivial
   .exact⟨by omega,by simp only[aT,ba];omega⟩
 | none=>exact⟨by omega,by simp only[aT,ba];omega⟩
theorem Kh{rec:PK->List Tok->PR}(h:∀k r,Sz k.size r (rec k r))(k:PK)(r:List Tok):Sz k.size r (aQ rec k r):=by
 cases k with
 | W=>
  simp only[aQ];refine eR (h .I r) fun c r1 _ l1 s1=>?_;simp only[PK.size]at *;cases h1:acc (aa 63) r1 with
  | none=>exact⟨l1,s1⟩
  | some r2=>
   have a1:=(ay h1).2;refine eR (k:=0) ((h .W r2).up (by omega) (by simp only[PK.size];omega)) fun a r3 e3 l3 s3=>?_;have hh:=h .W r2;rw[e3]at hh;obtain⟨b1,b2⟩:=hh;simp only[PK.size]at b2;cases h2:acc (aa 58) r3 with
   | none=>exact gg
   | some r4=>
    have a2:=(ay h2).2;refine eR (k:=0) ((h .W r4).up (by omega) (by simp only[PK.size];omega)) fun b r5 e5 l5 s5=>?_;have hh:=h .W r4;rw[e5]at hh;obtain⟨d1,d2⟩:=hh;simp only[PK.size]at d2;exact⟨by omega,by simp only[aZ,aT,ba];omega⟩
 | I=>
  simp only[aQ];refine eR (h (.L 3) r) fun c r1 _ l1 s1=>?_;simp only[PK.size]at *;cases h1:acc (aE 61 62) r1 with
  | none=>exact⟨l1,s1⟩
  | some r2=>
   have a1:=(ay h1).2;refine eR (k:=0) ((h .I r2).up (by omega) (by simp only[PK.size];omega)) fun a r3 e3 l3 s3=>?_;have hh:=h .I r2;rw[e3]at hh;obtain⟨b1,b2⟩:=hh;simp only[PK.size]at b2;exact⟨by omega,by simp only[aZ,aT,ba];omega⟩
 | L k=>
  simp only[aQ];split
  .exact h .U r
  .refine eR (h (.L (k+1)) r) fun c r1 _ l1 s1=>?_;exact(h (.Lp k c) r1).up l1 (by simp only[PK.size]at *;omega)
 | Lp k a=>
  simp only[aQ];cases h1:(if k=9 then acc bX r else none)with
  | some r1=>
   have a1:r1.length<r.length:=by
    split at h1
    .exact(ay h1).2
    .cases h1
   refine eR (k:=aT a) ((h (.In a) r1).up (by omega) (by simp only[PK.size];omega)) fun c r2 _ l2 s2=>?_;exact(h (.Lp k c) r2).up l2 (by simp only[PK.size]at *;omega)
  | none=>
   simp only;cases h2:eY k r with
   | none=>exact⟨R7 _,by simp only[PK.size];omega⟩
   | some p=>
    obtain⟨o,ex,r1⟩:=p;have a1:=(om h2).2;refine eR (k:=0) ((h (.L (k+1)) r1).up (by omega) (by simp only[PK.size];omega)) fun c r2 e2 l2 s2=>?_;have hh:=h (.L (k+1)) r1;rw[e2]at hh;obtain⟨b1,b2⟩:=hh;simp only[PK.size]at b2;refine(h (.Lp k _) r2).up l2 ?_;simp only[PK.size];split<;>(simp only[aZ,aT,ba];omega)
 | In a=>
  simp only[aQ];cases h1:acc (aa 123) r with
  | none=>exact gg
  | some r1=>
   have a1:=(ay h1).2;exact(h (.Ip [a]) r1).up (by omega) (by simp only[PK.size,ba];omega)
 | Ip args=>
  simp only[aQ];refine eR (k:=0) ((h .W r).up (R7 _) (by simp only[PK.size];omega)) fun lo r1 _ l1 s1=>?_;cases h1:acc (aE 46 46) r1 with
  | none=>exact gg
  | some r2=>
   have a1:=(ay h1).2;refine eR (k:=0) ((h .W r2).up (by omega) (by simp only[PK.size];omega)) fun hi r3 e3 l3 s3=>?_;have hh:=h .W r2;rw[e3]at hh;obtain⟨b1,b2⟩:=hh;simp only[PK.size]at b2;cases h2:acc (aa 44) r3 with
   | some r4=>
    have a2:=(ay h2).2;exact(h (.Ip _) r4).up (by omega) (by simp only[PK.size,sk,ba];omega)
   | none=>
    simp only;cases h3:acc (aa 125) r3 with
    | none=>exact gg
    | some r5=>
     have a3:=(ay h3).2;exact⟨by omega,by simp only[PK.size,aZ,aT,sk,ba];omega⟩
 | U=>
  have one:∀{m r1} (o:Int),acc m r=some r1->Sz 0 r ((rec .U r1).bind fun a r2=>.ok (aZ o [a]) r2):=fun{m r1} o h1=>by
   have a1:=(ay h1).2;refine eR (k:=0) ((h .U r1).up (by omega) (by simp only[PK.size];omega)) fun a r3 e3 l3 s3=>?_;have hh:=h .U r1;rw[e3]at hh;obtain⟨b1,b2⟩:=hh;simp only[PK.size]at b2;exact⟨by omega,by simp only[aZ,aT,ba];omega⟩
  simp only[aQ];cases h1:acc (aa 33) r with
  | some r1=>exact one 4 h1
  | none=>
  cases h2:acc (aa 126) r with
  | some r1=>exact one 5 h2
  | none=>
  cases h3:acc (aa 45) r with
  | some r1=>exact one 6 h3
  | none=>exact h .P r
 | P=>exact ID h r
theorem uA:∀(n:Nat) (k:PK) (r:List Tok),Sz k.size r (gz n k r)
 | 0,_,_=>trivial
 | n+1,k,r=>Kh (uA n) k r
theorem Gn{r:List Tok}{e:Ex}{r1:List Tok}(h:par .W r=.ok e r1):aT e≤r.length:=by
 have:=uA (40*r.length+20) .W r;unfold par at h;rw[h]at this;have h2:=this.2;simp only[PK.size]at h2;omega
def NB(x:PR):Prop:=match x with
 | .bad c r=>c=6\/((c=3\/c=5)/\r≠[])
 | _=>True
theorem dV{x:PR}{f:Ex->List Tok->PR}(h:NB x)(hf:∀e r,NB (f e r)):NB (x.bind f):=by
 cases x with
 | out=>trivial
 | bad c r=>exact h
 | ok e r=>exact hf e r
theorem gw{r:List Tok}:NB (eX r):=by
 cases r with
 | nil=>exact .inl rfl
 | cons t r=>exact .inr ⟨.inr rfl,by simp⟩
theorem Gq{r r1:List Tok}{n:Int}(h:ch r=some (n,r1)):NB (.bad 3 r):=by
 obtain⟨t,rfl,-⟩:=t6 h;exact .inr ⟨.inl rfl,by simp⟩
theorem Jb{rec:PK->List Tok->PR}(h:∀k r,NB (rec k r))(k:PK)(r:List Tok):NB (aQ rec k r):=by
 cases k with
 | W=>
  simp only[aQ];refine dV (h _ _) fun c r1=>?_;cases acc (aa 63) r1 with
  | none=>trivial
  | some r2=>
   refine dV (h _ _) fun a r3=>?_;cases acc (aa 58) r3 with
   | none=>exact gw
   | some r4=>exact dV (h _ _) fun b r5=>trivial
 | I=>
  simp only[aQ];refine dV (h _ _) fun c r1=>?_;cases acc (aE 61 62) r1 with
  | none=>trivial
  | some r2=>exact dV (h _ _) fun b r5=>trivial
 | L k=>
  simp only[aQ];split
  .exact h _ _
  .exact dV (h _ _) fun _ _=>h _ _
 | Lp k a=>
  simp only[aQ];cases (if k=9 then acc bX r else none)with
  | some r1=>exact dV (h _ _) fun _ _=>h _ _
  | none=>
   simp only;cases eY k r with
   | none=>trivial
   | some p=>exact dV (h _ _) fun _ _=>h _ _
 | In a=>
  simp only[aQ];cases acc (aa 123) r with
  | none=>exact gw
  | some r1=>exact h _ _
 | Ip args=>
  simp only[aQ];refine dV (h _ _) fun lo r1=>?_;cases acc (aE 46 46) r1 with
  | none=>exact gw
  | some r2=>
   refine dV (h _ _) fun hi r3=>?_;cases acc (aa 44) r3 with
   | some r4=>exact h _ _
   | none=>
    simp only;cases acc (aa 125) r3 with
    | some r5=>trivial
    | none=>exact gw
 | U=>
  simp only[aQ];cases acc (aa 33) r with
  | some r1=>exact dV (h _ _) fun _ _=>trivial
  | none=>
  cases acc (aa 126) r with
  | some r1=>exact dV (h _ _) fun _ _=>trivial
  | none=>
  cases acc (aa 45) r with
  | some r1=>exact dV (h _ _) fun _ _=>trivial
  | none=>exact h _ _
 | P=>
  show NB (eC rec r);unfold eC;cases acc (aa 40) r with
  | some r1=>
   refine dV (h _ _) fun e r2=>?_;cases acc (aa 41) r2 with
   | some r3=>trivial
   | none=>exact gw
  | none=>
  cases hn:ch r with
  | some p=>simp only;split<;>first|trivial|exact Gq (n:=p.1) (r1:=p.2) hn
  | none=>
  cases bA r with
  | none=>exact gw
  | some p=>
  obtain⟨s,r1⟩:=p;simp only;cases (if s=kg then acc (aa 40) r1 else none)with
  | some r2=>
   simp only;cases bA r2 with
   | none=>exact gw
   | some p=>
    simp only;cases acc (aa 41) p.2 with
    | some r4=>trivial
    | none=>exact gw
  | none=>
  simp only;cases (if s=fV then acc (aa 40) r1 else none)with
  | some r2=>
   refine dV (h _ _) fun e r3=>?_;cases acc (aa 41) r3 with
   | some r4=>trivial
   | none=>exact gw
  | none=>
  simp only;cases acc (aa 91) r1 with
  | some r2=>
   refine dV (h _ _) fun e r3=>?_;cases acc (aa 93) r3 with
   | some r4=>trivial
   | none=>exact gw
  | none=>
  simp only;cases acc (aa 64) r1 with
  | some r2=>
   simp only;cases hn:ch r2 with
   | none=>exact gw
   | some p=>simp only;split<;>first|trivial|exact Gq (n:=p.1) (r1:=p.2) hn
  | none=>trivial
theorem BW:∀(n:Nat) (k:PK) (r:List Tok),NB (gz n k r)
 | 0,_,_=>trivial
 | n+1,k,r=>Jb (BW n) k r
theorem x7{k:PK}{r r1:List Tok}{c:Int}(h:par k r=.bad c r1):c=6\/((c=3\/c=5)/\r1≠[]):=by
 have h1:=BW (40*r.length+20) k r;unfold par at h;rw[h]at h1;exact h1
theorem qj{k:PK}{r r1:List Tok}{c:Int}(h:par k r=.bad c r1):c≠0/\r1.length≤r.length:=by
 have h1:=x7 h;have h2:=nP k r;rw[h]at h2;exact⟨by omega,h2.length_le⟩
end Go.Proofs.YthekkgfmagliiaaGreatDoor
