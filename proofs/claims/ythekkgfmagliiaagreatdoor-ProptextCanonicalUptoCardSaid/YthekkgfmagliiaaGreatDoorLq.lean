import Derived.Test.YthekkgfmagliiaaGreatDoorPt
set_option linter.unusedVariables false
set_option linter.unusedSimpArgs false
set_option linter.unusedSectionVars false
open Bool renaming and_eq_true->Rs,false_eq_true->Ru,or_eq_true->Rv
open Int renaming eq_ofNat_of_zero_le->Rw
open List renaming cons_append->Rx,append_assoc->Ry,eq_nil_of_length_eq_zero->Rz,nil_append->RA,head?_cons->RB,map_cons->RC,length_cons->RD,getD_eq_getElem?_getD->RE,take_of_length_le->RF,append_nil->RG,mem_cons->RH
namespace Go.Proofs.YthekkgfmagliiaaGreatDoor
open Go.RowKit
theorem jT{o:Int}{m:ByteArray}{l:Nat}(h:gZ o=some (m,l)):(m,o,l)∈ci:=by
 unfold gZ at h;obtain⟨b,hb,e⟩:=Option.map_eq_some_iff.1 h;have h1:=List.mem_of_find?_eq_some hb;have h2:=List.find?_some hb;simp only[decide_eq_true_eq]at h2;cases e;subst h2;exact h1
theorem uD:∀b,b∈ci->2≤b.2.2/\b.2.2≤12/\(b.2.2=2->b.2.1=21/\b.1=aF 61 62)/\7≤b.2.1/\b.2.1≤21:=by decide +kernel
theorem Hu(o:Int):1≤kQ o/\kQ o≤14:=by
 unfold kQ;split
 .rename_i m l h;have:=uD _ (jT h);simp only at this;omega
 .repeat' split
  all_goals omega
theorem t6:∀o:Nat,o≤21->7≤o->(gZ (o:Int)).isSome=true:=by decide +kernel
theorem BL{s:ByteArray}(h:s.toList=[]):s=⟨#[]⟩:=by
 rw[ByteArray.toList_eq]at h;cases s with
 | mk d=>
  have:d = #[]:=by
   apply Array.toList_inj.1;simpa using h
  rw[this]
theorem my{o n:Int}{s:ByteArray}{k:Nat}(h:bK o n s k=0):
 1≤o/\o≤25/\(o=1->0≤n/\n≤65535)/\cP o k=true/\(o=2->gD s=true)/\(o=3\/o=24->cf s=true)/\(¬o=1->n=0)/\(li o=false->s=⟨#[]⟩):=by
 unfold bK at h;split at h
 .cases h
 .split at h
  .cases h
  .split at h
   .cases h
   .split at h
    .cases h
    .rename_i h1 h2 h3 h4;refine⟨by omega,by omega,fun e=>by omega,?_,fun e=>?_,fun e=>?_,fun e=>by omega,fun e=>?_⟩
     .cases ho:cP o k with
      | true=>rfl
      | false=>exact absurd (.inr ho) h3
     .cases hv:gD s with
      | true=>rfl
      | false=>exact absurd (.inl ⟨e,hv⟩) h4
     .cases hv:cf s with
      | true=>rfl
      | false=>exact absurd (.inr ⟨e,hv⟩) h4
     .refine BL (Decidable.byContradiction fun hs=>h3 (.inl ⟨e,hs⟩))
theorem Gh{l:List Ex}(h:lW l=0):∀a,a∈l->dR a=0:=by
 induction l with
 | nil=>intro a ha;cases ha
 | cons b r ih=>
  simp only[lW]at h;split at h
  .rename_i hb;intro a ha;rcases List.mem_cons.1 ha with e|e
   .rw[e];exact hb
   .exact ih h a e
  .rename_i hb;exact absurd h hb
theorem mm{o n:Int}{s:ByteArray}{l:List Ex}(h:dR (.mk o n s l)=0):bK o n s l.length=0/\∀a,a∈l->dR a=0:=by
 simp only[dR]at h;split at h
 .exact⟨by assumption,Gh h⟩
 .rename_i hb;exact absurd h hb
theorem tk1(e:Ex):fG 1 (e.op,bN e)=bN e:=by
 unfold fG;rw[if_neg (by have:=(Hu e.op).1;simp only;omega)]
theorem vtd{n:Int}(h0:0≤n)(h1:n≤65535):bl (td n)=true:=by
 unfold bl td;rw[if_pos rfl];simp only[Rs,decide_eq_true_eq,beq_iff_eq];exact⟨⟨h0,by omega⟩,by simp[uk]⟩
theorem vtn{s:ByteArray}(h:cf s=true):bl (tn s)=true:=by
 unfold bl tn;simp[h]
theorem A4{n:Int}(h0:0≤n)(h1:n≤65535)(r:List Tok):bW (td n::r)=some (n,r):=by
 simp only[bW];rw[if_pos ⟨vtd h0 h1,rfl⟩];rfl
theorem ng(s:ByteArray)(r:List Tok):bW (tn s::r)=none:=by
 simp only[bW];rw[if_neg (fun h=>by cases h.2)]
theorem jN{s:ByteArray}(h:cf s=true)(r:List Tok):bw (tn s::r)=some (s,r):=by
 simp only[bw];rw[if_pos ⟨vtn h,rfl⟩];rfl
theorem IC{a b:ByteArray}(h:a.data.toList=b.data.toList):a=b:=by
 cases a;cases b;simp only at h;rw[Array.toList_inj.1 h]
theorem Fq{t:ByteArray}(h:t.size=2):t.data.toList=[t[0]'(by omega),t[1]'(by omega)]:=by
 have hl:t.data.toList.length=2:=by rw[<-Lib.size_eq];exact h
 match hq:t.data.toList,hl with
 | [x,y],_=>
  have h0:=nj t 0 (by omega);have h1:=nj t 1 (by omega);rw[hq]at h0 h1;simp only[List.getElem?_cons_zero,List.getElem?_cons_succ,Option.some.injEq]at h0 h1;rw[<-h0,<-h1]
theorem lF{s:ByteArray}(h:j0 s=true):cf (j5 s 91)=true/\0≤dY s/\dY s≤7/\od (j5 s 91) (dY s)=s:=by
 unfold j0 at h;simp only[Rs]at h;obtain⟨⟨h1,h2⟩,h3⟩:=h;have hi:0≤Lib.indexByte s.data.toList 91:=of_decide_eq_true h1;obtain⟨o,ho⟩:=Rw hi;have hne:¬Lib.indexByte s.data.toList 91 = -1:=by omega
 have hA:(j5 s 91).data.toList=s.data.toList.take o:=by
  unfold j5;rw[if_neg hne,ho,Lib.extract_eq];simp
 have hB:(mY s 91).data.toList=s.data.toList.drop (o+1):=by
  unfold mY;rw[if_neg hne,ho,Lib.extract_eq];have hz:(s.data.toList.drop (o+1)).length≤s.size-(o+1):=by rw[List.length_drop,<-Lib.size_eq];exact Nat.le_refl _
  first
   | (show List.take (s.size-(o+1)) (s.data.toList.drop (o+1))=_;exact RF hz)
   | (show List.drop (o+1) (s.data.toList.take s.size)=_;rw[RF (by rw[<-Lib.size_eq];exact Nat.le_refl _)])
 have hat:s.data.toList[o]? = some 91:=(Lib.indexByte_some ho).1
 have hz:(mY s 91).size=2:=by
  refine Decidable.byContradiction fun hn=>?_;rw[ti hn]at h3;cases h3
 rw[oD hz]at h3;simp only[Rs,decide_eq_true_eq]at h3;have ht:=Fq hz;generalize (mY s 91)[0]'(by omega)=x at *;generalize (mY s 91)[1]'(by omega)=y at *;obtain⟨⟨g1,g2⟩,g3⟩:=h3
 have hy:y=93:=by
  have:y.toNat=(93:UInt8).toNat:=g1;exact UInt8.toNat_inj.1 this
 have hd:dY s=(x.toNat:Int)-48:=by unfold dY;rw[ht];rfl
 refine⟨h2,by omega,by omega,?_⟩;apply IC;have hol:=(List.getElem?_eq_some_iff.1 hat).1
 have hsplit:s.data.toList=s.data.toList.take o++91::s.data.toList.drop (o+1):=by
  conv=>lhs;rw[<-List.take_append_drop o s.data.toList,List.drop_eq_getElem_cons hol]
  rw[(List.getElem?_eq_some_iff.1 hat).2]
 have hdec:Lib.decDigits (dY s).toNat=[x]:=by
  have e1:(dY s).toNat=x.toNat-48:=by omega
  rw[e1,Lib.decDigits,dif_pos (by omega)];congr 1;apply UInt8.toNat_inj.1;have:=gR (x.toNat-48) (by omega);omega
 unfold od uk aa;simp only[ByteArray.data_append,Array.toList_append,hdec,hA];rw[hsplit]
 conv=>rhs;rw[<-hB,ht,hy]
 rw[List.take_append_of_le_length (by rw[List.length_take];omega),List.take_take,Nat.min_self];simp
theorem vq:∀(m:Nat) (l:List Ex),l.length≤m->(∀a,a∈l->RT a)->l.length%2=0->l≠[]->∀(args:List Ex) (r:List Tok),par (.Ip args) (fk (eF l)++(tm (aa 125)::r))=.ok (aT 23 (args++l)) r:=by
 intro m
 induction m with
 | zero=>intro l hl _ _ hne;exact absurd (Rz (by omega)) hne
 | succ m ih=>
 intro l hl hrt hev hne args r
 match l,hne with
 | [a],_=>simp at hev
 | [a,b],_=>
  have ha:=(hrt a (by simp)).at_ 1 (by omega) (by omega);have hb:=(hrt b (by simp)).at_ 1 (by omega) (by omega);rw[tk1]at ha hb;have h1:=ha (tm (aF 46 46)::(bN b++(tm (aa 125)::r))) (fv (by simp) 1 _);have h2:=hb (tm (aa 125)::r) (fv (by simp) 1 _);have hp:pk 1=.W:=rfl;rw[hp]at h1 h2;rw[c6];simp only[eF,fk,Ry,Rx,aP,h1,PR.bind,cM (ch (aF 46 46) (by simp)),h2];rw[bJ (t:=tm (aa 125)) (by decide +kernel),cM (ch (aa 125) (by simp))]
 | a::b::c::q,_=>
  have ha:=(hrt a (by simp)).at_ 1 (by omega) (by omega);have hb:=(hrt b (by simp)).at_ 1 (by omega) (by omega);rw[tk1]at ha hb;have h1:=ha (tm (aF 46 46)::(bN b++(tm (aa 44)::(fk (eF (c::q))++(tm (aa 125)::r))))) (fv (by simp) 1 _);have h2:=hb (tm (aa 44)::(fk (eF (c::q))++(tm (aa 125)::r))) (fv (by simp) 1 _);have hp:pk 1=.W:=rfl;rw[hp]at h1 h2;have h3:=ih (c::q) (by simp only[RD]at hl ⊢;omega) (fun x hx=>hrt x (by simp only[RH]at hx ⊢;exact .inr (.inr hx))) (by simp only[RD]at hev ⊢;omega) (by simp) (args++[a,b]) r;have hte:eF (a::b::c::q)=(a.op,bN a)::(b.op,bN b)::eF (c::q):=rfl;have hpe:fk (eF (a::b::c::q))=bN a++tm (aF 46 46)::(bN b++tm (aa 44)::fk (eF (c::q))):=rfl;rw[c6,hpe]
  simp only[Ry,Rx,aP,h1,PR.bind,cM (ch (aF 46 46) (by simp)),h2,cM (ch (aa 44) (by simp)),h3];simp
theorem Kt{o:Int}{x y:Ex}{m:ByteArray}{k:Nat}(hb:gZ o=some (m,k))(hx:RT x)(hy:RT y):RT (aT o [x,y]):=by
 have hmem:=jT hb;obtain⟨l2,l12,l21,o7,o21⟩:=uD _ hmem;simp only at l2 l12 l21;have hlev:kQ o=k:=by unfold kQ;rw[hb]
 have htk:bN (aT o [x,y])=fG (if k=2 then 3 else k) (x.op,bN x)++tm m::fG (if k=2 then 2 else k+1) (y.op,bN y):=by
  show lc o 0 ⟨#[]⟩ (eF [x,y])=_;unfold lc;rw[hb];rfl
 by_cases k2:k=2
 .obtain⟨ho,hm⟩:=l21 k2;subst k2;subst hm;rw[if_pos rfl,if_pos rfl]at htk;refine sH 2 hlev (by omega) (by omega) (fun r hr=>?_) (fun e=>by omega) (fun e=>by omega);have h1:=hx.at_ 3 (by omega) (by omega) (tm (aF 61 62)::(fG 2 (y.op,bN y)++r)) (vN hmem _);have h2:=hy.at_ 2 (by omega) (by omega) r hr;have hp3:pk 3=.L 3:=rfl;have hp2:pk 2=.I:=rfl;rw[hp3]at h1;rw[hp2]at h2 ⊢;rw[c6,htk];have hv:=yZ _ hmem;simp only[Ry,Rx,aP,h1,PR.bind,cM hv,h2];rw[ho]
 .rw[if_neg k2,if_neg k2]at htk
  have hl:∀r,Stop (k+1) r->par (.L k) (bN (aT o [x,y])++r)=par (.Lp k (aT o [x,y])) r:=fun r hr=>by
   have h1:=hx.left k (by omega) l12 (tm m::(fG (k+1) (y.op,bN y)++r)) (vN hmem _);have h2:=hy.at_ (k+1) (by omega) (by omega) r hr;have hp:pk (k+1)=.L (k+1):=by unfold pk;rw[if_neg (by omega),if_neg (by omega),if_neg (by omega)]
   rw[hp]at h2;rw[htk,Ry,Rx,h1,c6];simp only[aP]
   have hi:(if k=9 then acc bR (tm m::(fG (k+1) (y.op,bN y)++r))else none)=none:=by
    split
    .exact bJ (t:=tm m) ((by decide +kernel:∀b,b∈ci->b.1≠bR) _ hmem)
    .rfl
   have hop:=Eo _ hmem (by simp only;omega) (fG (k+1) (y.op,bN y)++r);simp only at hop;rw[hi,hop];simp only[h2,PR.bind];rfl
  refine sH k hlev (by omega) (by omega) (fun r hr=>?_) (fun e=>by omega) (fun _ _=>hl);have hp:pk k=.L k:=by unfold pk;rw[if_neg (by omega),if_neg (by omega),if_neg (by omega)]
  rw[hp,hl r (hr.mono (Nat.le_succ k))];exact uZ hr (by omega) _
theorem x4{o:Int}{m:UInt8}{x:Ex}(h:(o=4/\m=33)\/(o=5/\m=126)\/(o=6/\m=45))(hx:RT x):RT (aT o [x]):=by
 have hlev:kQ o=13:=by rcases h with⟨rfl,rfl⟩|⟨rfl,rfl⟩|⟨rfl,rfl⟩<;>decide +kernel
 have hb:gZ o=none:=by rcases h with⟨rfl,rfl⟩|⟨rfl,rfl⟩|⟨rfl,rfl⟩<;>decide +kernel
 have htk:bN (aT o [x])=tm (aa m)::fG 13 (x.op,bN x):=by
  show lc o 0 ⟨#[]⟩ (eF [x])=_;unfold lc;rw[hb];rcases h with⟨rfl,rfl⟩|⟨rfl,rfl⟩|⟨rfl,rfl⟩<;>rfl
 refine sH 13 hlev (by omega) (by omega) (fun r hr=>?_) (fun e=>by omega) (fun _ e=>by omega);have h2:=hx.at_ 13 (by omega) (by omega) r hr;have hp:pk 13=.L 13:=rfl;rw[hp,tO]at h2;rw[hp,tO,c6,htk];rcases h with⟨rfl,rfl⟩|⟨rfl,rfl⟩|⟨rfl,rfl⟩
 .simp only[Rx,aP,cM (ch (aa 33) (by simp)),h2,PR.bind]
 .simp only[Rx,aP];rw[bJ (t:=tm (aa 126)) (by decide +kernel)];simp only[cM (ch (aa 126) (by simp)),h2,PR.bind]
 .simp only[Rx,aP];rw[bJ (t:=tm (aa 45)) (by decide +kernel),bJ (t:=tm (aa 45)) (by decide +kernel)];simp only[cM (ch (aa 45) (by simp)),h2,PR.bind]
theorem ND{x y z:Ex}(hx:RT x)(hy:RT y)(hz:RT z):RT (aT 22 [x,y,z]):=by
 have htk:bN (aT 22 [x,y,z])=fG 2 (x.op,bN x)++tm (aa 63)::(bN y++tm (aa 58)::bN z):=by
  have h1:=tk1 y;have h2:=tk1 z;rw[<-h1,<-h2];rfl
 refine sH 1 (show kQ 22=1 by decide +kernel) (by omega) (by omega) (fun r hr=>?_) (fun e=>by omega) (fun e=>by omega);have h1:=hx.at_ 2 (by omega) (by omega) (tm (aa 63)::(bN y++(tm (aa 58)::(bN z++r)))) (K2 _);have h2:=hy.at_ 1 (by omega) (by omega) (tm (aa 58)::(bN z++r)) (fv (by simp) 1 _);have h3:=hz.at_ 1 (by omega) (by omega) r hr;rw[tk1]at h2 h3;have hp1:pk 1=.W:=rfl;have hp2:pk 2=.I:=rfl;rw[hp2]at h1;rw[hp1]at h2 h3 ⊢;rw[c6,htk];simp only[Ry,Rx,aP,h1,PR.bind,cM (ch (aa 63) (by simp)),h2,cM (ch (aa 58) (by simp)),h3]
theorem Dj{x:Ex}{l:List Ex}(hx:RT x)(hl:∀a,a∈l->RT a)(hev:l.length%2=0)(hne:l≠[]):RT (aT 23 (x::l)):=by
 have htk:bN (aT 23 (x::l))=fG 9 (x.op,bN x)++tw bR::tm (aa 123)::(fk (eF l)++[tm (aa 125)]):=rfl
 have hlf:∀r,Stop 10 r->par (.L 9) (bN (aT 23 (x::l))++r)=par (.Lp 9 (aT 23 (x::l))) r:=fun r hr=>by
  have h1:=hx.left 9 (by omega) (by omega) (tw bR::tm (aa 123)::(fk (eF l)++(tm (aa 125)::r))) (xy _);have h2:=vq _ l (Nat.le_refl _) hl hev hne [x] r
  have h3:par (.In x) (tm (aa 123)::(fk (eF l)++(tm (aa 125)::r)))=.ok (aT 23 (x::l)) r:=by
   rw[c6];simp only[aP,cM (ch (aa 123) (by simp)),h2];rfl
  rw[htk];simp only[Ry,Rx,RA];rw[h1,c6];simp only[aP,if_true,om sD,h3,PR.bind]
 refine sH 9 (show kQ 23=9 by decide +kernel) (by omega) (by omega) (fun r hr=>?_) (fun e=>by omega) (fun _ _=>hlf);have hp:pk 9=.L 9:=rfl;rw[hp,hlf r (hr.mono (by omega))];exact uZ hr (by omega) _
theorem iT(s:ByteArray)(r:List Tok):acc (aa 33) (tn s::r)=none/\acc (aa 126) (tn s::r)=none/\acc (aa 45) (tn s::r)=none:=⟨k5 _ _ _,k5 _ _ _,k5 _ _ _⟩
theorem lh:∀o,o∈[(1:Int),2,3,24,25]->kQ o=14/\gZ o=none:=by decide +kernel
theorem lN{e:Ex}{t:Tok}{q:List Tok}(hl:kQ e.op=14)(ht:bN e=t::q)(hn:∀r,acc (aa 33) (t::r)=none/\acc (aa 126) (t::r)=none/\acc (aa 45) (t::r)=none)(h:∀r,Stop 14 r->dP par (bN e++r)=.ok e r):RT e:=by
 refine sH 14 hl (by omega) (by omega) (fun r hr=>?_) (fun _ r=>?_) (fun _ e=>by omega)
 .have hp:pk 14=.P:=rfl;rw[hp,c6];simp only[aP];exact h r hr
 .rw[ht];exact hn _
theorem oK{p:Prop}[Decidable p]{o:Option (List Tok)}(h:o=none):(if p then o else none)=none:=by rw[h];split<;>rfl
theorem Kx(e:Ex):dR e=0->RT e:=by
 induction e using Ex.ind with
 | h o n s l ih=>
 intro he;obtain⟨hnode,hargs⟩:=mm he;obtain⟨o1,o25,hc,hop,hvar,hname,hn0,hs0⟩:=my hnode;have hrt:∀a,a∈l->RT a:=fun a ha=>ih a ha (hargs a ha);have e1:acc (aa 40)=acc (aa 40):=rfl;by_cases c1:o=1
 .subst c1;have hl:l=[]:=Rz (by simpa[cP,d8]using hop);have hs:s=⟨#[]⟩:=hs0 (by decide);subst hl;subst hs;obtain⟨h0,h1⟩:=hc rfl;refine lN (t:=td n) (q:=[]) (lh 1 (by simp)).1 rfl (fun r=>⟨rc _ _ _,rc _ _ _,rc _ _ _⟩) fun r hr=>?_;have ht:bN (.mk 1 n ⟨#[]⟩ [])=[td n]:=rfl;rw[ht];unfold dP;simp only[Rx,RA,rc,A4 h0 h1];rw[if_neg (by omega)]
 have hn:n=0:=hn0 c1;subst hn;by_cases c2:o=2
 .subst c2;have hl:l=[]:=Rz (by simpa[cP,d8]using hop);subst hl;have hv:=hvar rfl;have ht:bN (.mk 2 0 s [])=lX s:=rfl;by_cases hel:j0 s=true
  .obtain⟨g1,g2,g3,g4⟩:=lF hel;have ht2:lX s=[tn (j5 s 91),tm (aa 64),td (dY s)]:=if_pos hel;refine lN (lh 2 (by simp)).1 (ht.trans ht2) (fun r=>iT _ _) fun r hr=>?_;rw[ht,ht2];unfold dP;simp only[Rx,RA,k5,ng,jN g1];rw[oK (bJ (t:=tm (aa 64)) (by decide +kernel)),oK (bJ (t:=tm (aa 64)) (by decide +kernel)),bJ (t:=tm (aa 64)) (by decide +kernel)];simp only[cM (ch (aa 64) (by simp)),A4 g2 (by omega)];rw[if_neg (by omega),g4]
  .have hnm:cf s=true:=by
    unfold gD at hv;rw[Rv]at hv;exact hv.resolve_left hel
   have ht2:lX s=[tn s]:=if_neg hel;refine lN (lh 2 (by simp)).1 (ht.trans ht2) (fun r=>iT _ _) fun r hr=>?_;rw[ht,ht2];unfold dP;simp only[Rx,RA,k5,ng,jN hnm];rw[oK hr.p,oK hr.p];simp only[hr.b,hr.a]
 by_cases c3:o=3
 .subst c3;have hnm:=hname (.inl rfl)
  have hl:l.length=1:=by have:(l.length:Int)=1:=by simpa[cP,d8]using hop
                         omega
  obtain⟨x,rfl⟩:=List.length_eq_one_iff.1 hl;have hx:=(hrt x (by simp)).at_ 1 (by omega) (by omega);rw[tk1]at hx;have ht:bN (.mk 3 0 s [x])=tn s::tm (aa 91)::(bN x++[tm (aa 93)]):=rfl;refine lN (lh 3 (by simp)).1 ht (fun r=>iT _ _) fun r hr=>?_;have h1:=hx (tm (aa 93)::r) (fv (by simp) 1 _);have hp:pk 1=.W:=rfl;rw[hp]at h1;rw[ht];unfold dP;simp only[Rx,Ry,RA,k5,ng,jN hnm];rw[oK (bJ (t:=tm (aa 91)) (by decide +kernel)),oK (bJ (t:=tm (aa 91)) (by decide +kernel))];simp only[cM (ch (aa 91) (by simp)),h1,PR.bind,cM (ch (aa 93) (by simp))]
 by_cases c24:o=24
 .subst c24;have hnm:=hname (.inr rfl);have hl:l=[]:=Rz (by simpa[cP,d8]using hop);subst hl;have ht:bN (.mk 24 0 s [])=[tn jS,tm (aa 40),tn s,tm (aa 41)]:=rfl;have hsw:cf jS=true:=by decide +kernel
  refine lN (lh 24 (by simp)).1 ht (fun r=>iT _ _) fun r hr=>?_;rw[ht];unfold dP;simp only[Rx,RA,k5,ng,jN hsw,if_true,cM (ch (aa 40) (by simp)),jN hnm,cM (ch (aa 41) (by simp))]
 have hs:s=⟨#[]⟩:=hs0 (by unfold li;simp[c2,c3,c24]);subst hs;by_cases c25:o=25
 .subst c25
  have hl:l.length=1:=by have:(l.length:Int)=1:=by simpa[cP,d8]using hop
                         omega
  obtain⟨x,rfl⟩:=List.length_eq_one_iff.1 hl;have hx:=(hrt x (by simp)).at_ 1 (by omega) (by omega);rw[tk1]at hx;have ht:bN (.mk 25 0 ⟨#[]⟩ [x])=tn fz::tm (aa 40)::(bN x++[tm (aa 41)]):=rfl;have how:cf fz=true:=by decide +kernel
  refine lN (lh 25 (by simp)).1 ht (fun r=>iT _ _) fun r hr=>?_;have h1:=hx (tm (aa 41)::r) (fv (by simp) 1 _);have hp:pk 1=.W:=rfl;rw[hp]at h1;have hns:¬fz=jS:=by decide +kernel
  rw[ht];unfold dP;simp only[Rx,Ry,RA,k5,ng,jN how,if_neg hns,if_true,cM (ch (aa 40) (by simp)),h1,PR.bind,cM (ch (aa 41) (by simp))];rfl
 by_cases c456:o=4\/o=5\/o=6
 .have hl:l.length=1:=by
   have:(l.length:Int)=1:=by
    rcases c456 with rfl|rfl|rfl<;>simpa[cP,d8]using hop
   omega
  obtain⟨x,rfl⟩:=List.length_eq_one_iff.1 hl;rcases c456 with rfl|rfl|rfl
  .exact x4 (m:=33) (.inl ⟨rfl,rfl⟩) (hrt x (by simp))
  .exact x4 (m:=126) (.inr (.inl ⟨rfl,rfl⟩)) (hrt x (by simp))
  .exact x4 (m:=45) (.inr (.inr ⟨rfl,rfl⟩)) (hrt x (by simp))
 by_cases c22:o=22
 .subst c22
  have hl:l.length=3:=by have:(l.length:Int)=3:=by simpa[cP,d8]using hop
                         omega
  match l,hl with
  | [x,y,z],_=>exact ND (hrt x (by simp)) (hrt y (by simp)) (hrt z (by simp))
 by_cases c23:o=23
 .subst c23
  have hl:l.length%2=1/\3≤l.length:=by
   have:(decide (l.length%2=1)&&decide (3≤l.length)&&decide (l.length≤33))=true:=by simpa[cP]using hop
   simp only[Rs,decide_eq_true_eq]at this;exact this.1
  match l,hl with
  | x::q,⟨h1,h2⟩=>
   simp only[RD]at h1 h2;exact Dj (hrt x (by simp)) (fun a ha=>hrt a (by simp[ha])) (by omega) (fun e=>by rw[e]at h2;simp at h2)
 have hl:l.length=2:=by
  have:(l.length:Int)=2:=by
   have h1:(l.length:Int)=d8 o:=by unfold cP at hop;rw[if_neg c23]at hop;exact of_decide_eq_true hop
   rw[h1];unfold d8;rw[if_neg (by omega),if_neg (by omega),if_neg c22,if_neg c23,if_neg (by omega)]
  omega
 match l,hl with
 | [x,y],_=>
  obtain⟨k,hk⟩:=Rw (show 0≤o by omega);have hb:=t6 k (by omega) (by omega);rw[<-hk]at hb;obtain⟨p,hp⟩:=Option.isSome_iff_exists.1 hb;exact Kt (m:=p.1) (k:=p.2) hp (hrt x (by simp)) (hrt y (by simp))
abbrev Pc:=List (Option Tok)
def txt:Pc->Bs
 | []=>[]
 | none::r=>32::txt r
 | some t::r=>t.text.data.toList++txt r
def tks:Pc->List Tok
 | []=>[]
 | none::r=>tks r
 | some t::r=>t::tks r
theorem b6:∀a b:Pc,txt (a++b)=txt a++txt b
 | [],b=>rfl
 | none::r,b=>by simp only[Rx,txt,b6 r b]
 | some t::r,b=>by simp only[Rx,txt,b6 r b,Ry]
theorem dV:∀a b:Pc,tks (a++b)=tks a++tks b
 | [],b=>rfl
 | none::r,b=>by simp only[Rx,tks,dV r b]
 | some t::r,b=>by simp only[Rx,tks,dV r b]
theorem v6:∀l:List Tok,tks (l.map some)=l
 | []=>rfl
 | t::r=>by simp only[RC,tks,v6 r]
structure Fine(t:Tok)(q:Bs):Prop where
 v:bl t=true
 n:t.text.data.toList≠[]
 r:bG (t.text.data.toList++q)=.tok t.kind t.num t.text.data.toList.length
 s:be (t.text.data.toList++q)=t.text.data.toList++q
def good:Pc->Bs->Prop
 | [],_=>True
 | none::r,q=>good r q
 | some t::r,q=>Fine t (txt r++q)/\good r q
theorem cd:∀(a b:Pc) (q:Bs),good a (txt b++q)->good b q->good (a++b) q
 | [],_,_,_,h=>h
 | none::r,b,q,h,h2=>cd r b q h h2
 | some t::r,b,q,h,h2=>⟨by have h1:=h.1;show Fine t (txt (r++b)++q);rw[b6,Ry];exact h1,cd r b q h.2 h2⟩
theorem oc:∀(X:Pc) (N:Int),good X []->dn N (txt X)=.ok ((tks X).map fun t=>⟨t.kind,t.num,t.text,N⟩)/\(txt X).count 10=0
 | [],N,_=>⟨by show dn N []=_;rw[aX,db];rfl,rfl⟩
 | none::r,N,h=>by
  obtain⟨h1,h2⟩:=oc r N h;refine⟨?_,by simp only[txt];rw[List.count_cons_of_ne (by decide)];exact h2⟩;simp only[txt,tks];rw[<-tA,xM (by decide),tA];exact h1
 | some t::r,N,h=>by
  obtain⟨h1,h2⟩:=oc r N h.2;have hf:=h.1;rw[RG]at hf;have h0:=oN hf.v;have h3:(txt (some t::r)).count 10=0:=by simp only[txt];rw[List.count_append,h0,h2]
  refine⟨?_,h3⟩;have hs:=hf.s;have hr:=hf.r;have hn:=hf.n;have htx:=lA t.text;simp only[txt]at h3;simp only[txt,tks,RC];rw[aX,hs];have hlen:(t.text.data.toList++txt r).drop t.text.data.toList.length=txt r:=by simp
  have htk:(t.text.data.toList++txt r).take t.text.data.toList.length=t.text.data.toList:=by simp
  generalize hg:t.text.data.toList++txt r=g at *
  match g,hg with
  | [],hg=>simp at hg;exact absurd hg.1 (by simpa using hn)
  | c::g,hg=>
   simp only[hr];rw[hlen,h1];simp only[Lx.cons,eG,htk,htx,h3];congr 2;congr 1;omega
def Kq(q:Bs):Prop:=∀x,q.head? = some x->x≠61/\x≠62
def Hq(q:Bs):Prop:=∀x,q.head? = some x->inn x=false/\x≠61/\x≠62
theorem Hq.k{q:Bs}(h:Hq q):Kq q:=fun x hx=>(h x hx).2
theorem Lg:Hq []:=fun x h=>by simp at h
theorem cB{c:UInt8}{q:Bs}(h:c∈[(32:UInt8),40,41,91,93,64,44]):Hq (c::q):=by
 intro x hx;simp only[RB,Option.some.injEq]at hx;subst hx;exact(by decide:∀c,c∈[(32:UInt8),40,41,91,93,64,44]->inn c=false/\c≠61/\c≠62) c h
theorem tj{t:Tok}(h:bl t=true)(hk:t.kind≠4){q:Bs}(hq:Hq q):Fine t q:=by
 have hqi:∀x,q.head? = some x->inn x=false:=fun x hx=>(hq x hx).1
 suffices H:t.text.data.toList≠[]/\bG (t.text.data.toList++q)=.tok t.kind t.num t.text.data.toList.length/\be (t.text.data.toList++q)=t.text.data.toList++q from⟨h,H.1,H.2.1,H.2.2⟩
 unfold bl at h;split at h
 .rename_i hk;simp only[Rs,decide_eq_true_eq,beq_iff_eq]at h;obtain⟨⟨h0,h1⟩,h2⟩:=h;obtain⟨c,r,h3,h4,h5⟩:=rN t.num.toNat;have hd:=pP t.num.toNat;have hv:=Bi t.num.toNat;rw[h2,h3]at *;have hin:∀x,x∈c::r->inn x=true:=fun x hx=>by have:=hd x hx;simp[inn,fP,this]
  have htw:=mG hin hqi;have hdc:=hd c (by simp);obtain⟨hb,h47⟩:=iG (.inr hdc);refine⟨by simp,?_,?_⟩
  .rw[Rx]at htw ⊢;simp only[bG,htw,pc hdc,hdc,hv,if_true,Ru,if_false];rw[if_neg,if_neg (by omega)]
   .rw[hk];congr 1;omega
   .rintro(ha|⟨ha,rfl⟩)
    .have:((c::r).all fun x=>da x.toNat)=true:=List.all_eq_true.2 hd;rw[this]at ha;cases ha
    .by_cases h10:t.num.toNat<10
     .rw[h5 h10]at ha;simp at ha
     .exact h4 (by omega) rfl
  .rw[Rx];exact dA hb h47
 .split at h
  .rename_i hk;simp only[Rs,decide_eq_true_eq]at h;obtain⟨h0,h1⟩:=h;simp only[cf,Rs,decide_eq_true_eq,Bool.not_eq_true']at h1;obtain⟨⟨hw,hz⟩,hkw⟩:=h1;unfold gV at hw;have htx:=lA t.text;rw[Lib.size_eq]at hz;generalize hl:t.text.data.toList=l at *
   match l,hw with
   | c::r,hw=>
    simp only[iM,Rs]at hw;have hin:∀x,x∈c::r->inn x=true:=fun x hx=>List.all_eq_true.1 hw.2 x hx;have htw:=mG hin hqi;obtain⟨hb,h47⟩:=iG (.inl hw.1);refine⟨by simp,?_,?_⟩
    .rw[Rx]at htw ⊢;simp only[bG,htw,hw.1,if_true];rw[if_neg (by omega),htx,hkw,hk,h0];rfl
    .rw[Rx];exact dA hb h47
  .split at h
   .rename_i hk;simp only[Rs,decide_eq_true_eq]at h;obtain⟨h0,h1⟩:=h;have hf:=qN _ (uo h1);have htx:=lA t.text;generalize hl:t.text.data.toList=l at *
    match l,hf with
    | c::r,hf=>
     simp only[Rs,decide_eq_true_eq]at hf;obtain⟨⟨hlow,hall⟩,hz⟩:=hf;have hin:∀x,x∈c::r->inn x=true:=fun x hx=>List.all_eq_true.1 hall x hx;have htw:=mG hin hqi;obtain⟨hb,h47⟩:=iG (.inl hlow);refine⟨by simp,?_,?_⟩
     .rw[Rx]at htw ⊢;simp only[bG,htw,hlow,if_true];rw[if_neg (by omega),htx,h1,hk,h0];rfl
     .rw[Rx];exact dA hb h47
   .cases h
def rF:List UInt8:=[40,41,91,93,123,125,64,44,33,126,45]
theorem zH:∀c,c∈rF->[c]∈aC/\ck [c]=1/\bl (tm (aa c))=true/\fh c.toNat=false/\da c.toNat=false/\ip c=false/\c≠47:=by decide +kernel
theorem Dg:∀c,c∈rF->∀n:Nat,n<256->n≠61->n≠62->ck [c,UInt8.ofNat n]=1:=by decide +kernel
theorem BM{c:UInt8}(h:c∈rF){q:Bs}(hq:Kq q):Fine (tm (aa c)) q:=by
 obtain⟨h1,h2,h3,h4,h5,h6,h7⟩:=zH c h
 have hb:ck (c::q)=1:=by
  rw[lI]
  match q,hq with
  | [],_=>exact h2
  | x::q,hq=>
   have hx:=hq x rfl;have hl:x.toNat<256:=x.toNat_lt;have hx1:x.toNat≠61:=fun e=>hx.1 (UInt8.toNat.inj e);have hx2:x.toNat≠62:=fun e=>hx.2 (UInt8.toNat.inj e);have:=Dg c h x.toNat hl hx1 hx2;rw[UInt8.ofNat_toNat]at this;exact this
 refine⟨h3,by simp[tm,aa],?_,dA h6 h7⟩;show bG (c::q)=.tok 4 0 1;simp only[bG,h4,h5,hb];rfl
theorem zz{t:Tok}(h:bl t=true)(q:Bs):Fine t (32::q):=by
 have hb:uY (32::q):=fun x hx=>by simp only[RB,Option.some.injEq]at hx;subst hx;decide
 obtain⟨h1,h2,h3⟩:=mJ h hb;exact⟨h,h1,h2,h3⟩
theorem cK(c:UInt8)(X:Pc):txt (some (tm (aa c))::X)=c::txt X:=rfl
structure Hd(X:Pc):Prop where
 n:txt X≠[]
 k:Kq (txt X)
theorem Hd.q{X:Pc}(h:Hd X)(q:Bs):Kq (txt X++q):=by
 have h1:=h.n;have h2:=h.k;cases e:txt X with
 | nil=>exact absurd e h1
 | cons c r=>rw[e]at h2;exact fun x hx=>h2 x hx
theorem Hd.app{X:Pc}(h:Hd X)(Y:Pc):Hd (X++Y):=by
 refine⟨by rw[b6];simp[h.n],by rw[b6];exact h.q _⟩
theorem ny{c:UInt8}(h:c∈rF)(X:Pc):Hd (some (tm (aa c))::X):=
 ⟨by rw[cK];simp,by
   intro x hx;rw[cK]at hx;simp only[RB,Option.some.injEq]at hx;subst hx;exact(by decide:∀c,c∈rF->c≠61/\c≠62) c h⟩
theorem jm{t:Tok}(h:bl t=true)(hk:t.kind≠4)(X:Pc):Hd (some t::X):=by
 have hf:=tj h hk Lg;have hn:=hf.n;have hr:=hf.r;refine⟨by simp[txt,hn],?_⟩;simp only[txt];cases e:t.text.data.toList with
 | nil=>exact absurd e hn
 | cons c r=>
  rw[e]at hr;intro x hx;simp only[Rx,RB,Option.some.injEq]at hx;subst hx;rw[RG]at hr;simp only[bG]at hr;have hne:∀c:UInt8,c=61\/c=62->fh c.toNat=false/\da c.toNat=false:=by rintro c (rfl|rfl)<;>decide
  have:¬(c=61\/c=62):=by
   intro hc;obtain⟨g1,g2⟩:=hne c hc;simp only[g1,g2,Ru,if_false]at hr;split at hr
   .cases hr
   .injection hr with h1;exact hk h1.symm
  exact⟨fun e=>this (.inl e),fun e=>this (.inr e)⟩
def il(k:Nat)(a:Int×Pc):Pc:=if kQ a.1<k then some (tm (aa 40))::(a.2++[some (tm (aa 41))])else a.2
def gL:List (Int×Pc)->Pc
 | []=>[]
 | [_]=>[]
 | [a,b]=>a.2++none::some (tm (aF 46 46))::none::b.2
 | a::b::c::r=>a.2++none::some (tm (aF 46 46))::none::(b.2++some (tm (aa 44))::none::gL (c::r))
def kV(o n:Int)(s:ByteArray)(xs:List (Int×Pc)):Pc:=match gZ o with
 | some (m,l)=>il (if l=2 then 3 else l) (xs.getD 0 (1,[]))++none::some (tm m)::none::il (if l=2 then 2 else l+1) (xs.getD 1 (1,[]))
 | none=>
  if o=4 then some (tm (aa 33))::il 13 (xs.getD 0 (1,[]))
  else if o=5 then some (tm (aa 126))::il 13 (xs.getD 0 (1,[]))
  else if o=6 then some (tm (aa 45))::il 13 (xs.getD 0 (1,[]))
  else if o=22 then il 2 (xs.getD 0 (1,[]))++none::some (tm (aa 63))::none::(il 1 (xs.getD 1 (1,[]))++none::some (tm (aa 58))::none::il 1 (xs.getD 2 (1,[])))
  else if o=23 then il 9 (xs.getD 0 (1,[]))++none::some (tw bR)::none::some (tm (aa 123))::none::(gL xs.tail++[none,some (tm (aa 125))])
  else if o=1 then[some (td n)]
  else if o=3 then some (tn s)::some (tm (aa 91))::((xs.getD 0 (1,[])).2++[some (tm (aa 93))])
  else if o=24 then[some (tn jS),some (tm (aa 40)),some (tn s),some (tm (aa 41))]
  else if o=25 then some (tn fz)::some (tm (aa 40))::((xs.getD 0 (1,[])).2++[some (tm (aa 41))])
  else(lX s).map some
mutual
def pcE:Ex->Pc
 | .mk o n s l=>kV o n s (ua l)
def ua:List Ex->List (Int×Pc)
 | []=>[]
 | a::r=>(a.op,pcE a)::ua r
end
theorem xk(l:List Ex):ua l=l.map fun a=>(a.op,pcE a):=by
 induction l with
 | nil=>rfl
 | cons a r ih=>simp only[ua,ih,RC]
def br(e:Ex):Bs:=txt (pcE e)
theorem FA(k:Nat)(a:Int×Pc):tks (il k a)=fG k (a.1,tks a.2):=by
 unfold il fG;simp only;split
 .simp only[tks,dV]
 .rfl
theorem sN:∀xs:List (Int×Pc),tks (gL xs)=fk (xs.map fun a=>(a.1,tks a.2))
 | []=>rfl
 | [_]=>rfl
 | [a,b]=>by simp only[gL,RC,List.map_nil,fk,dV,tks]
 | a::b::c::r=>by
  have:=sN (c::r);simp only[gL,dV,tks,this];rfl
theorem Fa(xs:List (Int×Pc))(i:Nat):(xs.map fun a=>(a.1,tks a.2)).getD i (1,[])=((xs.getD i (1,[])).1,tks (xs.getD i (1,[])).2):=by
 rw[RE,RE,List.getElem?_map];cases xs[i]?<;>rfl
theorem Em(o n:Int)(s:ByteArray)(xs:List (Int×Pc)):tks (kV o n s xs)=lc o n s (xs.map fun a=>(a.1,tks a.2)):=by
 unfold kV lc;simp only[Fa];cases gZ o with
 | some p=>simp only[dV,tks,FA]
 | none=>
  simp only;repeat' split
  all_goals simp only[dV,tks,FA,sN,v6,List.map_tail]
theorem Hi(e:Ex):tks (pcE e)=bN e:=by
 induction e using Ex.ind with
 | h o n s l ih=>
 show tks (kV o n s (ua l))=lc o n s (eF l);rw[Em,xk,yo,List.map_map];congr 1;exact List.map_congr_left fun a ha=>by simp only[Function.comp,ih a ha]
theorem bV{c:UInt8}(h:c∈rF){X:Pc}{q:Bs}(hk:Kq (txt X++q))(hX:good X q):good (some (tm (aa c))::X) q:=⟨BM h hk,hX⟩
theorem ce{t:Tok}(h:bl t=true){X:Pc}{q:Bs}(hX:good X q):good (some t::none::X) q:=⟨zz h _,hX⟩
theorem fM{t:Tok}(h:bl t=true)(hk:t.kind≠4){X:Pc}{q:Bs}(hq:Hq (txt X++q))(hX:good X q):good (some t::X) q:=⟨tj h hk hq,hX⟩
structure GT(X:Pc):Prop where
 g:∀q,Hq q->good X q
 h:Hd X
theorem p6{c:UInt8}(h:c∈rF){X:Pc}(hX:GT X):GT (some (tm (aa c))::X):=
 ⟨fun q hq=>bV h (hX.h.q q) (hX.g q hq),ny h _⟩
theorem rD(k:Nat){o:Int}{X:Pc}(hX:GT X):GT (il k (o,X)):=by
 unfold il;simp only;split
 .refine⟨fun q hq=>bV (by decide) ?_ (cd _ _ q (hX.g _ (cB (by decide))) (bV (by decide) ?_ trivial)),ny (by decide) _⟩
  .rw[b6,Ry];exact hX.h.q _
  .exact hq.k
 .exact hX
theorem uF{X Y:Pc}{m:ByteArray}(hm:bl (tm m)=true)(hX:GT X)(hY:GT Y):GT (X++none::some (tm m)::none::Y):=
 ⟨fun q hq=>cd _ _ q (hX.g _ (cB (by decide))) (ce hm (hY.g q hq)),hX.h.app _⟩
theorem wG:∀(l:List (Int×Pc)),(∀a,a∈l->GT a.2)->∀q,Hq q->good (gL l) q
 | [],_,_,_=>trivial
 | [_],_,_,_=>trivial
 | [a,b],h,q,hq=>(uF (ch (aF 46 46) (by simp)) (h a (by simp)) (h b (by simp))).g q hq
 | a::b::c::r,h,q,hq=>by
  have ih:=wG (c::r) (fun x hx=>h x (by simp only[RH]at hx ⊢;exact .inr (.inr hx))) q hq;refine cd _ _ q ((h a (by simp)).g _ (cB (by decide))) (ce (ch (aF 46 46) (by simp)) ?_);refine cd _ _ q ((h b (by simp)).g _ (cB (by decide))) ?_;exact ce (ch (aa 44) (by simp)) ih
theorem eH{s:ByteArray}(h:cf s=true):bl (tn s)=true:=by
 unfold bl tn;simp[h]
theorem na{n:Int}(h0:0≤n)(h1:n≤65535):bl (td n)=true:=by
 unfold bl td uk;simp only[if_true,Rs,decide_eq_true_eq,beq_iff_eq];exact⟨⟨h0,by omega⟩,by simp⟩
theorem kA(s:ByteArray):(tn s).kind≠4:=by show(1:Int)≠4;decide
theorem AK(n:Int):(td n).kind≠4:=by show(3:Int)≠4;decide
theorem uV{t:Tok}(h:bl t=true)(hk:t.kind≠4):GT [some t]:=
 ⟨fun q hq=>fM h hk hq trivial,jm h hk _⟩
theorem KW(e:Ex):dR e=0->GT (pcE e):=by
 induction e using Ex.ind with
 | h o n s l ih=>
 intro he;obtain⟨hnode,hargs⟩:=mm he;obtain⟨o1,o25,hc,hop,hvar,hname,hn0,hs0⟩:=my hnode;have hrt:∀a,a∈l->GT (pcE a):=fun a ha=>ih a ha (hargs a ha);by_cases c1:o=1
 .subst c1;obtain⟨h0,h1⟩:=hc rfl;show GT [some (td n)];exact uV (na h0 h1) (AK _)
 by_cases c2:o=2
 .subst c2;have hv:=hvar rfl;show GT ((lX s).map some);by_cases hel:j0 s=true
  .obtain⟨g1,g2,g3,g4⟩:=lF hel;rw[show lX s=[tn (j5 s 91),tm (aa 64),td (dY s)]from if_pos hel];have h1:=uV (na g2 (by omega)) (AK _);have h2:=p6 (c:=64) (by decide) h1;exact⟨fun q hq=>fM (eH g1) (kA _) (cB (by decide)) (h2.g q hq),jm (eH g1) (kA _) _⟩
  .have hnm:cf s=true:=by
    unfold gD at hv;rw[Rv]at hv;exact hv.resolve_left hel
   rw[show lX s=[tn s]from if_neg hel];exact uV (eH hnm) (kA _)
 by_cases c3:o=3
 .subst c3;have hnm:=hname (.inl rfl)
  have hl:l.length=1:=by have:(l.length:Int)=1:=by simpa[cP,d8]using hop
                         omega
  obtain⟨x,rfl⟩:=List.length_eq_one_iff.1 hl;have hx:=hrt x (by simp);show GT (some (tn s)::some (tm (aa 91))::(pcE x++[some (tm (aa 93))]));refine⟨fun q hq=>fM (eH hnm) (kA _) (cB (by decide)) (bV (by decide) ?_ (cd _ _ q (hx.g _ (cB (by decide))) (bV (by decide) hq.k trivial))),jm (eH hnm) (kA _) _⟩;rw[b6,Ry];exact hx.h.q _
 by_cases c24:o=24
 .subst c24;have hnm:=hname (.inr rfl);show GT [some (tn jS),some (tm (aa 40)),some (tn s),some (tm (aa 41))];have hsw:cf jS=true:=by decide +kernel
  refine⟨fun q hq=>fM (eH hsw) (kA _) (cB (by decide)) (bV (by decide) ?_ (fM (eH hnm) (kA _) (cB (by decide)) (bV (by decide) hq.k trivial))),jm (eH hsw) (kA _) _⟩;exact(jm (eH hnm) (kA _) _).q _
 by_cases c25:o=25
 .subst c25
  have hl:l.length=1:=by have:(l.length:Int)=1:=by simpa[cP,d8]using hop
                         omega
  obtain⟨x,rfl⟩:=List.length_eq_one_iff.1 hl;have hx:=hrt x (by simp);have how:cf fz=true:=by decide +kernel
  show GT (some (tn fz)::some (tm (aa 40))::(pcE x++[some (tm (aa 41))]));refine⟨fun q hq=>fM (eH how) (kA _) (cB (by decide)) (bV (by decide) ?_ (cd _ _ q (hx.g _ (cB (by decide))) (bV (by decide) hq.k trivial))),jm (eH how) (kA _) _⟩;rw[b6,Ry];exact hx.h.q _
 by_cases c456:o=4\/o=5\/o=6
 .have hl:l.length=1:=by
   have:(l.length:Int)=1:=by
    rcases c456 with rfl|rfl|rfl<;>simpa[cP,d8]using hop
   omega
  obtain⟨x,rfl⟩:=List.length_eq_one_iff.1 hl;have hx:=rD 13 (o:=x.op) (hrt x (by simp));rcases c456 with rfl|rfl|rfl
  .exact p6 (c:=33) (by decide) hx
  .exact p6 (c:=126) (by decide) hx
  .exact p6 (c:=45) (by decide) hx
 by_cases c22:o=22
 .subst c22
  have hl:l.length=3:=by have:(l.length:Int)=3:=by simpa[cP,d8]using hop
                         omega
  match l,hl with
  | [x,y,z],_=>
   exact uF (ch (aa 63) (by simp)) (rD 2 (o:=x.op) (hrt x (by simp))) (uF (ch (aa 58) (by simp)) (rD 1 (o:=y.op) (hrt y (by simp))) (rD 1 (o:=z.op) (hrt z (by simp))))
 by_cases c23:o=23
 .subst c23
  have hl:l.length%2=1/\3≤l.length:=by
   have:(decide (l.length%2=1)&&decide (3≤l.length)&&decide (l.length≤33))=true:=by simpa[cP]using hop
   simp only[Rs,decide_eq_true_eq]at this;exact this.1
  match l,hl with
  | x::m,⟨h1,h2⟩=>
   have hx:=rD 9 (o:=x.op) (hrt x (by simp));show GT (il 9 (x.op,pcE x)++none::some (tw bR)::none::some (tm (aa 123))::none::(gL (ua m)++[none,some (tm (aa 125))]));refine⟨fun q hq=>cd _ _ q (hx.g _ (cB (by decide))) (ce sD (ce (ch (aa 123) (by simp)) ?_)),hx.h.app _⟩;refine cd _ _ q (wG _ ?_ _ (cB (by decide))) (bV (by decide) hq.k trivial);intro a ha;rw[xk]at ha;obtain⟨b,hb,rfl⟩:=List.mem_map.1 ha;exact hrt b (by simp[hb])
 have hl:l.length=2:=by
  have:(l.length:Int)=2:=by
   have h1:(l.length:Int)=d8 o:=by unfold cP at hop;rw[if_neg c23]at hop;exact of_decide_eq_true hop
   rw[h1];unfold d8;rw[if_neg (by omega),if_neg (by omega),if_neg c22,if_neg c23,if_neg (by omega)]
  omega
 match l,hl with
 | [x,y],_=>
  obtain⟨k,hk⟩:=Rw (show 0≤o by omega);have hb:=t6 k (by omega) (by omega);rw[<-hk]at hb;obtain⟨⟨m,p⟩,hp⟩:=Option.isSome_iff_exists.1 hb;show GT (kV o n s [(x.op,pcE x),(y.op,pcE y)]);unfold kV;rw[hp];exact uF (yZ _ (jT hp)) (rD _ (o:=x.op) (hrt x (by simp))) (rD _ (o:=y.op) (hrt y (by simp)))
end Go.Proofs.YthekkgfmagliiaaGreatDoor
