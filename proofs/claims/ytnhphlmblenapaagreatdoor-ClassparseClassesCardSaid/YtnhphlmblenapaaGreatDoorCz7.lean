import Derived.Test.YtnhphlmblenapaaGreatDoorRc6
import Derived.Test.YtnhphlmblenapaaGreatDoorCz5
set_option linter.unusedVariables false
set_option linter.unusedSimpArgs false
set_option linter.unusedSectionVars false
set_option maxRecDepth 100000
set_option maxHeartbeats 8000000
open Bool renaming and_eq_true->TJ,true_and->TK
open Int renaming ofNat_lt->TL,reduceEq->TM,toNat_natCast->TN
open List renaming length_map->TO,getElem?_eq_getElem->TP,getElem?_map->TQ,length_drop->TR,take_of_length_le->TS,take_succ_eq_append_getElem->TT,getElem_mem->TU,getElem?_append_right->TV,drop_eq_getElem_cons->TW,map_nil->TX,set_append_right->TY,length_singleton->TZ,length_append->T0,map_cons->T1
open Nat renaming add_sub_cancel_left->T3,zero_le->T4,le_refl->T5
open Option renaming bind_some->T6,map_some->T7
namespace Go.Proofs.YtnhphlmblenapaaGreatDoor
open Go.RowKit
def Ag{α:Type}(ts:List Tok)(x:CP α)(r:OQ α):Prop:=match x with
 | .out=>True
 | .bad e n=>e≠0/\∃v b,r=some (v,(b,n,e))
 | .ok v q=>∃b,b≤ts.length/\q=ts.drop b/\r=some (v,(b,0,0))
def Em{α:Type}(k:PS->OQ α):Prop:=∀s:PS,s.2.2≠0->∃v,k s=some (v,s)
section
variable {α β : Type} {ts : List Tok} {a : Nat}
theorem ny{f:PS->OQ α}(hf:Em f):Ag ts (jc (zLs ts) (ts.drop a)) (f (eN ts (a,0,0))):=by
 have e:eN ts (a,0,0)=(a,lnA ts a,bQ ts a):=if_pos rfl;obtain⟨v,hv⟩:=hf (a,lnA ts a,bQ ts a) (ce ts a);rw[nN,e];exact⟨ce ts a,v,a,hv⟩
theorem F6{x:ByteArray}{q:List Tok}(h:bW (ts.drop a)=some (x,q)):q=ts.drop (a+1)/\a+1≤ts.length:=by
 have hl:=i7 (ts:=ts) (a:=a) (by rw[h];rfl);rw[fM hl]at h;split at h
 .cases h;exact⟨rfl,hl⟩
 .cases h
theorem Ar{x:Int}{q:List Tok}(h:cB (ts.drop a)=some (x,q)):q=ts.drop (a+1)/\a+1≤ts.length:=by
 have hl:=kh (ts:=ts) (a:=a) (by rw[h];rfl);rw[ez hl]at h;split at h
 .cases h;exact⟨rfl,hl⟩
 .cases h
theorem qh{k:ByteArray->List Tok->CP α}{k':ByteArray->PS->OQ α}(h:∀x b,b≤ts.length->Ag ts (k x (ts.drop b)) (k' x (b,0,0)))(he:∀x,Em (k' x)):Ag ts (dK (zLs ts) (ts.drop a) k) (nmM ts (a,0,0) k'):=by
 unfold nmM nmP dK;rw[if_pos rfl];cases hp:bW (ts.drop a)with
 | none=>exact ny (he _)
 | some p=>
  obtain⟨x,q⟩:=p;obtain⟨rfl,hl⟩:=F6 hp;exact h x _ hl
theorem sI{k:Int->List Tok->CP α}{k':Int->PS->OQ α}(h:∀x b,b≤ts.length->Ag ts (k x (ts.drop b)) (k' x (b,0,0)))(he:∀x,Em (k' x)):Ag ts (fT (zLs ts) (ts.drop a) k) (nuM ts (a,0,0) k'):=by
 unfold nuM nuP fT;rw[if_pos rfl];cases hp:cB (ts.drop a)with
 | none=>exact ny (he _)
 | some p=>
  obtain⟨x,q⟩:=p;obtain⟨rfl,hl⟩:=Ar hp;exact h x _ hl
theorem iL{m:ByteArray}:acc m (ts.drop a)=if nxP ts m (a,0,0)=true then some (ts.drop (a+1))else none:=by
 have:nxP ts m (a,0,0)=ax m ts a:=TK _;rw[aT,this]
theorem fu{m:ByteArray}{k:List Tok->CP α}{k':PS->OQ α}(h:∀b,b≤ts.length->Ag ts (k (ts.drop b)) (k' (b,0,0)))(he:Em k'):Ag ts (bR (zLs ts) m (ts.drop a) k) (neM ts m (a,0,0) k'):=by
 unfold neM neP bR;rw[if_pos rfl,aT];by_cases hs:ax m ts a=true
 .rw[if_pos hs,if_pos hs];exact h _ (bv hs)
 .rw[if_neg hs,if_neg hs];exact ny he
theorem kO{m:ByteArray}{k:List Tok->CP α}{n:CP α}{k':PS->OQ α}{n':OQ α}(h:∀b,b≤ts.length->Ag ts (k (ts.drop b)) (k' (b,0,0)))(hn:Ag ts n n'):Ag ts (dF m (ts.drop a) k n) (opM ts m (a,0,0) k' n'):=by
 unfold opM dF;rw[iL];by_cases hs:nxP ts m (a,0,0)=true
 .rw[if_pos hs,if_pos hs];exact h _ (bv (m:=m) (by rw[<-hs];exact(TK _).symm))
 .rw[if_neg hs,if_neg hs];exact hn
theorem Jb(ha:a≤ts.length){k:Ex->List Tok->CP α}{k':Ex->PS->OQ α}(h:∀x b,b≤ts.length->Ag ts (k x (ts.drop b)) (k' x (b,0,0)))(he:∀x,Em (k' x)):Ag ts (exC (zLs ts) (ts.drop a) k) (exM ts (a,0,0) k'):=by
 unfold exM exP exC fO;simp only[if_pos ha,if_true];unfold iP;have htk:=ji .W (ts.drop a);cases hx:par .W (ts.drop a)with
 | out=>trivial
 | bad c r=>
  rw[hx]at htk;have hb3:=rh hx;have hc:=(pO hx).1;simp only;rw[if_neg hc];obtain⟨v,hv⟩:=he z0 (a,lnX ts (a,0,0) ((ts.length-r.length:Nat):Int) c,c) hc
  have e:lnX ts (a,0,0) ((ts.length-r.length:Nat):Int) c=lnR (zLs ts) r:=by
   have hs:=(kX ha htk).1;unfold lnX;by_cases h6:c=6
   .rw[if_pos h6,Dw hx h6];rfl
   .have hr:r≠[]:=hb3.elim (fun h=>absurd h h6) And.right;have hpos:0<r.length:=List.length_pos_iff.2 hr;have hlt:ts.length-r.length<ts.length:=by have:=(kX ha htk).2;have:=(kX ha htk).1;have:=congrArg List.length this;rw[TR]at this;omega
    rw[if_neg h6,if_pos ⟨by omega,by omega,by omega⟩,TN,TP hlt];rw[TW hlt]at hs;exact(congrArg (lnR (zLs ts)) hs).symm
  rw[e]at hv;exact⟨hc,v,a,by rw[e];exact hv⟩
 | ok v r=>
  rw[hx]at htk;obtain⟨h1,h2,h3⟩:=kX ha htk.1;simp only;by_cases h0:bB v=0
  .rw[if_pos h0,if_pos h0];simp only[if_true];rw[h1];have:=h v (ts.length-r.length) h3;rw[<-h1]at this ⊢;rw[TN];exact this
  .rw[if_neg h0,if_neg h0];simp only;rw[if_neg h0];have hcd:=m8 v;obtain⟨w,hw⟩:=he z0 (a,lnX ts (a,0,0) 0 (bB v),bB v) h0
   have e:lnX ts (a,0,0) 0 (bB v)=0:=by
    unfold lnX;rw[if_neg (by omega),if_neg (by omega)]
   rw[e]at hw;exact⟨h0,w,a,by rw[e];exact hw⟩
theorem lq{x:CP β}{p:β×PS}{k:β->List Tok->CP α}{k':β->PS->OQ α}(hx:Ag ts x (some p))(h:∀v b,b≤ts.length->Ag ts (k v (ts.drop b)) (k' v (b,0,0)))(he:∀v,Em (k' v)):Ag ts (x.bind k) (clM p k'):=by
 cases x with
 | out=>trivial
 | bad e n=>
  obtain⟨h0,v,b,hp⟩:=hx;cases hp;obtain⟨w,hw⟩:=he v (b,n,e) h0;exact⟨h0,w,b,hw⟩
 | ok v q=>
  obtain⟨b,hb,rfl,hp⟩:=hx;cases hp;exact h v b hb
theorem mw{x:CP β}{r:OQ β}{k:β->List Tok->CP α}{k':β×PS->OQ α}(hx:Ag ts x r)(h:∀v b,b≤ts.length->Ag ts (k v (ts.drop b)) (k' (v,(b,0,0))))(he:∀v (s:PS),s.2.2≠0->∃w,k' (v,s)=some (w,s)):Ag ts (x.bind k) (r.bind k'):=by
 cases x with
 | out=>trivial
 | bad e n=>
  obtain⟨h0,v,b,rfl⟩:=hx;obtain⟨w,hw⟩:=he v (b,n,e) h0;exact⟨h0,w,b,hw⟩
 | ok v q=>
  obtain⟨b,hb,rfl,rfl⟩:=hx;exact h v b hb
theorem dE{v:α}{b:Nat}(hb:b≤ts.length):Ag ts (.ok v (ts.drop b)) (some (v,(b,0,0))):=⟨b,hb,rfl,rfl⟩
theorem nP{m:ByteArray}{s:PS}{y:PS->α×PS}{n:α×PS}:some (opM ts m s y n)=opM ts m s (fun s=>some (y s)) (some n):=by
 unfold opM;split<;>rfl
end
section
variable {ts : List Tok} {a : Nat} (ha : a ≤ ts.length)
include ha
theorem ER:Ag ts (gH (zLs ts) (ts.drop a)) (some (tgP ts (a,0,0))):=by
 show Ag ts _ (nmM ts (a,0,0) fun x s1=>some (opM ts (aa 91) s1 (fun s2=>nuM ts s2 fun n s3=>neM ts (aa 93) s3 fun s4=>(gX x n,s4)) (x,s1)));refine qh (fun x b hb=>?_) fun x s h=>⟨_,by rw[eK h]⟩
 rw[nP];refine kO (fun b hb=>?_) (dE hb);show Ag ts _ (nuM ts (b,0,0) fun n s3=>neM ts (aa 93) s3 fun s4=>some (gX x n,s4));exact sI (fun n b hb=>fu (fun b hb=>dE hb) fun s h=>⟨_,rfl⟩) fun n s h=>⟨_,by rw[bw h]⟩
theorem Qa(lo:Int):Ag ts (dF (ba 46 46) (ts.drop a) (fun r2=>fT (zLs ts) r2 fun hi r3=>.ok hi r3) (.ok lo (ts.drop a))) (some (hiP ts lo (a,0,0))):=by
 unfold hiP;rw[nP];refine kO (fun b hb=>?_) (dE ha);show Ag ts _ (nuM ts (b,0,0) fun n s3=>some (n,s3));exact sI (fun n b hb=>dE hb) fun n s h=>⟨_,rfl⟩
theorem NJ:Ag ts (dF (ba 58 61) (ts.drop a) (fun r3=>.ok true r3) (bR (zLs ts) (ba 58 47) (ts.drop a) fun r3=>.ok false r3)) (some (eaB ts (a,0,0))):=by
 unfold eaB;rw[nP];refine kO (fun b hb=>dE hb) ?_;show Ag ts _ (neM ts (ba 58 47) (a,0,0) fun s3=>some (false,s3));exact fu (fun b hb=>dE hb) fun s h=>⟨_,rfl⟩
theorem OM:Ag ts (gD (zLs ts) (ts.drop a)) (some (wtP ts (a,0,0))):=by
 show Ag ts _ (nuM ts (a,0,0) fun lo s1=>clM (hiP ts lo s1) fun hi s2=>clM (eaB ts s2) fun b s3=>nuM ts s3 fun w s4=>some ((⟨lo,hi,w,b⟩:Wt),s4))
 exact sI (fun lo b hb=>lq (Qa hb lo) (fun hi b hb=>lq (NJ hb) (fun e b hb=>sI (fun w b hb=>dE hb) fun w s h=>⟨_,rfl⟩) fun e s h=>⟨_,by rw[gI h]⟩)
  fun hi s h=>⟨_,by simp only[clM,vn h,gI h];rfl⟩) fun lo s h=>⟨_,by simp only[clM,EO h,vn h,gI h];rfl⟩
end
section
variable {ts : List Tok}
theorem Fu:∀(n m:Nat) (l:List ByteArray) (a:Nat),n+1≤m->a≤ts.length->Ag ts (gL (fun l r=>(acc (aa 44) r).map fun r2=>(gH (zLs ts) r2).bind fun s r3=>.ok (l++[s]) r3) n l (ts.drop a)) (tgL ts m l (a,0,0))
 | 0,m,_,_,_,_=>trivial
 | n+1,0,_,_,h,_=>by omega
 | n+1,m+1,l,a,h,ha=>by
  unfold gL tgL opM;rw[iL];by_cases hs:nxP ts (aa 44) (a,0,0)=true
  .rw[if_pos hs,if_pos hs];have hl:a+1≤ts.length:=bv (m:=aa 44) (by rw[<-hs];exact(TK _).symm);simp only[T7];rw[bind_assoc];obtain⟨m',rfl⟩:∃m',m=m'+1:=⟨m-1,by omega⟩
   exact lq (ER hl) (fun x b hb=>Fu n (m'+1) (l++[x]) b (by omega) hb) fun x s h=>⟨_,uF h⟩
  .rw[if_neg hs,if_neg hs];exact dE ha
theorem D7{a:Nat}(ha:a≤ts.length):Ag ts (gV (zLs ts) (ts.drop a)) (xB ts (a,0,0)):=by
 unfold gV xB;refine lq (ER ha) (fun x b hb=>?_) fun x s h=>⟨_,uF h⟩
 unfold fQ;exact Fu _ _ _ b (by rw[TR];omega) hb
theorem Dv:∀(m:Nat) (N:List Tok->Nat) (l:List Wt) (a:Nat),(∀b,N (ts.drop b)≤m)->a≤ts.length->Ag ts ((gD (zLs ts) (ts.drop a)).bind fun w r=>gL (fun l r=>(acc (aa 44) r).map fun r2=>(gD (zLs ts) r2).bind fun w r3=>.ok (l++[w]) r3) (N r) (l++[w]) r) (wtL ts (m+1) l (a,0,0))
 | m,N,l,a,h,ha=>by
  unfold wtL;refine lq (OM ha) (fun w b hb=>?_) fun w s h=>⟨_,by rw[eK h]⟩
  have hN:=h b;generalize N (ts.drop b)=n at hN;cases n with
  | zero=>trivial
  | succ n=>
   unfold gL opM;rw[iL];by_cases hs:nxP ts (aa 44) (b,0,0)=true
   .rw[if_pos hs,if_pos hs];have hl:b+1≤ts.length:=bv (m:=aa 44) (by rw[<-hs];exact(TK _).symm);simp only[T7];rw[bind_assoc];obtain⟨m',rfl⟩:∃m',m=m'+1:=⟨m-1,by omega⟩
    exact Dv m' (fun _=>n) (l++[w]) (b+1) (fun _=>by omega) hl
   .rw[if_neg hs,if_neg hs];exact dE hb
theorem Kx{a:Nat}(ha:a≤ts.length):Ag ts (od (zLs ts) (ts.drop a)) (wtL ts (ts.length+2) [] (a,0,0)):=by
 exact Dv (ts.length+1) (fun r=>r.length+1) [] a (fun b=>by rw[TR];omega) ha
theorem KE{a:Nat}(ha:a≤ts.length):Ag ts (mt (zLs ts) (ts.drop a)) (Bv ts (a,0,0)):=by
 unfold mt Bv;refine lq (ER ha) (fun x b hb=>fu (fun b hb=>mw (Kx hb) (fun l b hb=>fu (fun b hb=>fu (fun b hb=>dE hb) fun s h=>⟨_,rfl⟩) fun s h=>⟨_,by rw[bw h]⟩) fun l s h=>⟨_,by rw[bw h,bw h]⟩) fun s h=>?_) fun x s h=>?_
 .obtain⟨v,hv⟩:=Aq h (n:=ts.length+1) (l:=[]);exact⟨_,by rw[hv,T6,bw h,bw h]⟩
 .obtain⟨v,hv⟩:=Aq h (n:=ts.length+1) (l:=[]);exact⟨_,by rw[bw h,hv,T6,bw h,bw h]⟩
theorem M6{a:Nat}(ha:a≤ts.length):Ag ts (iY (zLs ts) (ts.drop a)) (soP ts (a,0,0)):=by
 unfold iY soP;refine mw (D7 ha) (fun l b hb=>fu (fun b hb=>mw (D7 hb) (fun m b hb=>fu (fun b hb=>dE hb) fun s h=>⟨_,rfl⟩) fun m s h=>⟨_,by rw[bw h]⟩) fun s h=>?_) fun l s h=>?_
 .obtain⟨v,hv⟩:=AB h;exact⟨_,by rw[hv,T6,bw h]⟩
 .obtain⟨v,hv⟩:=AB h;exact⟨_,by rw[bw h,hv,T6,bw h]⟩
theorem Jl(k:Int){a:Nat}(ha:a≤ts.length):Ag ts (fj (zLs ts) k (ts.drop a)) (plP ts k (a,0,0)):=by
 unfold fj plP;exact Jb ha (fun e b hb=>fu (fun b hb=>dE hb) fun s h=>⟨_,rfl⟩) fun e s h=>⟨_,by rw[bw h]⟩
def AgR(ts:List Tok)(R:Rec)(Q:RecP):Prop:=(∀a,a≤ts.length->Ag ts (R.item (ts.drop a)) (Q.item (a,0,0)))/\∀l a,a≤ts.length->Ag ts (R.rest l (ts.drop a)) ((Q.rest l (a,0,0)).bind fun p=>neM ts (aa 125) p.2 fun s3=>some (p.1,s3))
theorem Ez{R:Rec}{n:Nat}{a:Nat}(hR:AgR ts R (cI ts (n+1)))(ha:a≤ts.length):Ag ts (ig (zLs ts) R (ts.drop a)) (bdP ts (cI ts (n+1)) (a,0,0)):=by
 unfold ig bdP;exact fu (fun b hb=>hR.2 [] b hb) fun s h=>⟨_,by rw[nQ h,T6,bw h]⟩
theorem Qe{R:Rec}{n:Nat}{a:Nat}(hR:AgR ts R (cI ts (n+1))):Ag ts (ifC (zLs ts) R (ts.drop a)) (ifP ts (cI ts (n+1)) (a,0,0)):=by
 unfold ifC ifP elP;have e1:∀(x:Ex) (p:List It) (s:PS),s.2.2≠0->∃v:It,((opM ts tu s (fun s5=>bdP ts (cI ts (n+1)) s5) (some ([],s))).bind fun q=>some (It.mk 4 x ⟨#[]⟩ ⟨#[]⟩ [] p q.1 [] [],q.2))=some (v,s):=fun x p s h=>⟨_,by rw[eK h,T6]⟩
 have e2:∀(x:Ex) (s:PS),s.2.2≠0->∃v:It,((bdP ts (cI ts (n+1)) s).bind fun p=>(opM ts tu p.2 (fun s5=>bdP ts (cI ts (n+1)) s5) (some ([],p.2))).bind fun q=>some (It.mk 4 x ⟨#[]⟩ ⟨#[]⟩ [] p.1 q.1 [] [],q.2))=some (v,s):=fun x s h=>⟨_,by rw[qr h,T6,eK h,T6]⟩
 refine fu (fun b hb=>Jb hb (fun e b hb=>fu (fun b hb=>mw (Ez hR hb) (fun l b hb=>mw (kO (fun b hb=>Ez hR hb) (dE hb)) (fun m b hb=>dE hb) fun m s h=>⟨_,rfl⟩) fun l s h=>e1 e l s h) fun s h=>e2 e s h) fun e s h=>?_) fun s h=>?_
 .rw[bw h];exact e2 e s h
 .rw[Hn h,bw h];exact e2 z0 s h
theorem IA{R:Rec}{n:Nat}{a:Nat}(hR:AgR ts R (cI ts (n+1))):Ag ts (kY (zLs ts) R (ts.drop a)) (eaP ts (cI ts (n+1)) (a,0,0)):=by
 unfold kY eaP;refine qh (fun i b hb=>fu (fun b hb=>qh (fun x b hb=>mw (Ez hR hb) (fun l b hb=>dE hb) fun l s h=>⟨_,rfl⟩) fun x s h=>⟨_,by rw[qr h,T6]⟩) fun s h=>⟨_,by rw[oa h,qr h,T6]⟩) fun i s h=>⟨_,by rw[bw h,oa h,qr h,T6]⟩
theorem lL{m m':ByteArray}{r r1:List Tok}(h:acc m r=some r1)(hm:m≠m'):acc m' r=none:=by
 cases r with
 | nil=>rfl
 | cons t r=>
  have e:∀m,acc m (t::r)=if bO t=true/\(t.kind=4\/t.kind=2)/\t.text=m then some r else none:=fun _=>rfl
  rw[e]at h ⊢;by_cases c:bO t=true/\(t.kind=4\/t.kind=2)/\t.text=m
  .rw[if_neg fun c'=>hm (c.2.2.symm.trans c'.2.2)]
  .rw[if_neg c]at h;cases h
theorem zt(z:Int)(R:Rec)(r:List Tok):(kJ z R).item r=dF qf r (mt z) (dF ifW r (ifC z R) (dF qx r (kY z R) (dF mQ r (iY z) (dF mo r (fj z 2) (fj z 1 r))))):=by
 show dF mo r (fj z 2) _=_;cases hs:acc mo r with
 | none=>rw[cv hs,cv (m:=mo) hs]
 | some r1=>
  rw[dh hs,cv (lL hs (by decide)),cv (lL hs (by decide)),cv (lL hs (by decide)),cv (lL hs (by decide)),dh hs]
theorem zJ:∀(n m:Nat),n+1≤m->AgR ts (fP (zLs ts) n) (cI ts m)
 | 0,m,_=>⟨fun _ _=>trivial,fun _ _ _=>trivial⟩
 | n+1,0,h=>by omega
 | n+1,m+1,h=>by
  obtain⟨m,rfl⟩:∃m',m=m'+1:=⟨m-1,by omega⟩
  have ih:=zJ n (m+1) (by omega);constructor
  .intro a ha;show Ag ts ((kJ (zLs ts) (fP (zLs ts) n)).item (ts.drop a)) _;rw[zt];exact kO (fun b hb=>KE hb) (kO (fun b hb=>Qe ih) (kO (fun b hb=>IA ih) (kO (fun b hb=>M6 hb) (kO (fun b hb=>Jl 2 hb) (Jl 1 ha)))))
  .intro l a ha;show Ag ts (dF (aa 125) (ts.drop a) (fun r1=>.ok l r1) (((fP (zLs ts) n).item (ts.drop a)).bind fun x r1=>(fP (zLs ts) n).rest (l++[x]) r1)) ((if(0:Int)=0/\nxP ts (aa 125) (a,0,0)=false then((cI ts (m+1)).item (a,0,0)).bind fun p=>(cI ts (m+1)).rest (l++[p.1]) p.2 else some (l,(a,0,0))).bind fun p=>neM ts (aa 125) p.2 fun s3=>some (p.1,s3));unfold dF;rw[iL];cases hs:nxP ts (aa 125) (a,0,0)with
   | true=>
    have hss:ax (aa 125) ts a=true:=by rw[<-hs];exact(TK _).symm
    rw[if_pos rfl,if_neg (by simp)];have e:neP ts (aa 125) (a,0,0)=(a+1,0,0):=by unfold neP;rw[if_pos rfl];simp only;rw[if_pos hss]
    simp only[T6,neM,e];exact dE (bv hss)
   | false=>
    rw[if_neg (by decide),if_pos ⟨rfl,rfl⟩,Option.bind_assoc];exact mw (ih.1 a ha) (fun x b hb=>ih.2 _ b hb) fun x s h=>⟨_,by rw[nQ h,T6,bw h]⟩
theorem Hi{N a:Nat}(hN:2*ts.length+4≤N)(ha:a≤ts.length):Ag ts (ig (zLs ts) (jK (zLs ts)) (ts.drop a)) (bdP ts (cI ts N) (a,0,0)):=by
 obtain⟨n,rfl⟩:∃n,N=n+1:=⟨N-1,by omega⟩
 unfold ig bdP;exact fu (fun b hb=>(zJ (2*(ts.drop b).length+2) (n+1) (by rw[TR];omega)).2 [] b hb) fun s h=>⟨_,by rw[nQ h,T6,bw h]⟩
end
section
variable {ts : List Tok} (H : TsV ts)
include H
theorem Ko{a:Nat}{x:Int}{q:List Tok}(h:cB (ts.drop a)=some (x,q)):0≤x/\x≤2147483647:=by
 have hl:=kh (ts:=ts) (a:=a) (by rw[h];rfl);rw[ez hl]at h;split at h
 .rename_i hk;cases h;have h1:=hk.1;unfold bO at h1;rw[if_pos hk.2,TJ,TJ,decide_eq_true_eq,decide_eq_true_eq]at h1;exact⟨h1.1.1,by omega⟩
 .cases h
theorem Qu{a:Nat}(ha:a≤ts.length):Ag ts (mX (zLs ts) (ts.drop a)) (some (arP ts (a,0,0))):=by
 unfold mX arP;rw[nP];refine kO (fun b hb=>?_) (dE ha);cases hp:cB (ts.drop b)with
 | none=>
  have e:zeP ts (b,0,0)=(b,0,0):=by unfold zeP;rw[if_pos rfl];simp only[hp]
  rw[e];unfold fT nuM nuP;rw[if_pos rfl,hp];exact ny (f:=fun s=>some (neM ts (aa 93) s fun s3=>((0:Int),s3))) fun s h=>⟨_,by dsimp only;rw[bw h]⟩
 | some p=>
  obtain⟨n,q⟩:=p;obtain⟨rfl,hl⟩:=Ar hp;have hn:=Ko H hp;unfold fT;simp only[hp];by_cases h0:n=0
  .subst h0;have e:zeP ts (b,0,0)=eN ts (b,0,0):=by unfold zeP;rw[if_pos rfl];simp only[hp,if_true]
   rw[if_pos (by decide),e];have:=ny (ts:=ts) (a:=b) (f:=fun s=>some (nuM ts s fun n s2=>neM ts (aa 93) s2 fun s3=>(n,s3))) fun s h=>⟨_,by dsimp only;rw[gI h,bw h]⟩
   rw[nN]at this;have e5:bQ ts b=5:=if_pos (by omega);rw[e5]at this;exact this
  .have e:zeP ts (b,0,0)=(b,0,0):=by unfold zeP;rw[if_pos rfl];simp only[hp,if_neg h0]
   rw[if_neg (by omega),e];have e2:nuP ts (b,0,0)=(n,(b+1,0,0)):=by unfold nuP;rw[if_pos rfl,hp]
   unfold nuM;rw[e2];show Ag ts _ (neM ts (aa 93) (b+1,0,0) fun s3=>some (n,s3));exact fu (fun b hb=>dE hb) fun s h=>⟨_,rfl⟩
omit H in
theorem Pn(m:Int){a:Nat}(ha:a≤ts.length):Ag ts (if m=0 then bR (zLs ts) (aa 61) (ts.drop a) fun r5=>fT (zLs ts) r5 fun v r6=>.ok v r6 else .ok 0 (ts.drop a)) (some (inP ts m (a,0,0))):=by
 unfold inP;by_cases h0:m=0
 .rw[if_pos h0,if_pos h0];show Ag ts _ (neM ts (aa 61) (a,0,0) fun s5=>nuM ts s5 fun v s6=>some (v,s6));exact fu (fun b hb=>sI (fun v b hb=>dE hb) fun v s h=>⟨_,rfl⟩) fun s h=>⟨_,by rw[gI h]⟩
 .rw[if_neg h0,if_neg h0];exact dE ha
theorem Ml(m:Int){a:Nat}:Ag ts (fK (zLs ts) m (ts.drop a)) (some (flP ts m (a,0,0))):=by
 show Ag ts _ (nmM ts (a,0,0) fun x s1=>clM (arP ts s1) fun k s2=>neM ts (aa 58) s2 fun s3=>nuM ts s3 fun w s4=>clM (inP ts m s4) fun v s5=>neM ts (aa 59) s5 fun s6=>some ((⟨x,w,k,m,v⟩:Fl),s6))
 refine qh (fun x b hb=>lq (Qu H hb) (fun k b hb=>fu (fun b hb=>sI (fun w b hb=>lq (Pn m hb) (fun v b hb=>fu (fun b hb=>dE hb) fun s h=>⟨_,rfl⟩) fun v s h=>⟨_,by rw[bw h]⟩)
  fun w s h=>⟨_,by simp only[clM,vw h,bw h];rfl⟩) fun s h=>⟨_,by simp only[gI h,clM,vw h,bw h];rfl⟩) fun k s h=>⟨_,by simp only[gI h,clM,vw h,bw h];rfl⟩) fun x s h=>⟨_,by simp only[gI h,clM,Kz h,vw h,bw h];rfl⟩
omit H in
theorem Fi{m:ByteArray}{a:Nat}(h:nxP ts m (a,0,0)=true):a+1≤ts.length:=bv (m:=m) (by rw[<-h];exact(TK _).symm)
theorem FT:∀(n m:Nat) (l:List Fl) (a:Nat),n+1≤m->a≤ts.length->Ag ts (gL (gG (zLs ts)) n l (ts.drop a)) (fsL ts m l (a,0,0))
 | 0,m,_,_,_,_=>trivial
 | n+1,0,_,_,h,_=>by omega
 | n+1,m+1,l,a,h,ha=>by
  obtain⟨m',rfl⟩:∃m',m=m'+1:=⟨m-1,by omega⟩
  have go:∀(k:Int) (b:Nat),b≤ts.length->Ag ts (((fK (zLs ts) k (ts.drop b)).bind fun x q=>.ok (l++[x]) q).bind fun v q=>gL (gG (zLs ts)) n v q) (clM (flP ts k (b,0,0)) fun f s2=>fsL ts (m'+1) (l++[f]) s2):=fun k b hb=>by
   rw[bind_assoc];exact lq (Ml H k) (fun x b hb=>FT n (m'+1) (l++[x]) b (by omega) hb) fun x s h=>⟨_,pT h⟩
  unfold gL fsL opM gG;rw[iL,iL,iL];by_cases h1:nxP ts qA (a,0,0)=true
  .simp only[if_pos h1];exact go 1 _ (Fi h1)
  simp only[if_neg h1];by_cases h2:nxP ts mS (a,0,0)=true
  .simp only[if_pos h2];exact go 2 _ (Fi h2)
  simp only[if_neg h2];by_cases h3:nxP ts mO (a,0,0)=true
  .simp only[if_pos h3];exact go 0 _ (Fi h3)
  simp only[if_neg h3];exact dE ha
theorem OA{a:Nat}(ha:a≤ts.length):Ag ts (iS (zLs ts) (ts.drop a)) (fsL ts (ts.length+2) [] (a,0,0)):=
 FT H _ _ [] a (by rw[TR];omega) ha
omit H in
theorem Ec{N:Nat}(hN:2*ts.length+4≤N):∀(n m:Nat) (l:List (ByteArray×List It)) (a:Nat),n+1≤m->a≤ts.length->Ag ts (gL (fun(l:List (ByteArray×List It)) r=>(acc cR r).map fun r1=>(kU (zLs ts) r1).bind fun b r2=>.ok (l++[b]) r2) n l (ts.drop a)) (blL ts N m l (a,0,0))
 | 0,m,_,_,_,_=>trivial
 | n+1,0,_,_,h,_=>by omega
 | n+1,m+1,l,a,h,ha=>by
  unfold gL blL opM;rw[iL];by_cases hs:nxP ts cR (a,0,0)=true
  .rw[if_pos hs,if_pos hs];simp only[T7];obtain⟨m',rfl⟩:∃m',m=m'+1:=⟨m-1,by omega⟩
   obtain⟨N',rfl⟩:∃m',N=m'+1:=⟨N-1,by omega⟩
   unfold kU;rw[bind_assoc,gj,bind_assoc];refine lq (p:=nmP ts (a+1,0,0)) (k':=fun x s2=>(bdP ts (cI ts (N'+1)) s2).bind fun p=>blL ts (N'+1) (m'+1) (l++[(x,p.1)]) p.2) ?_ (fun x b hb=>?_) fun x s h=>⟨_,by dsimp only;rw[qr h,T6,qa h]⟩
   .exact qh (k':=fun x s=>some (x,s)) (fun x b hb=>dE hb) fun x s h=>⟨_,rfl⟩
   .rw[bind_assoc];refine mw (Hi hN hb) (fun y b hb=>?_) fun y s h=>⟨_,qa h⟩
    exact Ec hN n (m'+1) _ b (by omega) hb
  .rw[if_neg hs,if_neg hs];exact dE ha
omit H in
theorem Lq{N a:Nat}(hN:2*ts.length+4≤N)(ha:a≤ts.length):Ag ts (lM (zLs ts) (ts.drop a)) (blL ts N (ts.length+2) [] (a,0,0)):=
 Ec hN _ _ [] a (by rw[TR];omega) ha
omit H in
theorem Qy{a:Nat}(ha:a≤ts.length):Ag ts (dF li (ts.drop a) (fun r3=>dK (zLs ts) r3 fun p r4=>.ok p r4) (.ok ⟨#[]⟩ (ts.drop a))) (some (paP ts (a,0,0))):=by
 unfold paP;rw[nP];refine kO (fun b hb=>?_) (dE ha);exact qh (k':=fun x s=>some (x,s)) (fun x b hb=>dE hb) fun x s h=>⟨_,rfl⟩
theorem Qh{N a:Nat}(hN:2*ts.length+4≤N):Ag ts (lx (zLs ts) (ts.drop a)) (klP ts N (a,0,0)):=by
 unfold lx klP;have e1:∀(x p:ByteArray) (f:List Fl) (s:PS),s.2.2≠0->∃v:Kl,((blL ts N (ts.length+2) [] s).bind fun w=>neM ts (aa 125) w.2 fun s7=>some ((⟨x,p,f,w.1⟩:Kl),s7))=some (v,s):=fun x p f s h=>⟨_,by rw[qa h,T6,bw h]⟩
 have e2:∀(x p:ByteArray) (s:PS),s.2.2≠0->∃v:Kl,((fsL ts (ts.length+2) [] s).bind fun q=>(blL ts N (ts.length+2) [] q.2).bind fun w=>neM ts (aa 125) w.2 fun s7=>some ((⟨x,p,q.1,w.1⟩:Kl),s7))=some (v,s):=fun x p s h=>by
  rw[pT h,T6];exact e1 x p [] s h
 refine fu (fun b hb=>qh (fun x b hb=>lq (Qy hb) (fun p b hb=>fu (fun b hb=>mw (OA H hb) (fun f b hb=>mw (Lq hN hb) (fun w b hb=>fu (fun b hb=>dE hb) fun s h=>⟨_,rfl⟩) fun w s h=>⟨_,by rw[bw h]⟩) fun f s h=>e1 x p f s h) fun s h=>e2 x p s h) fun p s h=>?_) fun x s h=>?_) fun s h=>?_
 .rw[bw h];exact e2 x p s h
 .simp only[clM,yN h,bw h];exact e2 x _ s h
 .simp only[oa h,clM,yN h,bw h];exact e2 _ _ s h
omit H in
omit H in
end
end Go.Proofs.YtnhphlmblenapaaGreatDoor
namespace Go.Proofs.YtnhphlmblenapaaGreatDoor
open Go.RowKit
def bgT(l:Bs):List Tok:=match cS l with
 | .ok ts=>ts
 | .err _ _=>[]
def bgS(l:Bs):PS:=match cS l with
 | .ok _=>(0,0,0)
 | .err n e=>(0,n,e)
theorem I5{l:Bs}(hl:l.length≤16384):TsV (bgT l)/\(bgT l).length≤16384:=by
 unfold bgT;cases hx:cS l with
 | ok ts=>exact⟨yP hx hl,by have:=(gf hx).2;simp only;omega⟩
 | err n e=>exact⟨⟨⟨fun t h=>(by cases h),T4 _⟩,fun t h=>(by cases h)⟩,T4 _⟩
theorem zn{l:Bs}(hl:l.length≤16384)(σ:LLV):Fun G 28 [.d (ai (bs l))] σ fun o σ'=>o=.ret (.ptr σ.length 0)/\σ'=σ++[rp (bgT l) (bgS l)]:=by
 have hT:=vA l (by omega);have hR:kf l=kB (cS l):=by unfold kf;rw[if_neg (by omega)]
 rw[hR]at hT;refine ae Tryz.func28 k28 rfl fun hb hw=>?_;unfold c28 bgT bgS
 have done:∀(ts:List Tok) (s:PS) (ρ:aj),aC (σ++[rp ts s]) ρ KR=some (.ptr σ.length 0)->fin σ.length KR (fun o σ'=>o=.ret (.ptr σ.length 0)/\σ'=σ++[rp ts s]) .ret ρ (σ++[rp ts s]):=fun ts s ρ h=>
  ⟨ρ,_,.refl _ _ _,_,h,σ.length+1,by omega,by rw[TS (by simp)];have:=aq hb (l:=[rp ts s]) rfl;rwa[T0,TZ]at this,by simp[V.under],rfl,by rw[TS (by simp)]⟩
 cases hx:cS l with
 | ok ts=>
  rw[hx]at hT;unfold kB at hT;simp -dsimp only[aw,seval];refine ac (hT _) ?_;simp -dsimp only[aw,seval];exact done ts (0,0,0) _ rfl
 | err n e=>
  rw[hx]at hT;unfold kB at hT;simp -dsimp only[aw,seval];refine ac (hT _) ?_;simp -dsimp only[aw,seval];exact done [] (0,n,e) _ rfl
theorem uV(c:Kl)(hk:ksz c≤1100000)(σ:LLV):Fun G 40 [vkl c] σ (aN (.d (ab (mK c))) σ):=by
 have hk2:c.flds.length≤1100000/\bsz c.blks≤1100000:=by unfold ksz at hk;omega
 have hbl:=uk c.blks;refine ae Tryz.func40 k40 rfl fun hb hw=>?_;unfold c40;simp -dsimp only[aw,seval];refine ac (GR c (by omega) (by omega) _) ?_;simp -dsimp only[aw,seval];refine aL [1,3,4] (fun(j:Nat) ρ σ'=>∃e:Int,ρ=[(1,.ptr σ.length 0),(3,.d (ab e)),(4,aF .i64 j)]/\σ'=σ++[[.d (ai c.name),.d (ai c.par),.d (.sl (c.flds.map dfl)),.d (.sl (c.blks.map dbk))]]/\mK c=if e=0 then sn (c.blks.drop j)else e) c.blks.length ⟨uL c,rfl,rfl,rfl⟩ ?_ _;rintro j ρ' σ' hj ⟨e,rfl,rfl,hI⟩;by_cases hlt:j<c.blks.length
 .have wj:=aJ hlt (show c.blks.length≤9223372036854775807 by omega);have e1:(c.blks.map dbk)[j]? = some (dbk c.blks[j]):=by rw[TQ,TP hlt];rfl
  have hm:=AE (TU hlt);have hd:dbk c.blks[j]=[ai c.blks[j].1,gZ c.blks[j].2]:=rfl;by_cases h0:e=0
  .rw[if_pos h0,TW hlt,sn]at hI;simp -dsimp only[aw,seval,TO,TL,hlt,decide_true,decide_eq_true h0,e1,hd,T1,TX];refine ac (vP _ (by omega) _) ?_;simp -dsimp only[aw,seval,wj];exact⟨hlt,Nxt.same (by simp) (aq hb rfl) (by simp[an,V.under]) ⟨g7 c.blks[j].2,rfl,rfl,hI⟩⟩
  .rw[if_neg h0]at hI;rw[hI];simp -dsimp only[aw,seval,TO,TL,hlt,decide_true,decide_eq_false h0];exact ak hb rfl rfl
 .have hI2:mK c=e:=by
   rw[hI,List.drop_eq_nil_of_le (by omega),sn];split
   .rename_i h0;exact h0.symm
   .rfl
  rw[hI2];simp -dsimp only[aw,seval,TO,TL,hlt];exact ak hb rfl rfl
theorem DG{f:FuncId}{args:List V}{v:V}{i:Nat}{ts:List Tok}{s':PS}{A:LLV}{B:List V->LLV}{K P:V->LLV->Prop}{tK:Tag K}{tP:Tag P}(hset:∀Z,A.set i Z=B Z)(h:Fun G f args A (RP v A i ts s'))(hk:K v (B (rp ts s'))):fk G f args A K P tK tP:=by
 refine aB h fun o σ' ⟨e1,e2⟩=>?_;subst e1;rw[hset]at e2;subst e2;rw[aR];exact hk
theorem Hp(σ:LLV)(Y X Z:List V):(σ++[Y,X]).set (σ.length+1) Z=σ++[Y,Z]:=by rw[TY _ _ (by omega),T3];rfl
theorem Iu(σ:LLV)(Y X:List V):(σ++[Y,X])[σ.length+1]? = some X:=by rw[TV (by omega),T3];rfl
def mM(ts:List Tok)(s:PS):PS:=if s.2.2=0/\s.1<ts.length then eN ts s else s
def qc(c:Kl)(s:PS):Kl×Int×Int:=if s.2.2=0 then(if mK c=0 then(c,0,0)else(kZ,0,mK c))else(kZ,s.2.1,s.2.2)
theorem yI{l:Bs}(hl:l.length≤16384){N:Nat}(hN:N≤100000000){v:Kl}{s1:PS}(h:klP (bgT l) N (bgS l)=some (v,s1))(hsz:(mM (bgT l) s1).2.2=0->ksz v≤1100000)(σ:LLV):Fun G 13 [.d (ai (bs l))] σ (aN (d9 vkl (qc v (mM (bgT l) s1))) σ):=by
 have hB:=fun σ=>zn hl σ;obtain⟨H,hlen⟩:=I5 hl;generalize bgT l=ts at *;generalize bgS l=s0 at *;refine ae Tryz.func13 k13 rfl fun hb hw=>?_;unfold c13
 have fin:∀(k:Kl) (n e:Int) (x:LLV) ρ,qc v (mM ts s1)=(k,n,e)->aC (σ++x) ρ zp=some (d9 vkl (k,n,e))->fin σ.length zp (aN (d9 vkl (qc v (mM ts s1))) σ) .ret ρ (σ++x):=fun k n e x ρ he h=>by
  rw[he];exact az hb h rfl List.take_left ⟨rfl,rfl⟩
 simp -dsimp only[aw,seval];refine aB (hB _) fun o σ' ⟨g1,g2⟩=>?_;subst g1;subst g2;have la:∀X Y:List V,(σ++[X])++[Y]=σ++[X,Y]:=fun X Y=>by simp
 simp only[la,T0,TZ];simp -dsimp only[aw,seval,aR];refine DG (B:=fun Z=>σ++[[.d (ai ⟨#[]⟩),.d (ai ⟨#[]⟩),.nil,.nil],Z]) (Hp σ _ _) (vN H (by omega) _ (Iu σ _ _) hN h) ?_;have hv:=fun hs σ=>uV v (hsz hs) σ;have hrp:∀s2:PS,rp ts s2=[.d (.sl (ts.map di)),.d (ab s2.1),.d (ab s2.2.1),.d (ab s2.2.2)]:=fun _=>rfl;have tail:∀s2:PS,s2=mM ts s1->True:=fun _ _=>trivial;by_cases he:s1.2.2=0
 .by_cases hlt:s1.1<ts.length
  .have eS:mM ts s1=eN ts s1:=if_pos ⟨he,hlt⟩;have eF:eN ts s1=(s1.1,lnA ts s1.1,5):=by unfold eN bQ;rw[if_pos he,if_pos hlt]
   have d1:decide (((s1.1:Nat):Int)<((ts.length:Nat):Int))=true:=decide_eq_true (by omega);have hF:=fun X=>fe H (σ++[[.d (ai ⟨#[]⟩),.d (ai ⟨#[]⟩),.nil,.nil],rp ts s1,X]) (i:=σ.length+1) (s:=s1) (by rw[TV (by omega),T3];rfl);simp only[hrp]at hF;simp -dsimp only[aw,seval,hrp,decide_eq_true he,d1];refine DG (B:=fun Z=>σ++[[.d (ai ⟨#[]⟩),.d (ai ⟨#[]⟩),.nil,.nil],Z,_]) (fun Z=>by rw[TY _ _ (by omega),T3];rfl) (hF _) ?_;rw[eF];simp -dsimp only[aw,seval,hrp];refine fin kZ (lnA ts s1.1) 5 _ _ (by rw[eS,eF];rfl) ?_;simp[d9,kZ,zp,aC,bZ,aQ,aw,seval]
  .have eS:mM ts s1=s1:=if_neg fun c=>hlt c.2;have d1:decide (((s1.1:Nat):Int)<((ts.length:Nat):Int))=false:=decide_eq_false (by omega);have hv:=hv (by rw[eS];exact he);simp -dsimp only[aw,seval,hrp,decide_eq_true he,d1];refine ac (hv _) ?_;by_cases h0:mK v=0
   .simp -dsimp only[aw,seval,decide_eq_true h0];exact fin v 0 0 _ _ (by rw[eS];unfold qc;rw[if_pos he,if_pos h0]) (by simp[d9,zp,aC,bZ,aQ,aw,seval])
   .simp -dsimp only[aw,seval,decide_eq_false h0];exact fin kZ 0 (mK v) _ _ (by rw[eS];unfold qc;rw[if_pos he,if_neg h0]) (by simp[d9,kZ,zp,aC,bZ,aQ,aw,seval])
 .have eS:mM ts s1=s1:=if_neg fun c=>he c.1;simp -dsimp only[aw,seval,hrp,decide_eq_false he];exact fin kZ s1.2.1 s1.2.2 _ _ (by rw[eS];unfold qc;rw[if_neg he]) (by simp[d9,kZ,zp,aC,bZ,aQ,aw,seval])
def awV:Ex:=.mk 2 0 ⟨#[97]⟩ []
def awK:Kl:=⟨⟨#[112]⟩,⟨#[]⟩,[⟨⟨#[97]⟩,2,0,1,0⟩],[(⟨#[99]⟩,[.mk 1 (aK 17 [awV,.mk 1 3 ⟨#[]⟩ []]) ⟨#[]⟩ ⟨#[]⟩ [] [] [] [] [],.mk 2 (aK 15 [awV,.mk 1 1 ⟨#[]⟩ []]) ⟨#[]⟩ ⟨#[]⟩ [] [] [] [] []])]⟩
def awI:It:=.mk 3 exZ ⟨#[97]⟩ ⟨#[]⟩ [⟨0,0,2,true⟩,⟨1,3,6,false⟩] [] [] [] []
theorem LP:gJ [99,108,97,115,115,32,112,32,123,32,114,97,110,100,32,97,32,58,32,50,59,32,99,111,110,115,116,114,97,105,110,116,32,99,32,123,32,97,32,60,32,51,59,32,115,111,102,116,32,97,32,61,61,32,49,59,32,125,32,125]=(awK,0,0):=by kernel_rfl
theorem Qb:pM [100,105,115,116,32,97,32,123,32,48,32,58,61,32,50,44,32,49,32,46,46,32,51,32,58,47,32,54,32,125,59]=([awI],0,0):=by kernel_rfl
theorem LG:pM [97,32,60]=([],1,6):=by kernel_rfl
theorem pi(σ:LLV):Fun G 8 [] σ (aN (ao true) σ):=by
 have h1:=fun σ=>qk [99,108,97,115,115,32,112,32,123,32,114,97,110,100,32,97,32,58,32,50,59,32,99,111,110,115,116,114,97,105,110,116,32,99,32,123,32,97,32,60,32,51,59,32,115,111,102,116,32,97,32,61,61,32,49,59,32,125,32,125] σ;have h2:=fun σ=>rf [100,105,115,116,32,97,32,123,32,48,32,58,61,32,50,44,32,49,32,46,46,32,51,32,58,47,32,54,32,125,59] σ;have h3:=fun σ=>rf [97,32,60] σ;rw[LP]at h1;rw[Qb]at h2;rw[LG]at h3
 have e1:vkl awK=.agg [.d (ai ⟨#[112]⟩),.d (ai ⟨#[]⟩),.d (.sl [[ai ⟨#[97]⟩,ab 2,ab 0,ab 1,ab 0]]),.d (.sl [[ai ⟨#[99]⟩,.sl [dit (.mk 1 (aK 17 [awV,.mk 1 3 ⟨#[]⟩ []]) ⟨#[]⟩ ⟨#[]⟩ [] [] [] [] []),dit (.mk 2 (aK 15 [awV,.mk 1 1 ⟨#[]⟩ []]) ⟨#[]⟩ ⟨#[]⟩ [] [] [] [] [])]]])]:=by
  show V.agg [_,_,_,V.d (.sl [[_,gZ _]])]=_;unfold gZ;rfl
 have hit:[awI].map dit=[[ab 3,ab 0,ab 0,ai ⟨#[]⟩,.sl [],ai ⟨#[97]⟩,ai ⟨#[]⟩,.sl [[ab 0,ab 0,ab 2,dbl true],[ab 1,ab 3,ab 6,dbl false]],.sl [],.sl [],.sl [],.sl []]]:=by
  rw[T1,TX,dB];rfl
 unfold d9 at h1 h2 h3;unfold l8 at h2 h3;simp only[hit,TX]at h2 h3;rw[e1]at h1;refine ae Tryz.func8 k8 rfl fun hb hw=>?_;unfold c8;simp -dsimp only[aw,seval];refine ac (h1 _) ?_;simp -dsimp only[aw,seval];refine ac (h2 _) ?_;simp -dsimp only[aw,seval];refine ac (h3 _) ?_;have q1:decide (((1:Nat):Int)=1)=true:=rfl;have q2:decide (((2:Nat):Int)=2)=true:=rfl;have j1:∀x y:D,iaV 2 (.d (.sl [[x,y]])) (.d (.lit (.int .i64 0)))=some (.row [x,y] 0):=fun x y=>rfl;have j2:∀a b c d e f g h i j k l:D,iaV 12 (.d (.sl [[a,b,c,d,e,f,g,h,i,j,k,l]])) (.d (.lit (.int .i64 0)))=some (.row [a,b,c,d,e,f,g,h,i,j,k,l] 0):=fun a b c d e f g h i j k l=>rfl
 have j3:∀a b c d e f g h:D,iaV 4 (.d (.sl [[a,b,c,d],[e,f,g,h]])) (.d (.lit (.int .i64 1)))=some (.row [e,f,g,h] 0):=fun a b c d e f g h=>rfl;simp -dsimp only[aw,seval,List.length_cons,List.length_nil,q1,q2,j1,j2,j3];refine bg (show G.eqs 56=true by kernel_rfl) ?_;have q3:kr false [.i .i64,.i .i64,.i .i64,.b] (V.agg [.d (ab 1),.d (ab 3),.d (ab 6),.d (dbl false)]) (V.agg [.d (.lit (.int .i64 1)),.d (.lit (.int .i64 3)),.d (.lit (.int .i64 6)),.d (.lit (.bool false))])=some (ao true):=by simp[kr,cQ,mi]
 simp -dsimp only[aw,seval,q3];exact ak hb rfl rfl
theorem fB{α:Type}{l m:List α}{j:Nat}(h:j<l.length)(h':j<m.length)(ht:l.take j=m.take j)(e:l[j]=m[j]):l.take (j+1)=m.take (j+1):=by
 rw[TT h,TT h',ht,e]
theorem kP{α:Type}{l m:List α}{j:Nat}(h:l.length≤j)(e:l.length=m.length)(ht:l.take j=m.take j):l=m:=by
 rwa[TS h,TS (by omega)]at ht
theorem ou{α:Type}{l m:List α}{j:Nat}(h:j<l.length)(h':j<m.length)(e:l[j]≠m[j]):l≠m:=fun q=>e (by subst q;rfl)
theorem ta:∀(l m:List Ex),(∀a,a∈l->∀b,lj a b=true↔a=b)->(iU l m=true↔l=m)
 | [],[],_=>⟨fun _=>rfl,fun _=>rfl⟩
 | [],_::_,_=>⟨fun h=>(by cases h),fun h=>(by cases h)⟩
 | _::_,[],_=>⟨fun h=>(by cases h),fun h=>(by cases h)⟩
 | a::r,b::s,h=>by
  rw[iU,TJ,h a (by simp),ta r s fun x hx=>h x (by simp[hx]),List.cons.injEq]
theorem tT(a:Ex):∀b,lj a b=true↔a=b:=by
 induction a using Ex.ind2 with
 | h a ih=>
 intro b;rw[wO,TJ,TJ,TJ,decide_eq_true_eq,decide_eq_true_eq,decide_eq_true_eq,ta _ _ ih];cases a;cases b
 exact⟨fun⟨h1,h2,h3,h4⟩=>by
  have h1:_=_:=h1;have h2:_=_:=h2;have h3:_=_:=h3;have h4:_=_:=h4;simp only[Ex.op,Ex.num,Ex.name,Ex.args]at h1 h2 h3 h4;subst h1 h2 h3 h4;rfl,fun h=>by cases h;exact⟨rfl,rfl,rfl,rfl⟩⟩
theorem eU{p:Prop}{r:Bool}(hr:r=true↔p)(h:¬p):r=false:=by
 cases r with
 | false=>rfl
 | true=>exact absurd (hr.1 rfl) h
theorem lP(p:Prop):∃r:Bool,r=true↔p:=by
 by_cases h:p
 .exact⟨true,fun _=>h,fun _=>rfl⟩
 .exact⟨false,fun e=>(by cases e),fun e=>absurd e h⟩
theorem nX(l m:List ByteArray)(r:Bool)(hr:r=true↔l=m)(hl:l.length≤1200000)(σ:LLV):Fun G 80 [.d (.sl (l.map fun s=>[ai s])),.d (.sl (m.map fun s=>[ai s]))] σ (aN (ao r) σ):=by
 refine ae Tryz.func80 k80 rfl fun hb hw=>?_;unfold c80;by_cases hlen:l.length=m.length
 case neg=>
  obtain rfl:=eU hr fun e=>hlen (by rw[e]);have d0:decide (((l.length:Nat):Int)=(m.length:Nat))=false:=decide_eq_false (by omega);simp -dsimp only[aw,seval,TO,d0];exact ak hb rfl rfl
 have d0:decide (((l.length:Nat):Int)=(m.length:Nat))=true:=decide_eq_true (by omega);simp -dsimp only[aw,seval,TO,d0];refine aL [0,1,5] (fun(j:Nat) ρ σ'=>ρ=[(0,.d (.sl (l.map fun s=>[ai s]))),(1,.d (.sl (m.map fun s=>[ai s]))),(5,aF .i64 j)]/\σ'=σ/\l.take j=m.take j) l.length ⟨rfl,rfl,rfl⟩ ?_ _;rintro j ρ' σ' hj ⟨rfl,rfl,hI⟩;by_cases hlt:j<l.length
 .have hlt':j<m.length:=by omega
  have wj:=aJ hlt (show l.length≤9223372036854775807 by omega);have e1:(l.map fun s=>[ai s])[j]? = some [ai l[j]]:=by rw[TQ,TP hlt];rfl
  have e2:(m.map fun s=>[ai s])[j]? = some [ai m[j]]:=by rw[TQ,TP hlt'];rfl
  by_cases hq:l[j]=m[j]
  .simp -dsimp only[aw,seval,TO,TL,hlt,decide_true,e1,e2,decide_eq_true hq,wj];have fin:=fun(ρ:aj) (hs)=>Nxt.same (n0:=σ'.length) (R:=fun ρ s=>ρ=[(0,V.d (.sl (l.map fun s=>[ai s]))),(1,.d (.sl (m.map fun s=>[ai s]))),(5,aF .i64 ((j+1:Nat):Int))]/\s=σ'/\l.take (j+1)=m.take (j+1)) (ρ:=[(0,V.d (.sl (l.map fun s=>[ai s]))),(1,.d (.sl (m.map fun s=>[ai s]))),(5,aF .i64 ((j+1:Nat):Int))]) (T5 _) hb hs ⟨rfl,rfl,fB hlt hlt' hI hq⟩;have fin:=fin [] (by simp[an,V.under]);first|exact fin|exact⟨hlt,fin⟩
  .obtain rfl:=eU hr (ou hlt hlt' hq);simp -dsimp only[aw,seval,TO,TL,hlt,decide_true,e1,e2,decide_eq_false hq];exact ak hb rfl rfl
 .obtain rfl:=hr.2 (kP (by omega) hlen hI);simp -dsimp only[aw,seval,TO,TL,hlt];exact ak hb rfl rfl
theorem JP(w v:Wt):kr true [.i .i64,.i .i64,.i .i64,.b] (V.agg [.d (ab w.lo),.d (ab w.hi),.d (ab w.w),.d (dbl w.each)]) (V.agg [.d (ab v.lo),.d (ab v.hi),.d (ab v.w),.d (dbl v.each)])=some (ao (!(decide (w.lo=v.lo)&&(decide (w.hi=v.hi)&&(decide (w.w=v.w)&&(w.each==v.each)))))):=by
 simp[kr,cQ,mi]
theorem K2(w v:Wt):(decide (w.lo=v.lo)&&(decide (w.hi=v.hi)&&(decide (w.w=v.w)&&(w.each==v.each))))=true↔w=v:=by
 obtain⟨a,b,c,d⟩:=w;obtain⟨a',b',c',d'⟩:=v;simp[Wt.mk.injEq]
theorem Kq(w v:Fl):kr true [.s,.i .i64,.i .i64,.i .i64,.i .i64] (V.agg [.d (ai w.name),.d (ab w.width),.d (ab w.size),.d (ab w.mode),.d (ab w.init)]) (V.agg [.d (ai v.name),.d (ab v.width),.d (ab v.size),.d (ab v.mode),.d (ab v.init)])=some (ao (!(decide (w.name=v.name)&&(decide (w.width=v.width)&&(decide (w.size=v.size)&&(decide (w.mode=v.mode)&&decide (w.init=v.init))))))):=by
 simp[kr,cQ,mi]
theorem KP(w v:Fl):(decide (w.name=v.name)&&(decide (w.width=v.width)&&(decide (w.size=v.size)&&(decide (w.mode=v.mode)&&decide (w.init=v.init)))))=true↔w=v:=by
 obtain⟨a,b,c,d,e⟩:=w;obtain⟨a',b',c',d',e'⟩:=v;simp[Fl.mk.injEq]
def Ke(l:List It):Prop:=bu l≤1100000->∀(m:List It) (r:Bool),(r=true↔l=m)->∀σ:LLV,Fun G 11 [.d (gZ l),.d (gZ m)] σ (aN (ao r) σ)
theorem KF(x y:It):x=y↔x.kind=y.kind/\x.ex=y.ex/\x.name=y.name/\x.idx=y.idx/\x.ws=y.ws/\x.items=y.items/\x.els=y.els/\x.bef=y.bef/\x.aft=y.aft:=by
 cases x;cases y;constructor
 .intro h;cases h;exact⟨rfl,rfl,rfl,rfl,rfl,rfl,rfl,rfl,rfl⟩
 .rintro⟨h1,h2,h3,h4,h5,h6,h7,h8,h9⟩;simp only[It.kind,It.ex,It.name,It.idx,It.ws,It.items,It.els,It.bef,It.aft]at h1 h2 h3 h4 h5 h6 h7 h8 h9;subst h1 h2 h3 h4 h5 h6 h7 h8 h9;rfl
theorem xJ(x y:It)(h1:Ke x.items)(h2:Ke x.els)(hbig:gz x≤1100000)(r:Bool)(hr:r=true↔x=y)(σ:LLV):Fun G 31 [vit x,vit y] σ (aN (ao r) σ):=by
 have hbx:=ew x;rw[KF]at hr;obtain⟨r1,hr1⟩:=lP (x.items=y.items);obtain⟨r2,hr2⟩:=lP (x.els=y.els);obtain⟨r3,hr3⟩:=lP (x.bef=y.bef);obtain⟨r4,hr4⟩:=lP (x.aft=y.aft);have f0:=fun σ=>sX x.ex y.ex σ;have f1:=fun σ=>h1 (by omega) y.items r1 hr1 σ;have f2:=fun σ=>h2 (by omega) y.els r2 hr2 σ;have f3:=fun σ=>nX x.bef y.bef r3 hr3 (by omega) σ;have f4:=fun σ=>nX x.aft y.aft r4 hr4 (by omega) σ;simp only[au]at f0;refine ae Tryz.func31 k31 (by simp only[aM];rfl) fun hb hw=>?_;unfold c31;by_cases hk:x.kind=y.kind
 case neg=>
  obtain rfl:=eU hr fun e=>hk e.1;simp -dsimp only[aw,seval,aM,decide_eq_false hk];exact ak hb rfl rfl
 simp -dsimp only[aw,seval,aM,decide_eq_true hk];refine ac (f0 _) ?_;cases he:lj x.ex y.ex with
 | false=>
  obtain rfl:=eU hr fun e=>by rw[(tT _ _).2 e.2.1]at he;cases he
  simp -dsimp only[aw,seval];exact ak hb rfl rfl
 | true=>
 have he:=(tT _ _).1 he;by_cases hn:x.name=y.name
 case neg=>
  obtain rfl:=eU hr fun e=>hn e.2.2.1;simp -dsimp only[aw,seval,decide_eq_false hn];exact ak hb rfl rfl
 by_cases hi:x.idx=y.idx
 case neg=>
  obtain rfl:=eU hr fun e=>hi e.2.2.2.1;simp -dsimp only[aw,seval,decide_eq_true hn,decide_eq_false hi];exact ak hb rfl rfl
 by_cases hlen:x.ws.length=y.ws.length
 case neg=>
  obtain rfl:=eU hr fun e=>hlen (by rw[e.2.2.2.2.1]);have d0:decide (((x.ws.length:Nat):Int)=(y.ws.length:Nat))=false:=decide_eq_false (by omega);simp -dsimp only[aw,seval,decide_eq_true hn,decide_eq_true hi,TO,d0];exact ak hb rfl rfl
 have d0:decide (((x.ws.length:Nat):Int)=(y.ws.length:Nat))=true:=decide_eq_true (by omega);simp -dsimp only[aw,seval,decide_eq_true hn,decide_eq_true hi,TO,d0];generalize hbx2:[[V.d (ab x.kind),V.d (ab x.ex.op),V.d (ab x.ex.num),V.d (ai x.ex.name),V.d (.sl (x.ex.args.map dex)),V.d (ai x.name),V.d (ai x.idx),V.d (.sl (x.ws.map dwt)),V.d (.sl (x.items.map dit)),V.d (.sl (x.els.map dit)),V.d (.sl (x.bef.map fun s=>[ai s])),V.d (.sl (x.aft.map fun s=>[ai s]))],[V.d (ab y.kind),V.d (ab y.ex.op),V.d (ab y.ex.num),V.d (ai y.ex.name),V.d (.sl (y.ex.args.map dex)),V.d (ai y.name),V.d (ai y.idx),V.d (.sl (y.ws.map dwt)),V.d (.sl (y.items.map dit)),V.d (.sl (y.els.map dit)),V.d (.sl (y.bef.map fun s=>[ai s])),V.d (.sl (y.aft.map fun s=>[ai s]))]]=bx
 have hbb:am (σ++bx).length (σ++bx)=true:=by rw[<-hbx2];exact aq hb rfl
 refine aL [2,3,5] (fun(j:Nat) ρ σ'=>ρ=[(2,.ptr σ.length 0),(3,.ptr (σ.length+1) 0),(5,aF .i64 j)]/\σ'=σ++bx/\x.ws.take j=y.ws.take j) x.ws.length ⟨rfl,rfl,rfl⟩ ?_ _;rintro j ρ' σ' hj ⟨rfl,rfl,hI⟩;have hb2:2=bx.length:=by rw[<-hbx2];rfl
 have fin:=fun hs (e:x.ws.take (j+1)=y.ws.take (j+1))=>Nxt.same (n0:=σ.length) (σ:=σ++bx) (R:=fun ρ s=>ρ=[(2,.ptr σ.length 0),(3,.ptr (σ.length+1) 0),(5,aF .i64 ((j+1:Nat):Int))]/\s=σ++bx/\x.ws.take (j+1)=y.ws.take (j+1)) (ρ:=[(2,.ptr σ.length 0),(3,.ptr (σ.length+1) 0),(5,aF .i64 ((j+1:Nat):Int))]) (by simp) hbb hs ⟨rfl,rfl,e⟩;have fin:=fin (by simp[an,V.under,<-hb2]);subst hbx2;by_cases hlt:j<x.ws.length
 .have hlt':j<y.ws.length:=by omega
  have wj:=aJ hlt (show x.ws.length≤9223372036854775807 by omega);have e1:(x.ws.map dwt)[j]? = some [ab x.ws[j].lo,ab x.ws[j].hi,ab x.ws[j].w,dbl x.ws[j].each]:=by rw[TQ,TP hlt];rfl
  have e2:(y.ws.map dwt)[j]? = some [ab y.ws[j].lo,ab y.ws[j].hi,ab y.ws[j].w,dbl y.ws[j].each]:=by rw[TQ,TP hlt'];rfl
  have q1:=JP x.ws[j] y.ws[j];have q2:=K2 x.ws[j] y.ws[j];generalize (decide (x.ws[j].lo=y.ws[j].lo)&&(decide (x.ws[j].hi=y.ws[j].hi)&&(decide (x.ws[j].w=y.ws[j].w)&&(x.ws[j].each==y.ws[j].each))))=b at q1 q2;simp -dsimp only[aw,seval,TO,TL,hlt,e1,e2];refine bg (by kernel_rfl) ?_;cases b with
  | true=>
   simp -dsimp only[aw,seval,q1,wj];first|exact fin (fB hlt hlt' hI (q2.1 rfl))|exact⟨hlt,fin (fB hlt hlt' hI (q2.1 rfl))⟩
  | false=>
   obtain rfl:=eU hr fun e=>ou hlt hlt' (fun h=>by cases q2.2 h) e.2.2.2.2.1;simp -dsimp only[aw,seval,q1];exact ak hb rfl rfl
 .have hws:=kP (by omega) hlen hI;simp -dsimp only[aw,seval,TO,TL,hlt];refine ac (f1 _) ?_;cases r1 with
  | false=>
   obtain rfl:=eU hr fun e=>by cases hr1.2 e.2.2.2.2.2.1
   simp -dsimp only[aw,seval];exact ak hb rfl rfl
  | true=>
  simp -dsimp only[aw,seval];refine ac (f2 _) ?_;cases r2 with
  | false=>
   obtain rfl:=eU hr fun e=>by cases hr2.2 e.2.2.2.2.2.2.1
   simp -dsimp only[aw,seval];exact ak hb rfl rfl
  | true=>
  simp -dsimp only[aw,seval];refine ac (f3 _) ?_;cases r3 with
  | false=>
   obtain rfl:=eU hr fun e=>by cases hr3.2 e.2.2.2.2.2.2.2.1
   simp -dsimp only[aw,seval];exact ak hb rfl rfl
  | true=>
  simp -dsimp only[aw,seval];refine ac (f4 _) ?_;cases r4 with
  | false=>
   obtain rfl:=eU hr fun e=>by cases hr4.2 e.2.2.2.2.2.2.2.2
   simp -dsimp only[aw,seval];exact ak hb rfl rfl
  | true=>
  obtain rfl:=hr.2 ⟨hk,he,hn,hi,hws,hr1.1 rfl,hr2.1 rfl,hr3.1 rfl,hr4.1 rfl⟩;simp -dsimp only[aw,seval];exact ak hb rfl rfl
theorem vC:∀l:List It,Ke l:=by
 refine lr fun l ih hbig m r hr σ=>?_;have hll:=ov l;refine ae Tryz.func11 k11 rfl fun hb hw=>?_;unfold c11;by_cases hlen:l.length=m.length
 case neg=>
  obtain rfl:=eU hr fun e=>hlen (by rw[e]);have d0:decide (((l.length:Nat):Int)=(m.length:Nat))=false:=decide_eq_false (by omega);simp -dsimp only[aw,seval,gZ,TO,d0];exact ak hb rfl rfl
 have d0:decide (((l.length:Nat):Int)=(m.length:Nat))=true:=decide_eq_true (by omega);simp -dsimp only[aw,seval,gZ,TO,d0];refine aL [0,1,5] (fun(j:Nat) ρ σ'=>ρ=[(0,.d (.sl (l.map dit))),(1,.d (.sl (m.map dit))),(5,aF .i64 j)]/\σ'=σ/\l.take j=m.take j) l.length ⟨rfl,rfl,rfl⟩ ?_ _;rintro j ρ' σ' hj ⟨rfl,rfl,hI⟩;have fin:=fun hs (e:l.take (j+1)=m.take (j+1))=>Nxt.same (n0:=σ'.length) (σ:=σ') (R:=fun ρ s=>ρ=[(0,V.d (.sl (l.map dit))),(1,.d (.sl (m.map dit))),(5,aF .i64 ((j+1:Nat):Int))]/\s=σ'/\l.take (j+1)=m.take (j+1)) (ρ:=[(0,V.d (.sl (l.map dit))),(1,.d (.sl (m.map dit))),(5,aF .i64 ((j+1:Nat):Int))]) (T5 _) hb hs ⟨rfl,rfl,e⟩;have fin:=fin (by simp[an,V.under]);by_cases hlt:j<l.length
 .have hlt':j<m.length:=by omega
  have wj:=aJ hlt (show l.length≤9223372036854775807 by omega);have e1:(l.map dit)[j]? = some (dit l[j]):=by rw[TQ,TP hlt];rfl
  have e2:(m.map dit)[j]? = some (dit m[j]):=by rw[TQ,TP hlt'];rfl
  obtain⟨i1,i2⟩:=ih _ (TU hlt);have hm:=iq (TU hlt);obtain⟨s,hs⟩:=lP (l[j]=m[j]);have f1:=fun σ=>xJ l[j] m[j] i1 i2 (by omega) s hs σ;simp only[aM]at f1;simp -dsimp only[aw,seval,TO,TL,hlt,e1,e2,dB];refine bo (f1 _) ?_;cases s with
  | true=>
   simp -dsimp only[aw,seval,wj];first|exact fin (fB hlt hlt' hI (hs.1 rfl))|exact⟨hlt,fin (fB hlt hlt' hI (hs.1 rfl))⟩
  | false=>
   obtain rfl:=eU hr (ou hlt hlt' fun h=>by cases hs.2 h);simp -dsimp only[aw,seval];exact ak hb rfl rfl
 .obtain rfl:=hr.2 (kP (by omega) hlen hI);simp -dsimp only[aw,seval,TO,TL,hlt];exact ak hb rfl rfl
end Go.Proofs.YtnhphlmblenapaaGreatDoor
