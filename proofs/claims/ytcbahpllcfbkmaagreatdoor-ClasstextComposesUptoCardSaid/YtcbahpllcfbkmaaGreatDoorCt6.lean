import Derived.Test.YtcbahpllcfbkmaaGreatDoorCt1
import Derived.Test.YtcbahpllcfbkmaaGreatDoorK3
set_option linter.unusedVariables false
set_option linter.unusedSimpArgs false
set_option linter.unusedSectionVars false
namespace Go.Proofs.YtcbahpllcfbkmaaGreatDoor
open Go.RowKit
theorem AJ(u:Nat):∃c r,Lib.decDigits u=c::r∧48≤c.toNat∧c.toNat≤57:=by
 induction u using Nat.strongRecOn with
 | _ u ih=>
 rw[Lib.decDigits];have hd:∀k,k<10→48≤(UInt8.ofNat (48+k)).toNat∧(UInt8.ofNat (48+k)).toNat≤57:=by decide
 split
 ·rename_i h;exact⟨_,[],rfl,hd _ h⟩
 ·rename_i h;obtain⟨c,r,e,h1⟩:=ih (u/10) (by omega);exact⟨c,r++[UInt8.ofNat (48+u%10)],by rw[e];rfl,h1⟩
def wdB(c:UInt8):Bool:=dw c.toNat
theorem uV{s:ByteArray}(h:aL s=true):∀c,c∈s.data.toList→wdB c=true:=by
 have hw:=eE h;intro c hc;obtain⟨i,hi,rfl⟩:=List.getElem_of_mem hc;have hi':i<s.size:=by rw[Lib.size_eq];exact hi
 have hf:=kR hw hi';have he:=eo s i hi';rw[List.getElem?_eq_getElem hi]at he;rw[Option.some.inj he];exact hf
theorem xE{s:ByteArray}(h:aL s=true):∃c r,s.data.toList=c::r∧wdB c=true:=by
 have hp:=ma (eE h);rw[Lib.size_eq]at hp;cases e:s.data.toList with
 | nil=>rw[e]at hp;cases hp
 | cons c r=>exact⟨c,r,rfl,uV h c (by rw[e];simp)⟩
theorem tQ{c:UInt8}(h:wdB c=true):c≠32∧c≠44∧c≠59∧c≠91:=by
 refine⟨?_,?_,?_,?_⟩<;>(rintro rfl;revert h;decide)
theorem uL{k:Nat}{x:Ex}(h:∃c r,aH x=c::r∧c≠32)(q:Bs):∃c r,opS k x++q=c::r∧c≠32:=by
 unfold opS;split
 ·exact⟨40,_,rfl,by decide⟩
 ·obtain⟨c,r,e,hc⟩:=h;exact⟨c,r++q,by rw[e];rfl,hc⟩
theorem yc(e:Ex):cu e=0→∃c r,aH e=c::r∧c≠32:=by
 induction e using Ex.ind with
 | h o n s l ih=>
 intro he;have hs:=qy he;generalize hE:Ex.mk o n s l=E at hs
 have nm:∀{t:ByteArray} (q:Bs),aL t=true→∃c r,t.data.toList++q=c::r∧c≠32:=fun q h=>by
  obtain⟨c,r,e,hc⟩:=xE h;exact⟨c,r++q,by rw[e];rfl,(tQ hc).1⟩
 cases hs with
 | const n h0 h1=>
  obtain⟨c,r,e,hc⟩:=AJ n.toNat;rw[fu];exact⟨c,r,e,by rintro rfl;revert hc;decide⟩
 | var s h=>
  cases hE;rw[iJ];unfold aK at h;rw[Bool.or_eq_true]at h;split
  ·rename_i hel;obtain⟨g1,-⟩:=cP hel;exact nm _ g1
  ·rename_i hel;have:=nm [] (h.resolve_left hel);rw[List.append_nil]at this;exact this
 | elem s x h hx=>cases hE;rw[gu];exact nm _ h
 | pre o x h hx=>
  cases hE;rw[iz h];rcases h with rfl|rfl|rfl
  ·exact⟨33,_,rfl,by decide⟩
  ·exact⟨126,_,rfl,by decide⟩
  ·exact⟨45,_,rfl,by decide⟩
 | bin o m k x y h hx hy=>cases hE;rw[iI h];exact uL (ih x (by simp) hx) _
 | ite x y z hx hy hz=>cases hE;rw[jR];exact uL (ih x (by simp) hx) _
 | inside x l hx hl hev hne h32=>cases hE;rw[eS];exact uL (ih x (by simp) hx) _
 | sum s h=>cases hE;rw[ir];exact⟨115,_,rfl,by decide⟩
 | ones x hx=>cases hE;rw[gr];exact⟨111,_,rfl,by decide⟩
theorem fr{x:It}{d:Nat}(h:aP x d=0):(if x.kind=3 then eW x else if x.kind=6 then fW x else if x.kind=5 then kh x else bM x.ex)=0:=by
 unfold aP at h;split at h
 ·cases h
 ·exact h
theorem mU{x:It}{d:Nat}(h:aP x d=0)(hk:x.kind=3):x.ws≠[]∧x.ws.all wtB=true∧aK x.name=true:=by
 have:=fr h;rw[if_pos hk]at this;unfold eW at this;split at this
 ·cases this
 ·split at this
  ·cases this
  ·rename_i h1;split at this
   ·cases this
   ·rename_i h2;split at this
    ·rename_i h3;exact⟨h1,by simpa using h2,h3⟩
    ·cases this
theorem jX{x:It}{d:Nat}(h:aP x d=0)(hk:x.kind=6):x.bef≠[]∧x.aft≠[]∧(∀s,s∈x.bef→aK s=true)∧∀s,s∈x.aft→aK s=true:=by
 have:=fr h;rw[if_neg (by omega),if_pos hk]at this;unfold fW at this;split at this
 ·cases this
 ·rename_i h1;split at this
  ·rename_i h2;rw[List.all_append,Bool.and_eq_true,List.all_eq_true,List.all_eq_true]at h2;exact⟨fun e=>h1 (.inl e),fun e=>h1 (.inr e),h2.1,h2.2⟩
  ·cases this
theorem qh{x:It}{d:Nat}(h:aP x d=0)(hk:x.kind=5):aL x.name=true∧aL x.idx=true:=by
 have:=fr h;rw[if_neg (by omega),if_neg (by omega),if_pos hk]at this;unfold kh at this;split at this
 ·assumption
 ·cases this
theorem gz{x:It}{d:Nat}(h:aP x d=0)(hk:x.kind=1∨x.kind=2∨x.kind=4):cu x.ex=0:=by
 have:=fr h;rw[if_neg (by omega),if_neg (by omega),if_neg (by omega)]at this;exact ow this
theorem ph{P:Bs→Prop}{l:List Ln}(h:∀y,y∈l→P y.2):∀y,y∈upL l→P y.2:=by
 intro y hy;obtain⟨z,hz,rfl⟩:=List.mem_map.1 hy;exact h z hz
theorem qc{l:List ByteArray}(h:∀s,s∈l→aK s=true):prS (dZ [44,32] (l.map aQ))=true:=by
 refine pE _ rfl _ fun a ha=>?_;obtain⟨s,hs,rfl⟩:=List.mem_map.1 ha;exact tD (h s hs)
theorem zf:∀(l:List It) (d:Nat),rvl l d=0→∀y,y∈lns l→LnOk y.2:=by
 refine jS (fun d _ y hy=>by cases hy) fun x r h1 h2 h3 d hv y hy=>?_;obtain⟨s1,s2,s3⟩:=kz hv (List.mem_cons_self ..)
 have hr:rvl r d=0:=by
  rw[rvl]at hv;split at hv
  ·exact hv
  ·rename_i hn;exact absurd hv hn
 rw[lns]at hy;rcases List.mem_append.1 hy with hy|hy;case inr=>exact h3 d hr y hy
 obtain⟨hk,-,-⟩:=fy s1;rw[eP]at hy;split at hy
 ·rename_i k;have he:=gz s1 (.inl k);obtain⟨c,t,e,hc⟩:=yc _ he;rw[List.mem_singleton.1 hy];exact iw (by rw[aD,mr _ he];rfl) (by rw[e];rfl) hc rfl (by decide)
 ·split at hy
  ·rename_i k;have he:=gz s1 (.inr (.inl k));rw[List.mem_singleton.1 hy];exact iw (d:=59) (r':=[115,111,102,116,32]++aH x.ex) (by rw[aD,aD,mr _ he];rfl) (c:=115) rfl (by decide) (by simp) (by decide)
  ·split at hy
   ·rename_i k;obtain⟨-,-,hn⟩:=mU s1 k;have hw:prS (jf x.ws)=true:=pE _ rfl _ fun a ha=>by obtain⟨w,-,rfl⟩:=List.mem_map.1 ha;exact BC w
    rw[List.mem_singleton.1 hy];exact iw (d:=59) (r':=[100,105,115,116,32]++(aQ x.name++([32,123,32]++(jf x.ws++[32,125])))) (by rw[aD,aD,tD hn,aD,aD,hw];rfl) (c:=100) rfl (by decide) (by simp) (by decide)
   ·split at hy
    ·rename_i k;have he:=gz s1 (.inr (.inr k));rcases List.mem_cons.1 hy with rfl|hy
     ·exact iw (d:=123) (r':=[105,102,32,40]++(aH x.ex++[41,32])) (by rw[aD,aD,mr _ he];rfl) (c:=105) rfl (by decide) (by simp) (by decide)
     ·rcases List.mem_append.1 hy with hy|hy
      ·exact ph (h1 (d+1) s2) y hy
      ·rcases List.mem_append.1 hy with hy|hy
       ·split at hy
        ·cases hy
        ·rcases List.mem_cons.1 hy with rfl|hy
         ·exact iw (d:=123) (r':=[125,32,101,108,115,101,32]) (by decide) (c:=125) rfl (by decide) rfl (by decide)
         ·exact ph (h2 (d+1) s3) y hy
       ·rw[List.mem_singleton.1 hy];exact iw (d:=125) (r':=[]) (by decide) (c:=125) rfl (by decide) rfl (by decide)
    ·split at hy
     ·rename_i k;obtain⟨n1,n2⟩:=qh s1 k;rcases List.mem_cons.1 hy with rfl|hy
      ·exact iw (d:=123) (r':=[101,97,99,104,32]++(aQ x.idx++([32,105,110,32]++(aQ x.name++[32])))) (by
        have e1:prS (aQ x.idx)=true:=eQ n2;have e2:prS (aQ x.name)=true:=eQ n1;show prS ([101,97,99,104,32]++(aQ x.idx++([32,105,110,32]++(aQ x.name++[32,123]))))=true;rw[aD,aD,e1,aD,aD,e2];rfl) (c:=101) rfl (by decide) (by simp) (by decide)
      ·rcases List.mem_append.1 hy with hy|hy
       ·exact ph (h1 (d+1) s2) y hy
       ·rw[List.mem_singleton.1 hy];exact iw (d:=125) (r':=[]) (by decide) (c:=125) rfl (by decide) rfl (by decide)
     ·have k:x.kind=6:=by omega
      obtain⟨-,-,n1,n2⟩:=jX s1 k;rw[List.mem_singleton.1 hy];exact iw (d:=59) (r':=[115,111,108,118,101,32]++(dZ [44,32] (x.bef.map aQ)++([32,98,101,102,111,114,101,32]++dZ [44,32] (x.aft.map aQ)))) (by rw[aD,aD,qc n1,aD,aD,qc n2];rfl) (c:=115) rfl (by decide) (by simp) (by decide)
def fi:Bool→Bs→Bs
 | _,[]=>[]
 | f,c::r=>(if f=true then[32,32,32,32]else[])++c::fi (c==10) r
theorem AL{b:Bs}(h:prS b=true):∀c,c∈b→(c==10)=false:=by
 intro c hc;have:=List.all_eq_true.1 h c hc;unfold prB at this;simp only[Bool.and_eq_true,decide_eq_true_eq]at this;cases e:c==10 with
 | false=>rfl
 | true=>rw[beq_iff_eq]at e;subst e;revert this;decide
theorem uk:∀(w q:Bs),(∀c,c∈w→(c==10)=false)→fi false (w++10::q)=w++10::fi true q
 | [],q,_=>rfl
 | c::w,q,h=>by
  rw[List.cons_append,fi,h c (by simp),uk w q fun x hx=>h x (by simp[hx])];rfl
theorem tz(w q:Bs)(h:∀c,c∈w→(c==10)=false):fi true (w++10::q)=[32,32,32,32]++(w++10::fi true q):=by
 cases w with
 | nil=>rfl
 | cons c w=>rw[List.cons_append,fi,h c (by simp),uk w q fun x hx=>h x (by simp[hx])];rfl
theorem yo(k:Nat):∀c,c∈blk k→(c==10)=false:=fun c hc=>by
 rw[(List.mem_replicate.1 hc).2];rfl
theorem vV(k:Nat):[32,32,32,32]++blk k=blk (k+1):=by
 unfold blk;rw[show 4*(k+1)=4+4*k by omega,←List.replicate_append_replicate];rfl
theorem xz(k:Nat)(l:List Ln)(h:∀y,y∈l→prS y.2=true):fi true (aO k l)=aO (k+1) l:=by
 induction l with
 | nil=>rfl
 | cons x r ih=>
  have e:aO k (x::r)=(blk (k+x.1)++x.2)++10::aO k r:=by
   show lnT k x++aO k r=_;unfold lnT;simp
  rw[e,tz _ _ fun c hc=>?_,ih fun y hy=>h y (by simp[hy])]
  ·show _=lnT (k+1) x++aO (k+1) r;unfold lnT;rw[show k+1+x.1=(k+x.1)+1 by omega,←vV];simp
  ·rcases List.mem_append.1 hc with hc|hc
   ·exact yo _ c hc
   ·exact AL (h x (by simp)) c hc
theorem gy{n:Int}(h0:0≤n)(h1:n≤65535):(fO n).length≤5:=by
 have h:=fk n.toNat (by omega);unfold fO Lib.itoa;rw[if_neg (by omega)];exact h
theorem qf{s:ByteArray}(h:aK s=true):(aQ s).length≤23:=by
 unfold aK at h;rw[Bool.or_eq_true]at h;rcases h with h|h;case inr=>have:=bV h;unfold aQ;omega
 ·obtain⟨g1,g2,g3,g4⟩:=cP h;have hl:=bV g1;have h5:=fk (bO s).toNat (by omega);have:=congrArg (fun s:ByteArray=>s.data.toList.length) g4;simp only[fU,pX]at this;have hsz:(cI s 91).size=(cI s 91).data.toList.length:=rfl;unfold aQ;rw[←this];simp[aR];omega
theorem zr{w:Wt}(h:wtB w=true):(wtT w).length≤23:=by
 unfold wtB at h;simp only[Bool.and_eq_true,decide_eq_true_eq]at h;have h1:=gy (n:=w.lo) (by omega) (by omega);have h2:=gy (n:=w.hi) (by omega) (by omega);have h3:=gy (n:=w.w) (by omega) (by omega);unfold wtT;split<;>split<;>simp only[List.length_append,List.length_cons,List.length_nil]<;>omega
theorem jH(sep:Bs)(m:Nat):∀l:List Bs,(∀a,a∈l→a.length≤m)→(dZ sep l).length≤l.length*(m+sep.length)
 | [],_=>by simp[dZ]
 | [a],h=>by
  have:=h a (by simp);simp only[dZ,List.length_cons,List.length_nil];omega
 | a::b::r,h=>by
  have h1:=h a (by simp);have h2:=jH sep m (b::r) fun x hx=>h x (by simp only[List.mem_cons]at hx ⊢;exact .inr hx);rw[dZ,List.length_append,List.length_append];rw[List.length_cons,Nat.add_mul];omega
theorem dn(k:Nat)(x:Ln):(lnT k x).length=4*(k+x.1)+x.2.length+1:=by
 unfold lnT blk;simp only[List.length_append,List.length_replicate,List.length_cons,List.length_nil];omega
theorem aX(k:Nat)(x:Ln)(r:List Ln):aO k (x::r)=lnT k x++aO k r:=rfl
theorem bz(k:Nat):aO k []=[]:=rfl
theorem jZ{l:List ByteArray}(h:∀s,s∈l→aK s=true):(dZ [44,32] (l.map aQ)).length≤l.length*25:=by
 have:=jH [44,32] 23 (l.map aQ) fun a ha=>by
  obtain⟨s,hs,rfl⟩:=List.mem_map.1 ha;exact qf (h s hs)
 simpa using this
theorem xM{l:List Wt}(h:l.all wtB=true):(jf l).length≤l.length*25:=by
 have:=jH [44,32] 23 (l.map wtT) fun a ha=>by
  obtain⟨w,hw,rfl⟩:=List.mem_map.1 ha;exact zr (List.all_eq_true.1 h w hw)
 simpa[jf]using this
theorem gA{a b c m:Nat}(h:172≤m)(h2:c+64*a+25*b+172≤64*a+25*b+m+172):64*a+25*b+c≤(1+a+b)*m:=by
 have h3:a*172≤a*m:=Nat.mul_le_mul_left _ h;have h4:b*172≤b*m:=Nat.mul_le_mul_left _ h;rw[Nat.add_mul,Nat.add_mul];omega
theorem qn(e:Nat):∀(l:List It) (d:Nat),rvl l d=0→(aO (e+d) (lns l)).length≤bq l*(12*e+172):=by
 refine jS (fun d _=>by rw[lns,bz];simp) fun x r h1 h2 h3 d hv=>?_;obtain⟨s1,s2,s3⟩:=kz hv (List.mem_cons_self ..)
 have hr:=h3 d (by
  rw[rvl]at hv;split at hv
  ·exact hv
  ·rename_i hn;exact absurd hv hn)
 obtain⟨hk,-,hd⟩:=fy s1;rw[lns,bw,List.length_append,bq,Nat.add_mul];refine Nat.add_le_add ?_ hr;have i1:=h1 (d+1) s2;have i2:=h2 (d+1) s3;rw[←Nat.add_assoc,←eN]at i1 i2;rw[eP,cm];have hm:172≤12*e+172:=by omega
 have add:∀a b c y z:Nat,64*a+25*b+c≤(1+a+b)*(12*e+172)→y≤bq x.items*(12*e+172)→z≤bq x.els*(12*e+172)→a≤aW x.ex→b≤x.ws.length+x.bef.length+x.aft.length→
  64*a+25*b+c+y+z≤(1+aW x.ex+x.ws.length+x.bef.length+x.aft.length+bq x.items+bq x.els)*(12*e+172):=by
  intro a b c y z g1 g2 g3 g4 g5;have g6:(1+a+b)*(12*e+172)≤(1+aW x.ex+x.ws.length+x.bef.length+x.aft.length)*(12*e+172):=Nat.mul_le_mul_right _ (by omega);rw[Nat.add_mul _ (bq x.els),Nat.add_mul _ (bq x.items)];omega
 split
 ·rename_i k;have he:=g9 _ (gz s1 (.inl k));rw[aX,bz,List.length_append,dn];simp only[List.length_append,List.length_cons,List.length_nil];have:=add (aW x.ex) 0 (4*(e+d)+2) 0 0 (gA hm (by omega)) (Nat.zero_le _) (Nat.zero_le _) (Nat.le_refl _) (Nat.zero_le _);omega
 ·split
  ·rename_i k;have he:=g9 _ (gz s1 (.inr (.inl k)));rw[aX,bz,List.length_append,dn];simp only[List.length_append,List.length_cons,List.length_nil];have:=add (aW x.ex) 0 (4*(e+d)+7) 0 0 (gA hm (by omega)) (Nat.zero_le _) (Nat.zero_le _) (Nat.le_refl _) (Nat.zero_le _);omega
  ·split
   ·rename_i k;obtain⟨-,hw,hn⟩:=mU s1 k;have e1:=qf hn;have e2:=xM hw;rw[aX,bz,List.length_append,dn];simp only[List.length_append,List.length_cons,List.length_nil];have:=add 0 x.ws.length (4*(e+d)+40) 0 0 (gA hm (by omega)) (Nat.zero_le _) (Nat.zero_le _) (Nat.zero_le _) (by omega);omega
   ·split
    ·rename_i k;have he:=g9 _ (gz s1 (.inr (.inr k)));simp only[aX,bw,bz,List.length_append,dn,List.length_cons,List.length_nil];have:=add (aW x.ex) 0 (12*(e+d)+40) _ _ (gA hm (by omega)) i1 i2 (Nat.le_refl _) (Nat.zero_le _);split
     ·simp only[bz,List.length_nil];omega
     ·simp only[aX,List.length_append,dn,List.length_cons,List.length_nil];omega
    ·split
     ·rename_i k;obtain⟨n1,n2⟩:=qh s1 k;have e1:=bV n1;have e2:=bV n2;simp only[aX,bw,bz,List.length_append,dn,List.length_cons,List.length_nil];have:=add 0 0 (8*(e+d)+60) _ 0 (gA hm (by omega)) i1 (Nat.zero_le _) (Nat.zero_le _) (Nat.zero_le _);simp only[aQ];omega
     ·have k:x.kind=6:=by omega
      obtain⟨-,-,n1,n2⟩:=jX s1 k;have e1:=jZ n1;have e2:=jZ n2;rw[aX,bz,List.length_append,dn];simp only[List.length_append,List.length_cons,List.length_nil];have:=add 0 (x.bef.length+x.aft.length) (4*(e+d)+40) 0 0 (gA hm (by omega)) (Nat.zero_le _) (Nat.zero_le _) (Nat.zero_le _) (by omega);omega
end Go.Proofs.YtcbahpllcfbkmaaGreatDoor
