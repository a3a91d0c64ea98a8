import Derived.Test.YtcbahpllcfbkmaaGreatDoorSh
import Derived.Test.YtcbahpllcfbkmaaGreatDoorToks7
import Derived.Test.YtcbahpllcfbkmaaGreatDoorK3
set_option linter.unusedVariables false
set_option linter.unusedSimpArgs false
set_option linter.unusedSectionVars false
namespace Go.Proofs.YtcbahpllcfbkmaaGreatDoor
open Go.RowKit
def prB(c:UInt8):Bool:=decide (32≤c.toNat)&&decide (c.toNat≤126)
def prS(l:Bs):Bool:=l.all prB
theorem aC(a b:Bs):prS (a++b)=(prS a&&prS b):=List.all_append
theorem ew(c:UInt8)(b:Bs):prS (c::b)=(prB c&&prS b):=List.all_cons
theorem Ei{c:UInt8}(h1:32≤c.toNat)(h2:c.toNat≤126):prB c=true:=by
 unfold prB;rw[decide_eq_true h1,decide_eq_true h2];rfl
theorem dT{s:ByteArray}(h:aD s=true):prS s.data.toList=true:=by
 have hw:=fH h;unfold prS;rw[List.all_eq_true];intro c hc;obtain⟨i,hi,rfl⟩:=List.getElem_of_mem hc;have hi':i<s.size:=by rw[Lib.size_eq];exact hi
 have hf:=mG hw hi';have he:=fG s i hi';rw[List.getElem?_eq_getElem hi]at he;rw[Option.some.inj he];generalize s[i]=c at hf;unfold dK d8 eR qr at hf;simp only[Bool.or_eq_true,Bool.and_eq_true,decide_eq_true_eq]at hf;exact Ei (by omega) (by omega)
theorem nD(u:Nat):prS (Lib.decDigits u)=true:=by
 induction u using Nat.strongRecOn with
 | _ u ih=>
 rw[Lib.decDigits];have hd:∀k,k<10→prB (UInt8.ofNat (48+k))=true:=by decide
 split
 ·rename_i h;rw[ew,hd _ h];rfl
 ·rename_i h;rw[aC,ih _ (by omega),ew,hd _ (by omega)];rfl
theorem mO{k:Nat}{x:Ex}(h:prS (aF x)=true):prS (opS k x)=true:=by
 unfold opS;split
 ·rw[ew,aC,h];rfl
 ·exact h
theorem Co:∀b,b∈cj→prS b.1.data.toList=true:=by decide +kernel
theorem qT:∀l:List Ex,(∀a,a∈l→prS (aF a)=true)→prS (dI l)=true
 | [],_=>rfl
 | [_],_=>rfl
 | [a,b],h=>by
  have h1:=h a (by simp);have h2:=h b (by simp);rw[dI,aC,h1,aC,h2];rfl
 | a::b::c::r,h=>by
  have h1:=h a (by simp);have h2:=h b (by simp);have h3:=qT (c::r) fun x hx=>h x (by simp only[List.mem_cons]at hx ⊢;exact .inr (.inr hx));rw[dI,aC,aC,h1,aC,h2,aC,h3];rfl
theorem pI(e:Ex):b8 e=0→prS (aF e)=true:=by
 induction e using Ex.ind with
 | h o n s l ih=>
 intro he;have hs:=rU he;generalize hE:Ex.mk o n s l=E at hs;cases hs with
 | const n h0 h1=>rw[fF];exact nD _
 | var s h=>
  cases hE;rw[iW];unfold aL at h;rw[Bool.or_eq_true]at h;split
  ·rename_i hel;obtain⟨g1,-⟩:=cv hel;rw[aC,dT g1,ew,nD];rfl
  ·rename_i hel;exact dT (h.resolve_left hel)
 | elem s x h hx=>
  cases hE;rw[gE,aC,dT h,ew,aC,ih x (by simp) hx];rfl
 | pre o x h hx=>
  cases hE;have h3:prS (fX o)=true:=by rcases h with rfl|rfl|rfl<;>decide
  rw[iG h,aC,h3,mO (ih x (by simp) hx)];rfl
 | bin o m k x y h hx hy=>
  cases hE;have h3:=Co _ (fC h);rw[jb h,aC,mO (ih x (by simp) hx),ew,aC,h3,ew,mO (ih y (by simp) hy)];rfl
 | ite x y z hx hy hz=>
  cases hE;rw[kB,aC,mO (ih x (by simp) hx),aC,aC,mO (ih y (by simp) hy),aC,mO (ih z (by simp) hz)];rfl
 | inside x l hx hl hev hne h32=>
  cases hE;rw[e8,aC,mO (ih x (by simp) hx),aC,aC,qT l fun a ha=>ih a (by simp[ha]) (hl a ha)];rfl
 | sum s h=>
  cases hE;rw[iR,aC,aC,dT h];rfl
 | ones x hx=>
  cases hE;rw[gG,aC,aC,ih x (by simp) hx];rfl
theorem yc{e e':Ex}(h:b8 e=0)(h':b8 e'=0)(ht:aF e=aF e'):e=e':=by
 have h1:=o5 h;rw[ht,o5 h']at h1;injection h1 with h1
 have h2:=ni h;rw[←h1,ni h']at h2;injection h2 with h2
 exact h2.symm
abbrev Ln:=Nat×Bs
def blk(k:Nat):Bs:=List.replicate (4*k) 32
def lnT(k:Nat)(x:Ln):Bs:=blk (k+x.1)++(x.2++[10])
def aX(k:Nat)(l:List Ln):Bs:=l.flatMap (lnT k)
def upL(l:List Ln):List Ln:=l.map fun x=>(x.1+1,x.2)
def b9(n:Int):Bs:=Lib.itoa n
def cd(sep:Bs):List Bs→Bs
 | []=>[]
 | [a]=>a
 | a::b::r=>a++(sep++cd sep (b::r))
def wtT(w:Wt):Bs:=b9 w.lo++((if w.hi=w.lo then[]else[32,46,46,32]++b9 w.hi)++((if w.each=true then[32,58,61,32]else[32,58,47,32])++b9 w.w))
def gN(l:List Wt):Bs:=cd [44,32] (l.map wtT)
def aG(s:ByteArray):Bs:=s.data.toList
mutual
def eZ:It→List Ln
 | .mk k e nm ix ws l m bf af=>
  if k=1 then[(0,aF e++[59])]
  else if k=2 then[(0,[115,111,102,116,32]++(aF e++[59]))]
  else if k=3 then[(0,[100,105,115,116,32]++(aG nm++([32,123,32]++(gN ws++[32,125,59]))))]
  else if k=4 then(0,[105,102,32,40]++(aF e++[41,32,123]))::(upL (lns l)++((if m.isEmpty=true then[]else(0,[125,32,101,108,115,101,32,123])::upL (lns m))++[(0,[125])]))
  else if k=5 then(0,[101,97,99,104,32]++(aG ix++([32,105,110,32]++(aG nm++[32,123]))))::(upL (lns l)++[(0,[125])])
  else[(0,[115,111,108,118,101,32]++(cd [44,32] (bf.map aG)++([32,98,101,102,111,114,101,32]++(cd [44,32] (af.map aG)++[59]))))]
def lns:List It→List Ln
 | []=>[]
 | x::r=>eZ x++lns r
end
theorem ft(x:It):eZ x=
 if x.kind=1 then[(0,aF x.ex++[59])]
 else if x.kind=2 then[(0,[115,111,102,116,32]++(aF x.ex++[59]))]
 else if x.kind=3 then[(0,[100,105,115,116,32]++(aG x.name++([32,123,32]++(gN x.ws++[32,125,59]))))]
 else if x.kind=4 then(0,[105,102,32,40]++(aF x.ex++[41,32,123]))::(upL (lns x.items)++((if x.els.isEmpty=true then[]else(0,[125,32,101,108,115,101,32,123])::upL (lns x.els))++[(0,[125])]))
 else if x.kind=5 then(0,[101,97,99,104,32]++(aG x.idx++([32,105,110,32]++(aG x.name++[32,123]))))::(upL (lns x.items)++[(0,[125])])
 else[(0,[115,111,108,118,101,32]++(cd [44,32] (x.bef.map aG)++([32,98,101,102,111,114,101,32]++(cd [44,32] (x.aft.map aG)++[59]))))]:=by
 cases x;rw[eZ];rfl
theorem ut(l m:List It):lns (l++m)=lns l++lns m:=by
 induction l with
 | nil=>rfl
 | cons a r ih=>rw[List.cons_append,lns,lns,ih,List.append_assoc]
theorem bK(k:Nat)(a b:List Ln):aX k (a++b)=aX k a++aX k b:=List.flatMap_append
theorem ga(k:Nat)(l:List Ln):aX k (upL l)=aX (k+1) l:=by
 unfold aX upL;rw[List.flatMap_map];congr 1;funext x;show blk (k+(x.1+1))++_=blk (k+1+x.1)++_;rw[show k+(x.1+1)=k+1+x.1 by omega]
structure LnOk(b:Bs):Prop where
 pr:prS b=true
 hd:∃c r,b=c::r∧c≠32
 last:∃c r,b=r++[c]∧c≠32
theorem iH{b:Bs}(h:prS b=true){c d:UInt8}{r r':Bs}(h1:b=c::r)(hc:c≠32)(h2:b=r'++[d])(hd:d≠32):LnOk b:=⟨h,⟨c,r,h1,hc⟩,⟨d,r',h2,hd⟩⟩
theorem se(sep:Bs)(hs:prS sep=true):∀l:List Bs,(∀a,a∈l→prS a=true)→prS (cd sep l)=true
 | [],_=>rfl
 | [a],h=>h a (by simp)
 | a::b::r,h=>by
  rw[cd,aC,h a (by simp),aC,hs,se sep hs (b::r) fun x hx=>h x (by simp only[List.mem_cons]at hx ⊢;exact .inr hx)];rfl
theorem lp{n:Int}:prS (b9 n)=true:=by
 unfold b9 Lib.itoa;split
 ·rw[ew,nD];rfl
 ·exact nD _
theorem ER(w:Wt):prS (wtT w)=true:=by
 unfold wtT;rw[aC,lp,aC,aC,lp];split<;>split<;>(try rw[aC,lp])<;>rfl
theorem yD{s:ByteArray}(h:aL s=true):prS (aG s)=true:=by
 unfold aL at h;rw[Bool.or_eq_true]at h;rcases h with h|h
 ·obtain⟨g1,g2,g3,g4⟩:=cv h;unfold aG;rw[←g4];show prS (ib _ _).data.toList=true;unfold ib nW al;simp only[ByteArray.data_append,Array.toList_append];rw[aC,dT g1,aC,aC,nD];rfl
 ·exact dT h
theorem DK(u:Nat):∃c r,Lib.decDigits u=c::r∧48≤c.toNat∧c.toNat≤57:=by
 induction u using Nat.strongRecOn with
 | _ u ih=>
 rw[Lib.decDigits];have hd:∀k,k<10→48≤(UInt8.ofNat (48+k)).toNat∧(UInt8.ofNat (48+k)).toNat≤57:=by decide
 split
 ·rename_i h;exact⟨_,[],rfl,hd _ h⟩
 ·rename_i h;obtain⟨c,r,e,h1⟩:=ih (u/10) (by omega);exact⟨c,r++[UInt8.ofNat (48+u%10)],by rw[e];rfl,h1⟩
def wdB(c:UInt8):Bool:=dK c.toNat
theorem fg{s:ByteArray}(h:aD s=true):∀c,c∈s.data.toList→wdB c=true:=by
 have hw:=fH h;intro c hc;obtain⟨i,hi,rfl⟩:=List.getElem_of_mem hc;have hi':i<s.size:=by rw[Lib.size_eq];exact hi
 have hf:=mG hw hi';have he:=fG s i hi';rw[List.getElem?_eq_getElem hi]at he;rw[Option.some.inj he];exact hf
theorem mA(u:Nat):∀c,c∈Lib.decDigits u→48≤c.toNat∧c.toNat≤57:=by
 induction u using Nat.strongRecOn with
 | _ u ih=>
 rw[Lib.decDigits];have hd:∀k,k<10→48≤(UInt8.ofNat (48+k)).toNat∧(UInt8.ofNat (48+k)).toNat≤57:=by decide
 split
 ·rename_i h;intro c hc;rw[List.mem_singleton.1 hc];exact hd _ h
 ·rename_i h;intro c hc;rcases List.mem_append.1 hc with hc|hc
  ·exact ih (u/10) (by omega) c hc
  ·rw[List.mem_singleton.1 hc];exact hd _ (by omega)
theorem qg{s:ByteArray}(h:aD s=true):∃c r,s.data.toList=c::r∧wdB c=true:=by
 have hp:=oq (fH h);rw[Lib.size_eq]at hp;cases e:s.data.toList with
 | nil=>rw[e]at hp;cases hp
 | cons c r=>exact⟨c,r,rfl,fg h c (by rw[e];simp)⟩
theorem rS{c:UInt8}(h:wdB c=true):c≠32∧c≠44∧c≠59∧c≠91:=by
 refine⟨?_,?_,?_,?_⟩<;>(rintro rfl;revert h;decide)
theorem yW{k:Nat}{x:Ex}(h:∃c r,aF x=c::r∧c≠32)(q:Bs):∃c r,opS k x++q=c::r∧c≠32:=by
 unfold opS;split
 ·exact⟨40,_,rfl,by decide⟩
 ·obtain⟨c,r,e,hc⟩:=h;exact⟨c,r++q,by rw[e];rfl,hc⟩
theorem Cg(e:Ex):b8 e=0→∃c r,aF e=c::r∧c≠32:=by
 induction e using Ex.ind with
 | h o n s l ih=>
 intro he;have hs:=rU he;generalize hE:Ex.mk o n s l=E at hs
 have nm:∀{t:ByteArray} (q:Bs),aD t=true→∃c r,t.data.toList++q=c::r∧c≠32:=fun q h=>by
  obtain⟨c,r,e,hc⟩:=qg h;exact⟨c,r++q,by rw[e];rfl,(rS hc).1⟩
 cases hs with
 | const n h0 h1=>
  obtain⟨c,r,e,hc⟩:=DK n.toNat;rw[fF];exact⟨c,r,e,by rintro rfl;revert hc;decide⟩
 | var s h=>
  cases hE;rw[iW];unfold aL at h;rw[Bool.or_eq_true]at h;split
  ·rename_i hel;obtain⟨g1,-⟩:=cv hel;exact nm _ g1
  ·rename_i hel;have:=nm [] (h.resolve_left hel);rw[List.append_nil]at this;exact this
 | elem s x h hx=>cases hE;rw[gE];exact nm _ h
 | pre o x h hx=>
  cases hE;rw[iG h];rcases h with rfl|rfl|rfl
  ·exact⟨33,_,rfl,by decide⟩
  ·exact⟨126,_,rfl,by decide⟩
  ·exact⟨45,_,rfl,by decide⟩
 | bin o m k x y h hx hy=>cases hE;rw[jb h];exact yW (ih x (by simp) hx) _
 | ite x y z hx hy hz=>cases hE;rw[kB];exact yW (ih x (by simp) hx) _
 | inside x l hx hl hev hne h32=>cases hE;rw[e8];exact yW (ih x (by simp) hx) _
 | sum s h=>cases hE;rw[iR];exact⟨115,_,rfl,by decide⟩
 | ones x hx=>cases hE;rw[gG];exact⟨111,_,rfl,by decide⟩
theorem g9{x:It}{d:Nat}(h:aR x d=0):(if x.kind=3 then gn x else if x.kind=6 then iC x else if x.kind=5 then nz x else bU x.ex)=0:=by
 unfold aR at h;split at h
 ·cases h
 ·exact h
theorem kC{x:It}{d:Nat}(h:aR x d=0)(hk:x.kind=3):x.ws≠[]∧x.ws.all wtB=true∧aL x.name=true:=by
 have:=g9 h;rw[if_pos hk]at this;unfold gn at this;split at this
 ·cases this
 ·split at this
  ·cases this
  ·rename_i h1;split at this
   ·cases this
   ·rename_i h2;split at this
    ·rename_i h3;exact⟨h1,by simpa using h2,h3⟩
    ·cases this
theorem iJ{x:It}{d:Nat}(h:aR x d=0)(hk:x.kind=6):x.bef≠[]∧x.aft≠[]∧(∀s,s∈x.bef→aL s=true)∧∀s,s∈x.aft→aL s=true:=by
 have:=g9 h;rw[if_neg (by omega),if_pos hk]at this;unfold iC at this;split at this
 ·cases this
 ·rename_i h1;split at this
  ·rename_i h2;rw[List.all_append,Bool.and_eq_true,List.all_eq_true,List.all_eq_true]at h2;exact⟨fun e=>h1 (.inl e),fun e=>h1 (.inr e),h2.1,h2.2⟩
  ·cases this
theorem mw{x:It}{d:Nat}(h:aR x d=0)(hk:x.kind=5):aD x.name=true∧aD x.idx=true:=by
 have:=g9 h;rw[if_neg (by omega),if_neg (by omega),if_pos hk]at this;unfold nz at this;split at this
 ·assumption
 ·cases this
theorem gY{x:It}{d:Nat}(h:aR x d=0)(hk:x.kind=1∨x.kind=2∨x.kind=4):b8 x.ex=0:=by
 have:=g9 h;rw[if_neg (by omega),if_neg (by omega),if_neg (by omega)]at this;exact sF this
theorem no{P:Bs→Prop}{l:List Ln}(h:∀y,y∈l→P y.2):∀y,y∈upL l→P y.2:=by
 intro y hy;obtain⟨z,hz,rfl⟩:=List.mem_map.1 hy;exact h z hz
theorem uv{l:List ByteArray}(h:∀s,s∈l→aL s=true):prS (cd [44,32] (l.map aG))=true:=by
 refine se _ rfl _ fun a ha=>?_;obtain⟨s,hs,rfl⟩:=List.mem_map.1 ha;exact yD (h s hs)
theorem Dj:∀(l:List It) (d:Nat),rvl l d=0→∀y,y∈lns l→LnOk y.2:=by
 refine kw (fun d _ y hy=>by cases hy) fun x r h1 h2 h3 d hv y hy=>?_;obtain⟨s1,s2,s3⟩:=je hv (List.mem_cons_self ..)
 have hr:rvl r d=0:=by
  rw[rvl]at hv;split at hv
  ·exact hv
  ·rename_i hn;exact absurd hv hn
 rw[lns]at hy;rcases List.mem_append.1 hy with hy|hy;case inr=>exact h3 d hr y hy
 obtain⟨hk,-,-⟩:=dm s1;rw[ft]at hy;split at hy
 ·rename_i k;have he:=gY s1 (.inl k);obtain⟨c,t,e,hc⟩:=Cg _ he;rw[List.mem_singleton.1 hy];exact iH (by rw[aC,pI _ he];rfl) (by rw[e];rfl) hc rfl (by decide)
 ·split at hy
  ·rename_i k;have he:=gY s1 (.inr (.inl k));rw[List.mem_singleton.1 hy];exact iH (d:=59) (r':=[115,111,102,116,32]++aF x.ex) (by rw[aC,aC,pI _ he];rfl) (c:=115) rfl (by decide) (by simp) (by decide)
  ·split at hy
   ·rename_i k;obtain⟨-,-,hn⟩:=kC s1 k;have hw:prS (gN x.ws)=true:=se _ rfl _ fun a ha=>by obtain⟨w,-,rfl⟩:=List.mem_map.1 ha;exact ER w
    rw[List.mem_singleton.1 hy];exact iH (d:=59) (r':=[100,105,115,116,32]++(aG x.name++([32,123,32]++(gN x.ws++[32,125])))) (by rw[aC,aC,yD hn,aC,aC,hw];rfl) (c:=100) rfl (by decide) (by simp) (by decide)
   ·split at hy
    ·rename_i k;have he:=gY s1 (.inr (.inr k));rcases List.mem_cons.1 hy with rfl|hy
     ·exact iH (d:=123) (r':=[105,102,32,40]++(aF x.ex++[41,32])) (by rw[aC,aC,pI _ he];rfl) (c:=105) rfl (by decide) (by simp) (by decide)
     ·rcases List.mem_append.1 hy with hy|hy
      ·exact no (h1 (d+1) s2) y hy
      ·rcases List.mem_append.1 hy with hy|hy
       ·split at hy
        ·cases hy
        ·rcases List.mem_cons.1 hy with rfl|hy
         ·exact iH (d:=123) (r':=[125,32,101,108,115,101,32]) (by decide) (c:=125) rfl (by decide) rfl (by decide)
         ·exact no (h2 (d+1) s3) y hy
       ·rw[List.mem_singleton.1 hy];exact iH (d:=125) (r':=[]) (by decide) (c:=125) rfl (by decide) rfl (by decide)
    ·split at hy
     ·rename_i k;obtain⟨n1,n2⟩:=mw s1 k;rcases List.mem_cons.1 hy with rfl|hy
      ·exact iH (d:=123) (r':=[101,97,99,104,32]++(aG x.idx++([32,105,110,32]++(aG x.name++[32])))) (by
        have e1:prS (aG x.idx)=true:=dT n2;have e2:prS (aG x.name)=true:=dT n1;show prS ([101,97,99,104,32]++(aG x.idx++([32,105,110,32]++(aG x.name++[32,123]))))=true;rw[aC,aC,e1,aC,aC,e2];rfl) (c:=101) rfl (by decide) (by simp) (by decide)
      ·rcases List.mem_append.1 hy with hy|hy
       ·exact no (h1 (d+1) s2) y hy
       ·rw[List.mem_singleton.1 hy];exact iH (d:=125) (r':=[]) (by decide) (c:=125) rfl (by decide) rfl (by decide)
     ·have k:x.kind=6:=by omega
      obtain⟨-,-,n1,n2⟩:=iJ s1 k;rw[List.mem_singleton.1 hy];exact iH (d:=59) (r':=[115,111,108,118,101,32]++(cd [44,32] (x.bef.map aG)++([32,98,101,102,111,114,101,32]++cd [44,32] (x.aft.map aG)))) (by rw[aC,aC,uv n1,aC,aC,uv n2];rfl) (c:=115) rfl (by decide) (by simp) (by decide)
theorem Ew(k:Nat):[32,32,32,32]++blk k=blk (k+1):=by
 unfold blk;rw[show 4*(k+1)=4+4*k by omega,←List.replicate_append_replicate];rfl
theorem jj{n:Int}(h0:0≤n)(h1:n≤65535):(b9 n).length≤5:=by
 have h:=gI n.toNat (by omega);unfold b9 Lib.itoa;rw[if_neg (by omega)];exact h
theorem uy{s:ByteArray}(h:aL s=true):(aG s).length≤23:=by
 unfold aL at h;rw[Bool.or_eq_true]at h;rcases h with h|h;case inr=>have:=cq h;unfold aG;omega
 ·obtain⟨g1,g2,g3,g4⟩:=cv h;have hl:=cq g1;have h5:=gI (bT s).toNat (by omega);have:=congrArg (fun s:ByteArray=>s.data.toList.length) g4;simp only[ib,nW]at this;have hsz:(df s 91).size=(df s 91).data.toList.length:=rfl;unfold aG;rw[←this];simp[al];omega
theorem Er{w:Wt}(h:wtB w=true):(wtT w).length≤23:=by
 unfold wtB at h;simp only[Bool.and_eq_true,decide_eq_true_eq]at h;have h1:=jj (n:=w.lo) (by omega) (by omega);have h2:=jj (n:=w.hi) (by omega) (by omega);have h3:=jj (n:=w.w) (by omega) (by omega);unfold wtT;split<;>split<;>simp only[List.length_append,List.length_cons,List.length_nil]<;>omega
theorem mq(sep:Bs)(m:Nat):∀l:List Bs,(∀a,a∈l→a.length≤m)→(cd sep l).length≤l.length*(m+sep.length)
 | [],_=>by simp[cd]
 | [a],h=>by
  have:=h a (by simp);simp only[cd,List.length_cons,List.length_nil];omega
 | a::b::r,h=>by
  have h1:=h a (by simp);have h2:=mq sep m (b::r) fun x hx=>h x (by simp only[List.mem_cons]at hx ⊢;exact .inr hx);rw[cd,List.length_append,List.length_append];rw[List.length_cons,Nat.add_mul];omega
theorem ec(k:Nat)(x:Ln):(lnT k x).length=4*(k+x.1)+x.2.length+1:=by
 unfold lnT blk;simp only[List.length_append,List.length_replicate,List.length_cons,List.length_nil];omega
theorem bc(k:Nat)(x:Ln)(r:List Ln):aX k (x::r)=lnT k x++aX k r:=rfl
theorem bE(k:Nat):aX k []=[]:=rfl
theorem nF{l:List ByteArray}(h:∀s,s∈l→aL s=true):(cd [44,32] (l.map aG)).length≤l.length*25:=by
 have:=mq [44,32] 23 (l.map aG) fun a ha=>by
  obtain⟨s,hs,rfl⟩:=List.mem_map.1 ha;exact uy (h s hs)
 simpa using this
theorem BT{l:List Wt}(h:l.all wtB=true):(gN l).length≤l.length*25:=by
 have:=mq [44,32] 23 (l.map wtT) fun a ha=>by
  obtain⟨w,hw,rfl⟩:=List.mem_map.1 ha;exact Er (List.all_eq_true.1 h w hw)
 simpa[gN]using this
theorem jm{a b c m:Nat}(h:172≤m)(h2:c+64*a+25*b+172≤64*a+25*b+m+172):64*a+25*b+c≤(1+a+b)*m:=by
 have h3:a*172≤a*m:=Nat.mul_le_mul_left _ h;have h4:b*172≤b*m:=Nat.mul_le_mul_left _ h;rw[Nat.add_mul,Nat.add_mul];omega
theorem B9(e:Nat):∀(l:List It) (d:Nat),rvl l d=0→(aX (e+d) (lns l)).length≤bN l*(12*e+172):=by
 refine kw (fun d _=>by rw[lns,bE];simp) fun x r h1 h2 h3 d hv=>?_;obtain⟨s1,s2,s3⟩:=je hv (List.mem_cons_self ..)
 have hr:=h3 d (by
  rw[rvl]at hv;split at hv
  ·exact hv
  ·rename_i hn;exact absurd hv hn)
 obtain⟨hk,-,hd⟩:=dm s1;rw[lns,bK,List.length_append,bN,Nat.add_mul];refine Nat.add_le_add ?_ hr;have i1:=h1 (d+1) s2;have i2:=h2 (d+1) s3;rw[←Nat.add_assoc,←ga]at i1 i2;rw[ft,cA];have hm:172≤12*e+172:=by omega
 have add:∀a b c y z:Nat,64*a+25*b+c≤(1+a+b)*(12*e+172)→y≤bN x.items*(12*e+172)→z≤bN x.els*(12*e+172)→a≤ba x.ex→b≤x.ws.length+x.bef.length+x.aft.length→
  64*a+25*b+c+y+z≤(1+ba x.ex+x.ws.length+x.bef.length+x.aft.length+bN x.items+bN x.els)*(12*e+172):=by
  intro a b c y z g1 g2 g3 g4 g5;have g6:(1+a+b)*(12*e+172)≤(1+ba x.ex+x.ws.length+x.bef.length+x.aft.length)*(12*e+172):=Nat.mul_le_mul_right _ (by omega);rw[Nat.add_mul _ (bN x.els),Nat.add_mul _ (bN x.items)];omega
 split
 ·rename_i k;have he:=kP _ (gY s1 (.inl k));rw[bc,bE,List.length_append,ec];simp only[List.length_append,List.length_cons,List.length_nil];have:=add (ba x.ex) 0 (4*(e+d)+2) 0 0 (jm hm (by omega)) (Nat.zero_le _) (Nat.zero_le _) (Nat.le_refl _) (Nat.zero_le _);omega
 ·split
  ·rename_i k;have he:=kP _ (gY s1 (.inr (.inl k)));rw[bc,bE,List.length_append,ec];simp only[List.length_append,List.length_cons,List.length_nil];have:=add (ba x.ex) 0 (4*(e+d)+7) 0 0 (jm hm (by omega)) (Nat.zero_le _) (Nat.zero_le _) (Nat.le_refl _) (Nat.zero_le _);omega
  ·split
   ·rename_i k;obtain⟨-,hw,hn⟩:=kC s1 k;have e1:=uy hn;have e2:=BT hw;rw[bc,bE,List.length_append,ec];simp only[List.length_append,List.length_cons,List.length_nil];have:=add 0 x.ws.length (4*(e+d)+40) 0 0 (jm hm (by omega)) (Nat.zero_le _) (Nat.zero_le _) (Nat.zero_le _) (by omega);omega
   ·split
    ·rename_i k;have he:=kP _ (gY s1 (.inr (.inr k)));simp only[bc,bK,bE,List.length_append,ec,List.length_cons,List.length_nil];have:=add (ba x.ex) 0 (12*(e+d)+40) _ _ (jm hm (by omega)) i1 i2 (Nat.le_refl _) (Nat.zero_le _);split
     ·simp only[bE,List.length_nil];omega
     ·simp only[bc,List.length_append,ec,List.length_cons,List.length_nil];omega
    ·split
     ·rename_i k;obtain⟨n1,n2⟩:=mw s1 k;have e1:=cq n1;have e2:=cq n2;simp only[bc,bK,bE,List.length_append,ec,List.length_cons,List.length_nil];have:=add 0 0 (8*(e+d)+60) _ 0 (jm hm (by omega)) i1 (Nat.zero_le _) (Nat.zero_le _) (Nat.zero_le _);simp only[aG];omega
     ·have k:x.kind=6:=by omega
      obtain⟨-,-,n1,n2⟩:=iJ s1 k;have e1:=nF n1;have e2:=nF n2;rw[bc,bE,List.length_append,ec];simp only[List.length_append,List.length_cons,List.length_nil];have:=add 0 (x.bef.length+x.aft.length) (4*(e+d)+40) 0 0 (jm hm (by omega)) (Nat.zero_le _) (Nat.zero_le _) (Nat.zero_le _) (by omega);omega
end Go.Proofs.YtcbahpllcfbkmaaGreatDoor
