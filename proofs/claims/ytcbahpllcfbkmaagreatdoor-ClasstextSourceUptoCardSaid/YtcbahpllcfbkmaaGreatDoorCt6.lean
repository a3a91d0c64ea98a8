import Derived.Test.YtcbahpllcfbkmaaGreatDoorSh
import Derived.Test.YtcbahpllcfbkmaaGreatDoorToks7
import Derived.Test.YtcbahpllcfbkmaaGreatDoorK3
set_option linter.unusedVariables false
set_option linter.unusedSimpArgs false
set_option linter.unusedSectionVars false
namespace Go.Proofs.YtcbahpllcfbkmaaGreatDoor
open Go.RowKit
abbrev Ln:=Nat×Bs
def blk(k:Nat):Bs:=List.replicate (4*k) 32
def lnT(k:Nat)(x:Ln):Bs:=blk (k+x.1)++(x.2++[10])
def aG(k:Nat)(l:List Ln):Bs:=l.flatMap (lnT k)
def upL(l:List Ln):List Ln:=l.map fun x=>(x.1+1,x.2)
def ii(n:Int):Bs:=Lib.itoa n
def bV(sep:Bs):List Bs→Bs
 | []=>[]
 | [a]=>a
 | a::b::r=>a++(sep++bV sep (b::r))
def wtT(w:Wt):Bs:=ii w.lo++((if w.hi=w.lo then[]else[32,46,46,32]++ii w.hi)++((if w.each=true then[32,58,61,32]else[32,58,47,32])++ii w.w))
def iG(l:List Wt):Bs:=bV [44,32] (l.map wtT)
def aO(s:ByteArray):Bs:=s.data.toList
mutual
def cw:It→List Ln
 | .mk k e nm ix ws l m bf af=>
  if k=1 then[(0,aE e++[59])]
  else if k=2 then[(0,[115,111,102,116,32]++(aE e++[59]))]
  else if k=3 then[(0,[100,105,115,116,32]++(aO nm++([32,123,32]++(iG ws++[32,125,59]))))]
  else if k=4 then(0,[105,102,32,40]++(aE e++[41,32,123]))::(upL (lns l)++((if m.isEmpty=true then[]else(0,[125,32,101,108,115,101,32,123])::upL (lns m))++[(0,[125])]))
  else if k=5 then(0,[101,97,99,104,32]++(aO ix++([32,105,110,32]++(aO nm++[32,123]))))::(upL (lns l)++[(0,[125])])
  else[(0,[115,111,108,118,101,32]++(bV [44,32] (bf.map aO)++([32,98,101,102,111,114,101,32]++(bV [44,32] (af.map aO)++[59]))))]
def lns:List It→List Ln
 | []=>[]
 | x::r=>cw x++lns r
end
theorem cX(x:It):cw x=
 if x.kind=1 then[(0,aE x.ex++[59])]
 else if x.kind=2 then[(0,[115,111,102,116,32]++(aE x.ex++[59]))]
 else if x.kind=3 then[(0,[100,105,115,116,32]++(aO x.name++([32,123,32]++(iG x.ws++[32,125,59]))))]
 else if x.kind=4 then(0,[105,102,32,40]++(aE x.ex++[41,32,123]))::(upL (lns x.items)++((if x.els.isEmpty=true then[]else(0,[125,32,101,108,115,101,32,123])::upL (lns x.els))++[(0,[125])]))
 else if x.kind=5 then(0,[101,97,99,104,32]++(aO x.idx++([32,105,110,32]++(aO x.name++[32,123]))))::(upL (lns x.items)++[(0,[125])])
 else[(0,[115,111,108,118,101,32]++(bV [44,32] (x.bef.map aO)++([32,98,101,102,111,114,101,32]++(bV [44,32] (x.aft.map aO)++[59]))))]:=by
 cases x;rw[cw];rfl
theorem nU(l m:List It):lns (l++m)=lns l++lns m:=by
 induction l with
 | nil=>rfl
 | cons a r ih=>rw[List.cons_append,lns,lns,ih,List.append_assoc]
theorem a7(k:Nat)(a b:List Ln):aG k (a++b)=aG k a++aG k b:=List.flatMap_append
theorem dm(k:Nat)(l:List Ln):aG k (upL l)=aG (k+1) l:=by
 unfold aG upL;rw[List.flatMap_map];congr 1;funext x;show blk (k+(x.1+1))++_=blk (k+1+x.1)++_;rw[show k+(x.1+1)=k+1+x.1 by omega]
theorem ef{x:It}{d:Nat}(h:aZ x d=0):(if x.kind=3 then fp x else if x.kind=6 then gq x else if x.kind=5 then kV x else bB x.ex)=0:=by
 unfold aZ at h;split at h
 ·cases h
 ·exact h
theorem m9{x:It}{d:Nat}(h:aZ x d=0)(hk:x.kind=3):x.ws≠[]∧x.ws.all wtB=true∧bc x.name=true:=by
 have:=ef h;rw[if_pos hk]at this;unfold fp at this;split at this
 ·cases this
 ·split at this
  ·cases this
  ·rename_i h1;split at this
   ·cases this
   ·rename_i h2;split at this
    ·rename_i h3;exact⟨h1,by simpa using h2,h3⟩
    ·cases this
theorem lO{x:It}{d:Nat}(h:aZ x d=0)(hk:x.kind=6):x.bef≠[]∧x.aft≠[]∧(∀s,s∈x.bef→bc s=true)∧∀s,s∈x.aft→bc s=true:=by
 have:=ef h;rw[if_neg (by omega),if_pos hk]at this;unfold gq at this;split at this
 ·cases this
 ·rename_i h1;split at this
  ·rename_i h2;rw[List.all_append,Bool.and_eq_true,List.all_eq_true,List.all_eq_true]at h2;exact⟨fun e=>h1 (.inl e),fun e=>h1 (.inr e),h2.1,h2.2⟩
  ·cases this
theorem yf{x:It}{d:Nat}(h:aZ x d=0)(hk:x.kind=5):aQ x.name=true∧aQ x.idx=true:=by
 have:=ef h;rw[if_neg (by omega),if_neg (by omega),if_pos hk]at this;unfold kV at this;split at this
 ·assumption
 ·cases this
theorem nP{x:It}{d:Nat}(h:aZ x d=0)(hk:x.kind=1∨x.kind=2∨x.kind=4):cL x.ex=0:=by
 have:=ef h;rw[if_neg (by omega),if_neg (by omega),if_neg (by omega)]at this;exact pR this
theorem AJ(k:Nat):[32,32,32,32]++blk k=blk (k+1):=by
 unfold blk;rw[show 4*(k+1)=4+4*k by omega,←List.replicate_append_replicate];rfl
theorem gN{n:Int}(h0:0≤n)(h1:n≤65535):(ii n).length≤5:=by
 have h:=ey n.toNat (by omega);unfold ii Lib.itoa;rw[if_neg (by omega)];exact h
theorem ru{s:ByteArray}(h:bc s=true):(aO s).length≤23:=by
 unfold bc at h;rw[Bool.or_eq_true]at h;rcases h with h|h;case inr=>have:=bP h;unfold aO;omega
 ·obtain⟨g1,g2,g3,g4⟩:=d9 h;have hl:=bP g1;have h5:=ey (bj s).toNat (by omega);have:=congrArg (fun s:ByteArray=>s.data.toList.length) g4;simp only[iv,pK]at this;have hsz:(cQ s 91).size=(cQ s 91).data.toList.length:=rfl;unfold aO;rw[←this];simp[bg];omega
theorem AH{w:Wt}(h:wtB w=true):(wtT w).length≤23:=by
 unfold wtB at h;simp only[Bool.and_eq_true,decide_eq_true_eq]at h;have h1:=gN (n:=w.lo) (by omega) (by omega);have h2:=gN (n:=w.hi) (by omega) (by omega);have h3:=gN (n:=w.w) (by omega) (by omega);unfold wtT;split<;>split<;>simp only[List.length_append,List.length_cons,List.length_nil]<;>omega
theorem gY(sep:Bs)(m:Nat):∀l:List Bs,(∀a,a∈l→a.length≤m)→(bV sep l).length≤l.length*(m+sep.length)
 | [],_=>by simp[bV]
 | [a],h=>by
  have:=h a (by simp);simp only[bV,List.length_cons,List.length_nil];omega
 | a::b::r,h=>by
  have h1:=h a (by simp);have h2:=gY sep m (b::r) fun x hx=>h x (by simp only[List.mem_cons]at hx ⊢;exact .inr hx);rw[bV,List.length_append,List.length_append];rw[List.length_cons,Nat.add_mul];omega
theorem dR(k:Nat)(x:Ln):(lnT k x).length=4*(k+x.1)+x.2.length+1:=by
 unfold lnT blk;simp only[List.length_append,List.length_replicate,List.length_cons,List.length_nil];omega
theorem aH(k:Nat)(x:Ln)(r:List Ln):aG k (x::r)=lnT k x++aG k r:=rfl
theorem a8(k:Nat):aG k []=[]:=rfl
theorem gC{l:List ByteArray}(h:∀s,s∈l→bc s=true):(bV [44,32] (l.map aO)).length≤l.length*25:=by
 have:=gY [44,32] 23 (l.map aO) fun a ha=>by
  obtain⟨s,hs,rfl⟩:=List.mem_map.1 ha;exact ru (h s hs)
 simpa using this
theorem yk{l:List Wt}(h:l.all wtB=true):(iG l).length≤l.length*25:=by
 have:=gY [44,32] 23 (l.map wtT) fun a ha=>by
  obtain⟨w,hw,rfl⟩:=List.mem_map.1 ha;exact AH (List.all_eq_true.1 h w hw)
 simpa[iG]using this
theorem hU{a b c m:Nat}(h:172≤m)(h2:c+64*a+25*b+172≤64*a+25*b+m+172):64*a+25*b+c≤(1+a+b)*m:=by
 have h3:a*172≤a*m:=Nat.mul_le_mul_left _ h;have h4:b*172≤b*m:=Nat.mul_le_mul_left _ h;rw[Nat.add_mul,Nat.add_mul];omega
theorem yY(e:Nat):∀(l:List It) (d:Nat),rvl l d=0→(aG (e+d) (lns l)).length≤bG l*(12*e+172):=by
 refine nS (fun d _=>by rw[lns,a8];simp) fun x r h1 h2 h3 d hv=>?_;obtain⟨s1,s2,s3⟩:=lB hv (List.mem_cons_self ..)
 have hr:=h3 d (by
  rw[rvl]at hv;split at hv
  ·exact hv
  ·rename_i hn;exact absurd hv hn)
 obtain⟨hk,-,hd⟩:=fW s1;rw[lns,a7,List.length_append,bG,Nat.add_mul];refine Nat.add_le_add ?_ hr;have i1:=h1 (d+1) s2;have i2:=h2 (d+1) s3;rw[←Nat.add_assoc,←dm]at i1 i2;rw[cX,bU];have hm:172≤12*e+172:=by omega
 have add:∀a b c y z:Nat,64*a+25*b+c≤(1+a+b)*(12*e+172)→y≤bG x.items*(12*e+172)→z≤bG x.els*(12*e+172)→a≤bh x.ex→b≤x.ws.length+x.bef.length+x.aft.length→
  64*a+25*b+c+y+z≤(1+bh x.ex+x.ws.length+x.bef.length+x.aft.length+bG x.items+bG x.els)*(12*e+172):=by
  intro a b c y z g1 g2 g3 g4 g5;have g6:(1+a+b)*(12*e+172)≤(1+bh x.ex+x.ws.length+x.bef.length+x.aft.length)*(12*e+172):=Nat.mul_le_mul_right _ (by omega);rw[Nat.add_mul _ (bG x.els),Nat.add_mul _ (bG x.items)];omega
 split
 ·rename_i k;have he:=gu _ (nP s1 (.inl k));rw[aH,a8,List.length_append,dR];simp only[List.length_append,List.length_cons,List.length_nil];have:=add (bh x.ex) 0 (4*(e+d)+2) 0 0 (hU hm (by omega)) (Nat.zero_le _) (Nat.zero_le _) (Nat.le_refl _) (Nat.zero_le _);omega
 ·split
  ·rename_i k;have he:=gu _ (nP s1 (.inr (.inl k)));rw[aH,a8,List.length_append,dR];simp only[List.length_append,List.length_cons,List.length_nil];have:=add (bh x.ex) 0 (4*(e+d)+7) 0 0 (hU hm (by omega)) (Nat.zero_le _) (Nat.zero_le _) (Nat.le_refl _) (Nat.zero_le _);omega
  ·split
   ·rename_i k;obtain⟨-,hw,hn⟩:=m9 s1 k;have e1:=ru hn;have e2:=yk hw;rw[aH,a8,List.length_append,dR];simp only[List.length_append,List.length_cons,List.length_nil];have:=add 0 x.ws.length (4*(e+d)+40) 0 0 (hU hm (by omega)) (Nat.zero_le _) (Nat.zero_le _) (Nat.zero_le _) (by omega);omega
   ·split
    ·rename_i k;have he:=gu _ (nP s1 (.inr (.inr k)));simp only[aH,a7,a8,List.length_append,dR,List.length_cons,List.length_nil];have:=add (bh x.ex) 0 (12*(e+d)+40) _ _ (hU hm (by omega)) i1 i2 (Nat.le_refl _) (Nat.zero_le _);split
     ·simp only[a8,List.length_nil];omega
     ·simp only[aH,List.length_append,dR,List.length_cons,List.length_nil];omega
    ·split
     ·rename_i k;obtain⟨n1,n2⟩:=yf s1 k;have e1:=bP n1;have e2:=bP n2;simp only[aH,a7,a8,List.length_append,dR,List.length_cons,List.length_nil];have:=add 0 0 (8*(e+d)+60) _ 0 (hU hm (by omega)) i1 (Nat.zero_le _) (Nat.zero_le _) (Nat.zero_le _);simp only[aO];omega
     ·have k:x.kind=6:=by omega
      obtain⟨-,-,n1,n2⟩:=lO s1 k;have e1:=gC n1;have e2:=gC n2;rw[aH,a8,List.length_append,dR];simp only[List.length_append,List.length_cons,List.length_nil];have:=add 0 (x.bef.length+x.aft.length) (4*(e+d)+40) 0 0 (hU hm (by omega)) (Nat.zero_le _) (Nat.zero_le _) (Nat.zero_le _) (by omega);omega
end Go.Proofs.YtcbahpllcfbkmaaGreatDoor
