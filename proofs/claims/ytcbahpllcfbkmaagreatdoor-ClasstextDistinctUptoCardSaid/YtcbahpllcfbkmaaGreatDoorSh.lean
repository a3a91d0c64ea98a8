import Derived.Test.YtcbahpllcfbkmaaGreatDoorLq
set_option linter.unusedVariables false
set_option linter.unusedSimpArgs false
set_option linter.unusedSectionVars false
namespace Go.Proofs.YtcbahpllcfbkmaaGreatDoor
open Go.RowKit
inductive Sh:Ex→Prop where
 | const (n:Int) (h0:0≤n) (h1:n≤65535):Sh (.mk 1 n ⟨#[]⟩ [])
 | var (s:ByteArray) (h:aL s=true):Sh (.mk 2 0 s [])
 | elem (s:ByteArray) (x:Ex) (h:aD s=true) (hx:b8 x=0):Sh (.mk 3 0 s [x])
 | pre (o:Int) (x:Ex) (h:o=4∨o=5∨o=6) (hx:b8 x=0):Sh (.mk o 0 ⟨#[]⟩ [x])
 | bin (o:Int) (m:ByteArray) (k:Nat) (x y:Ex) (h:eI o=some (m,k)) (hx:b8 x=0) (hy:b8 y=0):Sh (.mk o 0 ⟨#[]⟩ [x,y])
 | ite (x y z:Ex) (hx:b8 x=0) (hy:b8 y=0) (hz:b8 z=0):Sh (.mk 22 0 ⟨#[]⟩ [x,y,z])
 | inside (x:Ex) (l:List Ex) (hx:b8 x=0) (hl:∀a,a∈l→b8 a=0) (hev:l.length%2=0) (hne:2≤l.length) (h32:l.length≤32):Sh (.mk 23 0 ⟨#[]⟩ (x::l))
 | sum (s:ByteArray) (h:aD s=true):Sh (.mk 24 0 s [])
 | ones (x:Ex) (hx:b8 x=0):Sh (.mk 25 0 ⟨#[]⟩ [x])
theorem rU{e:Ex}(he:b8 e=0):Sh e:=by
 obtain⟨o,n,s,l⟩:=e;obtain⟨hnode,hargs⟩:=jV he;obtain⟨o1,o25,hc,hop,hvar,hname,hn0,hs0⟩:=jR hnode;by_cases c1:o=1
 ·subst c1;have hl:l=[]:=List.eq_nil_of_length_eq_zero (by simpa[bM,cf]using hop);have hs:s=⟨#[]⟩:=hs0 (by decide);subst hl;subst hs;obtain⟨h0,h1⟩:=hc rfl;exact .const n h0 h1
 have hn:n=0:=hn0 c1;subst hn;by_cases c2:o=2
 ·subst c2;have hl:l=[]:=List.eq_nil_of_length_eq_zero (by simpa[bM,cf]using hop);subst hl;exact .var s (hvar rfl)
 by_cases c3:o=3
 ·subst c3;have hnm:=hname (.inl rfl)
  have hl:l.length=1:=by have:(l.length:Int)=1:=by simpa[bM,cf]using hop
                         omega
  obtain⟨x,rfl⟩:=List.length_eq_one_iff.1 hl;exact .elem s x hnm (hargs x (by simp))
 by_cases c24:o=24
 ·subst c24;have hl:l=[]:=List.eq_nil_of_length_eq_zero (by simpa[bM,cf]using hop);subst hl;exact .sum s (hname (.inr rfl))
 have hs:s=⟨#[]⟩:=hs0 (by unfold cE;simp[c2,c3,c24]);subst hs;by_cases c25:o=25
 ·subst c25
  have hl:l.length=1:=by have:(l.length:Int)=1:=by simpa[bM,cf]using hop
                         omega
  obtain⟨x,rfl⟩:=List.length_eq_one_iff.1 hl;exact .ones x (hargs x (by simp))
 by_cases c456:o=4∨o=5∨o=6
 ·have hl:l.length=1:=by
   have:(l.length:Int)=1:=by
    rcases c456 with rfl|rfl|rfl<;>simpa[bM,cf]using hop
   omega
  obtain⟨x,rfl⟩:=List.length_eq_one_iff.1 hl;exact .pre o x c456 (hargs x (by simp))
 by_cases c22:o=22
 ·subst c22
  have hl:l.length=3:=by have:(l.length:Int)=3:=by simpa[bM,cf]using hop
                         omega
  match l,hl,hargs with
  | [x,y,z],_,hargs=>exact .ite x y z (hargs x (by simp)) (hargs y (by simp)) (hargs z (by simp))
 by_cases c23:o=23
 ·subst c23
  have hl:l.length%2=1∧3≤l.length∧l.length≤33:=by
   have:(decide (l.length%2=1)&&decide (3≤l.length)&&decide (l.length≤33))=true:=by simpa[bM]using hop
   simp only[Bool.and_eq_true,decide_eq_true_eq]at this;exact⟨this.1.1,this.1.2,this.2⟩
  match l,hl,hargs with
  | x::m,⟨h1,h2,h3⟩,hargs=>
   simp only[List.length_cons]at h1 h2 h3;exact .inside x m (hargs x (by simp)) (fun a ha=>hargs a (by simp[ha])) (by omega) (by omega) (by omega)
 have hl:l.length=2:=by
  have:(l.length:Int)=2:=by
   have h1:(l.length:Int)=cf o:=by unfold bM at hop;rw[if_neg c23]at hop;exact of_decide_eq_true hop
   rw[h1];unfold cf;rw[if_neg (by omega),if_neg (by omega),if_neg c22,if_neg c23,if_neg (by omega)]
  omega
 match l,hl,hargs with
 | [x,y],_,hargs=>
  obtain⟨k,hk⟩:=Int.eq_ofNat_of_zero_le (show 0≤o by omega);have hb:=ql k (by omega) (by omega);rw[←hk]at hb;obtain⟨⟨m,p⟩,hp⟩:=Option.isSome_iff_exists.1 hb;exact .bin o m p x y hp (hargs x (by simp)) (hargs y (by simp))
def opS(k:Nat)(x:Ex):Bs:=if iU x.op<k then 40::(aF x++[41])else aF x
theorem ii(k:Nat)(x:Ex):txt (fj k (x.op,pcE x))=opS k x:=by
 unfold fj opS;simp only;split
 ·rw[bW,cr,bW];rfl
 ·rfl
theorem cZ(t:Tok)(X:Pc):txt (some t::X)=t.text.data.toList++txt X:=rfl
theorem cx(X:Pc):txt (none::X)=32::txt X:=rfl
theorem p4:txt []=[]:=rfl
theorem fF(n:Int):aF (.mk 1 n ⟨#[]⟩ [])=Lib.decDigits n.toNat:=by
 show txt [some (td n)]=_;rw[cZ,p4,List.append_nil];rfl
theorem gE(s:ByteArray)(x:Ex):aF (.mk 3 0 s [x])=s.data.toList++91::(aF x++[93]):=by
 show txt (some (tn s)::some (tm (al 91))::(pcE x++[some (tm (al 93))]))=_;rw[cZ,bW,cr,bW];rfl
theorem iR(s:ByteArray):aF (.mk 24 0 s [])=[115,117,109,40]++(s.data.toList++[41]):=by
 show txt [some (tn lY),some (tm (al 40)),some (tn s),some (tm (al 41))]=_;rw[cZ,bW,cZ,bW];rfl
theorem gG(x:Ex):aF (.mk 25 0 ⟨#[]⟩ [x])=[111,110,101,115,40]++(aF x++[41]):=by
 show txt (some (tn ip)::some (tm (al 40))::(pcE x++[some (tm (al 41))]))=_;rw[cZ,bW,cr,bW];rfl
theorem kB(x y z:Ex):aF (.mk 22 0 ⟨#[]⟩ [x,y,z])=opS 2 x++([32,63,32]++(opS 1 y++([32,58,32]++opS 1 z))):=by
 show txt (fj 2 (x.op,pcE x)++none::some (tm (al 63))::none::(fj 1 (y.op,pcE y)++none::some (tm (al 58))::none::fj 1 (z.op,pcE z)))=_;rw[cr,cx,bW,cx,cr,cx,bW,cx,ii,ii,ii];rfl
theorem jb{o:Int}{m:ByteArray}{k:Nat}(h:eI o=some (m,k))(x y:Ex):aF (.mk o 0 ⟨#[]⟩ [x,y])=opS (if k=2 then 3 else k) x++(32::(m.data.toList++(32::opS (if k=2 then 2 else k+1) y))):=by
 show txt (iP o 0 ⟨#[]⟩ [(x.op,pcE x),(y.op,pcE y)])=_;unfold iP;rw[h];simp only;rw[cr,cx,cZ,cx];show txt (fj _ (x.op,pcE x))++(32::(m.data.toList++(32::txt (fj _ (y.op,pcE y)))))=_;rw[ii,ii]
theorem CR:∀o,o∈[(4:Int),5,6]→eI o=none:=by decide +kernel
def fX(o:Int):Bs:=if o=4 then[33]else if o=5 then[126]else if o=6 then[45]else[]
theorem iG{o:Int}(h:o=4∨o=5∨o=6)(x:Ex):aF (.mk o 0 ⟨#[]⟩ [x])=fX o++opS 13 x:=by
 rcases h with rfl|rfl|rfl
 ·show txt (some (tm (al 33))::fj 13 (x.op,pcE x))=_;rw[bW,ii];rfl
 ·show txt (some (tm (al 126))::fj 13 (x.op,pcE x))=_;rw[bW,ii];rfl
 ·show txt (some (tm (al 45))::fj 13 (x.op,pcE x))=_;rw[bW,ii];rfl
def dI:List Ex→Bs
 | []=>[]
 | [_]=>[]
 | [a,b]=>aF a++([32,46,46,32]++aF b)
 | a::b::c::r=>(aF a++([32,46,46,32]++aF b))++([44,32]++dI (c::r))
theorem pw:∀l:List Ex,txt (eT (qu l))=dI l
 | []=>rfl
 | [_]=>rfl
 | [a,b]=>by
  show txt (pcE a++none::some (tm (bO 46 46))::none::pcE b)=_;rw[cr,cx,cZ,cx];rfl
 | a::b::c::r=>by
  have:=pw (c::r);show txt (pcE a++none::some (tm (bO 46 46))::none::(pcE b++some (tm (al 44))::none::eT (qu (c::r))))=_;rw[cr,cx,cZ,cx,cr,bW,cx,this];simp only[dI,aF,List.append_assoc];rfl
theorem e8(x:Ex)(l:List Ex):aF (.mk 23 0 ⟨#[]⟩ (x::l))=opS 9 x++([32,105,110,115,105,100,101,32,123,32]++(dI l++[32,125])):=by
 show txt (fj 9 (x.op,pcE x)++none::some (tw cu)::none::some (tm (al 123))::none::(eT (qu l)++[none,some (tm (al 125))]))=_;rw[cr,cx,cZ,cx,bW,cx,cr,pw,cx,bW,ii];rfl
theorem iW(s:ByteArray):aF (.mk 2 0 s [])=if dO s=true then(df s 91).data.toList++64::Lib.decDigits (bT s).toNat else s.data.toList:=by
 show txt ((iu s).map some)=_;unfold iu;split
 ·show txt [some (tn (df s 91)),some (tm (al 64)),some (td (bT s))]=_;rw[cZ,bW,cZ,p4,List.append_nil];rfl
 ·show txt [some (tn s)]=_;rw[cZ,p4,List.append_nil];rfl
theorem gQ(k:Nat)(x:Ex):(opS k x).length≤(aF x).length+2:=by
 unfold opS;split
 ·simp only[List.length_cons,List.length_append,List.length_nil];omega
 ·omega
theorem cq{s:ByteArray}(h:aD s=true):s.data.toList.length≤16:=by
 simp only[aD,Bool.and_eq_true,decide_eq_true_eq]at h;have:=h.1.2;rw[Lib.size_eq]at this;exact this
theorem gI(u:Nat)(h:u≤65535):(Lib.decDigits u).length≤5:=by
 have H:∀(k u:Nat),u<10^(k+1)→(Lib.decDigits u).length≤k+1:=by
  intro k
  induction k with
  | zero=>intro u h;rw[Lib.decDigits,dif_pos (by simpa using h)];simp
  | succ k ih=>
   intro u h;rw[Lib.decDigits];split
   ·simp
   ·have:=ih (u/10) (by rw[Nat.pow_succ]at h;omega);rw[List.length_append,List.length_singleton];omega
 exact H 4 u (by omega)
theorem yG:∀b,b∈cj→b.1.data.toList.length≤2:=by decide +kernel
theorem qU:∀l:List Ex,(∀a,a∈l→(aF a).length+20≤64*ba a)→(dI l).length+10*l.length≤64*bF l
 | [],_=>by simp[dI,bF]
 | [a],h=>by have:=h a (by simp);simp only[dI,bF,List.length_nil,List.length_cons];omega
 | [a,b],h=>by
  have h1:=h a (by simp);have h2:=h b (by simp);simp only[dI,bF,List.length_nil,List.length_cons,List.length_append];omega
 | a::b::c::r,h=>by
  have h1:=h a (by simp);have h2:=h b (by simp);have h3:=qU (c::r) fun x hx=>h x (by simp only[List.mem_cons]at hx ⊢;exact .inr (.inr hx));simp only[dI,bF,List.length_nil,List.length_cons,List.length_append]at h3 ⊢;omega
theorem kP(e:Ex):b8 e=0→(aF e).length+20≤64*ba e:=by
 induction e using Ex.ind with
 | h o n s l ih=>
 intro he;have hs:=rU he;generalize hE:Ex.mk o n s l=E at hs;cases hs with
 | const n h0 h1=>
  have:=gI n.toNat (by omega);rw[fF];simp only[ba,bF];omega
 | var s h=>
  cases hE;rw[iW];unfold aL at h;rw[Bool.or_eq_true]at h;simp only[ba,bF];split
  ·rename_i hel;obtain⟨g1,g2,g3,g4⟩:=cv hel;have h1:=cq g1;have h2:=gI (bT s).toNat (by omega);simp only[List.length_append,List.length_cons];omega
  ·rename_i hel;have h1:=cq (h.resolve_left hel);omega
 | elem s x h hx=>
  cases hE;have h1:=ih x (by simp) hx;have h2:=cq h;rw[gE];simp only[ba,bF,List.length_append,List.length_cons,List.length_nil];omega
 | pre o x h hx=>
  cases hE;have h1:=ih x (by simp) hx;have h2:=gQ 13 x;have h3:(fX o).length≤1:=by rcases h with rfl|rfl|rfl<;>decide
  rw[iG h];simp only[ba,bF,List.length_append];omega
 | bin o m k x y h hx hy=>
  cases hE;have h1:=ih x (by simp) hx;have h2:=ih y (by simp) hy;have h3:=yG _ (fC h);have h4:=gQ (if k=2 then 3 else k) x;have h5:=gQ (if k=2 then 2 else k+1) y;rw[jb h];simp only[ba,bF,List.length_append,List.length_cons]at h3 ⊢;omega
 | ite x y z hx hy hz=>
  cases hE;have h1:=ih x (by simp) hx;have h2:=ih y (by simp) hy;have h3:=ih z (by simp) hz;have h4:=gQ 2 x;have h5:=gQ 1 y;have h6:=gQ 1 z;rw[kB];simp only[ba,bF,List.length_append,List.length_cons,List.length_nil];omega
 | inside x l hx hl hev hne h32=>
  cases hE;have h1:=ih x (by simp) hx;have h2:=qU l fun a ha=>ih a (by simp[ha]) (hl a ha);have h4:=gQ 9 x;rw[e8];simp only[ba,bF,List.length_append,List.length_cons,List.length_nil];omega
 | sum s h=>
  cases hE;have h2:=cq h;rw[iR];simp only[ba,bF,List.length_append,List.length_cons,List.length_nil];omega
 | ones x hx=>
  cases hE;have h1:=ih x (by simp) hx;rw[gG];simp only[ba,bF,List.length_append,List.length_cons,List.length_nil];omega
end Go.Proofs.YtcbahpllcfbkmaaGreatDoor
