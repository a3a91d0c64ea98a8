import Derived.Test.YtcbahpllcfbkmaaGreatDoorLq
set_option linter.unusedVariables false
set_option linter.unusedSimpArgs false
set_option linter.unusedSectionVars false
namespace Go.Proofs.YtcbahpllcfbkmaaGreatDoor
open Go.RowKit
inductive Sh:Ex→Prop where
 | const (n:Int) (h0:0≤n) (h1:n≤65535):Sh (.mk 1 n ⟨#[]⟩ [])
 | var (s:ByteArray) (h:aK s=true):Sh (.mk 2 0 s [])
 | elem (s:ByteArray) (x:Ex) (h:aL s=true) (hx:cu x=0):Sh (.mk 3 0 s [x])
 | pre (o:Int) (x:Ex) (h:o=4∨o=5∨o=6) (hx:cu x=0):Sh (.mk o 0 ⟨#[]⟩ [x])
 | bin (o:Int) (m:ByteArray) (k:Nat) (x y:Ex) (h:eI o=some (m,k)) (hx:cu x=0) (hy:cu y=0):Sh (.mk o 0 ⟨#[]⟩ [x,y])
 | ite (x y z:Ex) (hx:cu x=0) (hy:cu y=0) (hz:cu z=0):Sh (.mk 22 0 ⟨#[]⟩ [x,y,z])
 | inside (x:Ex) (l:List Ex) (hx:cu x=0) (hl:∀a,a∈l→cu a=0) (hev:l.length%2=0) (hne:2≤l.length) (h32:l.length≤32):Sh (.mk 23 0 ⟨#[]⟩ (x::l))
 | sum (s:ByteArray) (h:aL s=true):Sh (.mk 24 0 s [])
 | ones (x:Ex) (hx:cu x=0):Sh (.mk 25 0 ⟨#[]⟩ [x])
theorem qy{e:Ex}(he:cu e=0):Sh e:=by
 obtain⟨o,n,s,l⟩:=e;obtain⟨hnode,hargs⟩:=pI he;obtain⟨o1,o25,hc,hop,hvar,hname,hn0,hs0⟩:=ol hnode;by_cases c1:o=1
 ·subst c1;have hl:l=[]:=List.eq_nil_of_length_eq_zero (by simpa[cd,dg]using hop);have hs:s=⟨#[]⟩:=hs0 (by decide);subst hl;subst hs;obtain⟨h0,h1⟩:=hc rfl;exact .const n h0 h1
 have hn:n=0:=hn0 c1;subst hn;by_cases c2:o=2
 ·subst c2;have hl:l=[]:=List.eq_nil_of_length_eq_zero (by simpa[cd,dg]using hop);subst hl;exact .var s (hvar rfl)
 by_cases c3:o=3
 ·subst c3;have hnm:=hname (.inl rfl)
  have hl:l.length=1:=by have:(l.length:Int)=1:=by simpa[cd,dg]using hop
                         omega
  obtain⟨x,rfl⟩:=List.length_eq_one_iff.1 hl;exact .elem s x hnm (hargs x (by simp))
 by_cases c24:o=24
 ·subst c24;have hl:l=[]:=List.eq_nil_of_length_eq_zero (by simpa[cd,dg]using hop);subst hl;exact .sum s (hname (.inr rfl))
 have hs:s=⟨#[]⟩:=hs0 (by unfold cr;simp[c2,c3,c24]);subst hs;by_cases c25:o=25
 ·subst c25
  have hl:l.length=1:=by have:(l.length:Int)=1:=by simpa[cd,dg]using hop
                         omega
  obtain⟨x,rfl⟩:=List.length_eq_one_iff.1 hl;exact .ones x (hargs x (by simp))
 by_cases c456:o=4∨o=5∨o=6
 ·have hl:l.length=1:=by
   have:(l.length:Int)=1:=by
    rcases c456 with rfl|rfl|rfl<;>simpa[cd,dg]using hop
   omega
  obtain⟨x,rfl⟩:=List.length_eq_one_iff.1 hl;exact .pre o x c456 (hargs x (by simp))
 by_cases c22:o=22
 ·subst c22
  have hl:l.length=3:=by have:(l.length:Int)=3:=by simpa[cd,dg]using hop
                         omega
  match l,hl,hargs with
  | [x,y,z],_,hargs=>exact .ite x y z (hargs x (by simp)) (hargs y (by simp)) (hargs z (by simp))
 by_cases c23:o=23
 ·subst c23
  have hl:l.length%2=1∧3≤l.length∧l.length≤33:=by
   have:(decide (l.length%2=1)&&decide (3≤l.length)&&decide (l.length≤33))=true:=by simpa[cd]using hop
   simp only[Bool.and_eq_true,decide_eq_true_eq]at this;exact⟨this.1.1,this.1.2,this.2⟩
  match l,hl,hargs with
  | x::m,⟨h1,h2,h3⟩,hargs=>
   simp only[List.length_cons]at h1 h2 h3;exact .inside x m (hargs x (by simp)) (fun a ha=>hargs a (by simp[ha])) (by omega) (by omega) (by omega)
 have hl:l.length=2:=by
  have:(l.length:Int)=2:=by
   have h1:(l.length:Int)=dg o:=by unfold cd at hop;rw[if_neg c23]at hop;exact of_decide_eq_true hop
   rw[h1];unfold dg;rw[if_neg (by omega),if_neg (by omega),if_neg c22,if_neg c23,if_neg (by omega)]
  omega
 match l,hl,hargs with
 | [x,y],_,hargs=>
  obtain⟨k,hk⟩:=Int.eq_ofNat_of_zero_le (show 0≤o by omega);have hb:=xQ k (by omega) (by omega);rw[←hk]at hb;obtain⟨⟨m,p⟩,hp⟩:=Option.isSome_iff_exists.1 hb;exact .bin o m p x y hp (hargs x (by simp)) (hargs y (by simp))
def opS(k:Nat)(x:Ex):Bs:=if r9 x.op<k then 40::(aH x++[41])else aH x
theorem fB(k:Nat)(x:Ex):txt (fj k (x.op,pcE x))=opS k x:=by
 unfold fj opS;simp only;split
 ·rw[bR,cR,bR];rfl
 ·rfl
theorem cC(t:Tok)(X:Pc):txt (some t::X)=t.text.data.toList++txt X:=rfl
theorem bY(X:Pc):txt (none::X)=32::txt X:=rfl
theorem mK:txt []=[]:=rfl
theorem fu(n:Int):aH (.mk 1 n ⟨#[]⟩ [])=Lib.decDigits n.toNat:=by
 show txt [some (td n)]=_;rw[cC,mK,List.append_nil];rfl
theorem gu(s:ByteArray)(x:Ex):aH (.mk 3 0 s [x])=s.data.toList++91::(aH x++[93]):=by
 show txt (some (tn s)::some (tm (aR 91))::(pcE x++[some (tm (aR 93))]))=_;rw[cC,bR,cR,bR];rfl
theorem ir(s:ByteArray):aH (.mk 24 0 s [])=[115,117,109,40]++(s.data.toList++[41]):=by
 show txt [some (tn Aj),some (tm (aR 40)),some (tn s),some (tm (aR 41))]=_;rw[cC,bR,cC,bR];rfl
theorem gr(x:Ex):aH (.mk 25 0 ⟨#[]⟩ [x])=[111,110,101,115,40]++(aH x++[41]):=by
 show txt (some (tn tS)::some (tm (aR 40))::(pcE x++[some (tm (aR 41))]))=_;rw[cC,bR,cR,bR];rfl
theorem jR(x y z:Ex):aH (.mk 22 0 ⟨#[]⟩ [x,y,z])=opS 2 x++([32,63,32]++(opS 1 y++([32,58,32]++opS 1 z))):=by
 show txt (fj 2 (x.op,pcE x)++none::some (tm (aR 63))::none::(fj 1 (y.op,pcE y)++none::some (tm (aR 58))::none::fj 1 (z.op,pcE z)))=_;rw[cR,bY,bR,bY,cR,bY,bR,bY,fB,fB,fB];rfl
theorem iI{o:Int}{m:ByteArray}{k:Nat}(h:eI o=some (m,k))(x y:Ex):aH (.mk o 0 ⟨#[]⟩ [x,y])=opS (if k=2 then 3 else k) x++(32::(m.data.toList++(32::opS (if k=2 then 2 else k+1) y))):=by
 show txt (pP o 0 ⟨#[]⟩ [(x.op,pcE x),(y.op,pcE y)])=_;unfold pP;rw[h];simp only;rw[cR,bY,cC,bY];show txt (fj _ (x.op,pcE x))++(32::(m.data.toList++(32::txt (fj _ (y.op,pcE y)))))=_;rw[fB,fB]
theorem xC:∀o,o∈[(4:Int),5,6]→eI o=none:=by decide +kernel
def eH(o:Int):Bs:=if o=4 then[33]else if o=5 then[126]else if o=6 then[45]else[]
theorem iz{o:Int}(h:o=4∨o=5∨o=6)(x:Ex):aH (.mk o 0 ⟨#[]⟩ [x])=eH o++opS 13 x:=by
 rcases h with rfl|rfl|rfl
 ·show txt (some (tm (aR 33))::fj 13 (x.op,pcE x))=_;rw[bR,fB];rfl
 ·show txt (some (tm (aR 126))::fj 13 (x.op,pcE x))=_;rw[bR,fB];rfl
 ·show txt (some (tm (aR 45))::fj 13 (x.op,pcE x))=_;rw[bR,fB];rfl
def cU:List Ex→Bs
 | []=>[]
 | [_]=>[]
 | [a,b]=>aH a++([32,46,46,32]++aH b)
 | a::b::c::r=>(aH a++([32,46,46,32]++aH b))++([44,32]++cU (c::r))
theorem lA:∀l:List Ex,txt (hU (wK l))=cU l
 | []=>rfl
 | [_]=>rfl
 | [a,b]=>by
  show txt (pcE a++none::some (tm (dW 46 46))::none::pcE b)=_;rw[cR,bY,cC,bY];rfl
 | a::b::c::r=>by
  have:=lA (c::r);show txt (pcE a++none::some (tm (dW 46 46))::none::(pcE b++some (tm (aR 44))::none::hU (wK (c::r))))=_;rw[cR,bY,cC,bY,cR,bR,bY,this];simp only[cU,aH,List.append_assoc];rfl
theorem eS(x:Ex)(l:List Ex):aH (.mk 23 0 ⟨#[]⟩ (x::l))=opS 9 x++([32,105,110,115,105,100,101,32,123,32]++(cU l++[32,125])):=by
 show txt (fj 9 (x.op,pcE x)++none::some (tw mS)::none::some (tm (aR 123))::none::(hU (wK l)++[none,some (tm (aR 125))]))=_;rw[cR,bY,cC,bY,bR,bY,cR,lA,bY,bR,fB];rfl
theorem iJ(s:ByteArray):aH (.mk 2 0 s [])=if dj s=true then(cI s 91).data.toList++64::Lib.decDigits (bO s).toNat else s.data.toList:=by
 show txt ((uG s).map some)=_;unfold uG;split
 ·show txt [some (tn (cI s 91)),some (tm (aR 64)),some (td (bO s))]=_;rw[cC,bR,cC,mK,List.append_nil];rfl
 ·show txt [some (tn s)]=_;rw[cC,mK,List.append_nil];rfl
theorem fE(k:Nat)(x:Ex):(opS k x).length≤(aH x).length+2:=by
 unfold opS;split
 ·simp only[List.length_cons,List.length_append,List.length_nil];omega
 ·omega
theorem bV{s:ByteArray}(h:aL s=true):s.data.toList.length≤16:=by
 simp only[aL,Bool.and_eq_true,decide_eq_true_eq]at h;have:=h.1.2;rw[Lib.size_eq]at this;exact this
theorem fk(u:Nat)(h:u≤65535):(Lib.decDigits u).length≤5:=by
 have H:∀(k u:Nat),u<10^(k+1)→(Lib.decDigits u).length≤k+1:=by
  intro k
  induction k with
  | zero=>intro u h;rw[Lib.decDigits,dif_pos (by simpa using h)];simp
  | succ k ih=>
   intro u h;rw[Lib.decDigits];split
   ·simp
   ·have:=ih (u/10) (by rw[Nat.pow_succ]at h;omega);rw[List.length_append,List.length_singleton];omega
 exact H 4 u (by omega)
theorem vA:∀b,b∈dU→b.1.data.toList.length≤2:=by decide +kernel
theorem n9:∀l:List Ex,(∀a,a∈l→(aH a).length+20≤64*aW a)→(cU l).length+10*l.length≤64*bu l
 | [],_=>by simp[cU,bu]
 | [a],h=>by have:=h a (by simp);simp only[cU,bu,List.length_nil,List.length_cons];omega
 | [a,b],h=>by
  have h1:=h a (by simp);have h2:=h b (by simp);simp only[cU,bu,List.length_nil,List.length_cons,List.length_append];omega
 | a::b::c::r,h=>by
  have h1:=h a (by simp);have h2:=h b (by simp);have h3:=n9 (c::r) fun x hx=>h x (by simp only[List.mem_cons]at hx ⊢;exact .inr (.inr hx));simp only[cU,bu,List.length_nil,List.length_cons,List.length_append]at h3 ⊢;omega
theorem g9(e:Ex):cu e=0→(aH e).length+20≤64*aW e:=by
 induction e using Ex.ind with
 | h o n s l ih=>
 intro he;have hs:=qy he;generalize hE:Ex.mk o n s l=E at hs;cases hs with
 | const n h0 h1=>
  have:=fk n.toNat (by omega);rw[fu];simp only[aW,bu];omega
 | var s h=>
  cases hE;rw[iJ];unfold aK at h;rw[Bool.or_eq_true]at h;simp only[aW,bu];split
  ·rename_i hel;obtain⟨g1,g2,g3,g4⟩:=cP hel;have h1:=bV g1;have h2:=fk (bO s).toNat (by omega);simp only[List.length_append,List.length_cons];omega
  ·rename_i hel;have h1:=bV (h.resolve_left hel);omega
 | elem s x h hx=>
  cases hE;have h1:=ih x (by simp) hx;have h2:=bV h;rw[gu];simp only[aW,bu,List.length_append,List.length_cons,List.length_nil];omega
 | pre o x h hx=>
  cases hE;have h1:=ih x (by simp) hx;have h2:=fE 13 x;have h3:(eH o).length≤1:=by rcases h with rfl|rfl|rfl<;>decide
  rw[iz h];simp only[aW,bu,List.length_append];omega
 | bin o m k x y h hx hy=>
  cases hE;have h1:=ih x (by simp) hx;have h2:=ih y (by simp) hy;have h3:=vA _ (i7 h);have h4:=fE (if k=2 then 3 else k) x;have h5:=fE (if k=2 then 2 else k+1) y;rw[iI h];simp only[aW,bu,List.length_append,List.length_cons]at h3 ⊢;omega
 | ite x y z hx hy hz=>
  cases hE;have h1:=ih x (by simp) hx;have h2:=ih y (by simp) hy;have h3:=ih z (by simp) hz;have h4:=fE 2 x;have h5:=fE 1 y;have h6:=fE 1 z;rw[jR];simp only[aW,bu,List.length_append,List.length_cons,List.length_nil];omega
 | inside x l hx hl hev hne h32=>
  cases hE;have h1:=ih x (by simp) hx;have h2:=n9 l fun a ha=>ih a (by simp[ha]) (hl a ha);have h4:=fE 9 x;rw[eS];simp only[aW,bu,List.length_append,List.length_cons,List.length_nil];omega
 | sum s h=>
  cases hE;have h2:=bV h;rw[ir];simp only[aW,bu,List.length_append,List.length_cons,List.length_nil];omega
 | ones x hx=>
  cases hE;have h1:=ih x (by simp) hx;rw[gr];simp only[aW,bu,List.length_append,List.length_cons,List.length_nil];omega
end Go.Proofs.YtcbahpllcfbkmaaGreatDoor
