import Derived.Test.YthekkgfmagliiaaGreatDoorLq
set_option linter.unusedVariables false
set_option linter.unusedSimpArgs false
set_option linter.unusedSectionVars false
namespace Go.Proofs.YthekkgfmagliiaaGreatDoor
open Go.RowKit
inductive Sh:Ex→Prop where
 | const (n:Int) (h0:0≤n) (h1:n≤65535):Sh (.mk 1 n ⟨#[]⟩ [])
 | var (s:ByteArray) (h:dI s=true):Sh (.mk 2 0 s [])
 | elem (s:ByteArray) (x:Ex) (h:bj s=true) (hx:cZ x=0):Sh (.mk 3 0 s [x])
 | pre (o:Int) (x:Ex) (h:o=4∨o=5∨o=6) (hx:cZ x=0):Sh (.mk o 0 ⟨#[]⟩ [x])
 | bin (o:Int) (m:ByteArray) (k:Nat) (x y:Ex) (h:dS o=some (m,k)) (hx:cZ x=0) (hy:cZ y=0):Sh (.mk o 0 ⟨#[]⟩ [x,y])
 | ite (x y z:Ex) (hx:cZ x=0) (hy:cZ y=0) (hz:cZ z=0):Sh (.mk 22 0 ⟨#[]⟩ [x,y,z])
 | inside (x:Ex) (l:List Ex) (hx:cZ x=0) (hl:∀a,a∈l→cZ a=0) (hev:l.length%2=0) (hne:2≤l.length) (h32:l.length≤32):Sh (.mk 23 0 ⟨#[]⟩ (x::l))
 | sum (s:ByteArray) (h:bj s=true):Sh (.mk 24 0 s [])
 | ones (x:Ex) (hx:cZ x=0):Sh (.mk 25 0 ⟨#[]⟩ [x])
theorem zo{e:Ex}(he:cZ e=0):Sh e:=by
 obtain⟨o,n,s,l⟩:=e;obtain⟨hnode,hargs⟩:=sG he;obtain⟨o1,o25,hc,hop,hvar,hname,hn0,hs0⟩:=so hnode;by_cases c1:o=1
 ·subst c1;have hl:l=[]:=List.eq_nil_of_length_eq_zero (by simpa[cw,dT]using hop);have hs:s=⟨#[]⟩:=hs0 (by decide);subst hl;subst hs;obtain⟨h0,h1⟩:=hc rfl;exact .const n h0 h1
 have hn:n=0:=hn0 c1;subst hn;by_cases c2:o=2
 ·subst c2;have hl:l=[]:=List.eq_nil_of_length_eq_zero (by simpa[cw,dT]using hop);subst hl;exact .var s (hvar rfl)
 by_cases c3:o=3
 ·subst c3;have hnm:=hname (.inl rfl)
  have hl:l.length=1:=by have:(l.length:Int)=1:=by simpa[cw,dT]using hop
                         omega
  obtain⟨x,rfl⟩:=List.length_eq_one_iff.1 hl;exact .elem s x hnm (hargs x (by simp))
 by_cases c24:o=24
 ·subst c24;have hl:l=[]:=List.eq_nil_of_length_eq_zero (by simpa[cw,dT]using hop);subst hl;exact .sum s (hname (.inr rfl))
 have hs:s=⟨#[]⟩:=hs0 (by unfold cG;simp[c2,c3,c24]);subst hs;by_cases c25:o=25
 ·subst c25
  have hl:l.length=1:=by have:(l.length:Int)=1:=by simpa[cw,dT]using hop
                         omega
  obtain⟨x,rfl⟩:=List.length_eq_one_iff.1 hl;exact .ones x (hargs x (by simp))
 by_cases c456:o=4∨o=5∨o=6
 ·have hl:l.length=1:=by
   have:(l.length:Int)=1:=by
    rcases c456 with rfl|rfl|rfl<;>simpa[cw,dT]using hop
   omega
  obtain⟨x,rfl⟩:=List.length_eq_one_iff.1 hl;exact .pre o x c456 (hargs x (by simp))
 by_cases c22:o=22
 ·subst c22
  have hl:l.length=3:=by have:(l.length:Int)=3:=by simpa[cw,dT]using hop
                         omega
  match l,hl,hargs with
  | [x,y,z],_,hargs=>exact .ite x y z (hargs x (by simp)) (hargs y (by simp)) (hargs z (by simp))
 by_cases c23:o=23
 ·subst c23
  have hl:l.length%2=1∧3≤l.length∧l.length≤33:=by
   have:(decide (l.length%2=1)&&decide (3≤l.length)&&decide (l.length≤33))=true:=by simpa[cw]using hop
   simp only[Bool.and_eq_true,decide_eq_true_eq]at this;exact⟨this.1.1,this.1.2,this.2⟩
  match l,hl,hargs with
  | x::m,⟨h1,h2,h3⟩,hargs=>
   simp only[List.length_cons]at h1 h2 h3;exact .inside x m (hargs x (by simp)) (fun a ha=>hargs a (by simp[ha])) (by omega) (by omega) (by omega)
 have hl:l.length=2:=by
  have:(l.length:Int)=2:=by
   have h1:(l.length:Int)=dT o:=by unfold cw at hop;rw[if_neg c23]at hop;exact of_decide_eq_true hop
   rw[h1];unfold dT;rw[if_neg (by omega),if_neg (by omega),if_neg c22,if_neg c23,if_neg (by omega)]
  omega
 match l,hl,hargs with
 | [x,y],_,hargs=>
  obtain⟨k,hk⟩:=Int.eq_ofNat_of_zero_le (show 0≤o by omega);have hb:=Aw k (by omega) (by omega);rw[←hk]at hb;obtain⟨⟨m,p⟩,hp⟩:=Option.isSome_iff_exists.1 hb;exact .bin o m p x y hp (hargs x (by simp)) (hargs y (by simp))
def opS(k:Nat)(x:Ex):Bs:=if kW x.op<k then 40::(aJ x++[41])else aJ x
theorem fZ(k:Nat)(x:Ex):txt (fR k (x.op,pcE x))=opS k x:=by
 unfold fR opS;simp only;split
 ·rw[b6,dq,b6];rfl
 ·rfl
theorem oD(x:Ex):opS 1 x=aJ x:=by
 unfold opS;rw[if_neg (by have:=(AC x.op).1;omega)]
theorem cS(t:Tok)(X:Pc):txt (some t::X)=t.text.data.toList++txt X:=rfl
theorem ci(X:Pc):txt (none::X)=32::txt X:=rfl
theorem ph:txt []=[]:=rfl
theorem iC(n:Int):aJ (.mk 1 n ⟨#[]⟩ [])=Lib.decDigits n.toNat:=by
 show txt [some (td n)]=_;rw[cS,ph,List.append_nil];rfl
theorem jF(s:ByteArray)(x:Ex):aJ (.mk 3 0 s [x])=s.data.toList++91::(aJ x++[93]):=by
 show txt (some (tn s)::some (tm (bE 91))::(pcE x++[some (tm (bE 93))]))=_;rw[cS,b6,dq,b6];rfl
theorem lM(s:ByteArray):aJ (.mk 24 0 s [])=[115,117,109,40]++(s.data.toList++[41]):=by
 show txt [some (tn Fe),some (tm (bE 40)),some (tn s),some (tm (bE 41))]=_;rw[cS,b6,cS,b6];rfl
theorem j9(x:Ex):aJ (.mk 25 0 ⟨#[]⟩ [x])=[111,110,101,115,40]++(aJ x++[41]):=by
 show txt (some (tn BF)::some (tm (bE 40))::(pcE x++[some (tm (bE 41))]))=_;rw[cS,b6,dq,b6];rfl
theorem ou(x y z:Ex):aJ (.mk 22 0 ⟨#[]⟩ [x,y,z])=opS 2 x++([32,63,32]++(opS 1 y++([32,58,32]++opS 1 z))):=by
 show txt (fR 2 (x.op,pcE x)++none::some (tm (bE 63))::none::(fR 1 (y.op,pcE y)++none::some (tm (bE 58))::none::fR 1 (z.op,pcE z)))=_;rw[dq,ci,b6,ci,dq,ci,b6,ci,fZ,fZ,fZ];rfl
theorem lD{o:Int}{m:ByteArray}{k:Nat}(h:dS o=some (m,k))(x y:Ex):aJ (.mk o 0 ⟨#[]⟩ [x,y])=opS (if k=2 then 3 else k) x++(32::(m.data.toList++(32::opS (if k=2 then 2 else k+1) y))):=by
 show txt (sp o 0 ⟨#[]⟩ [(x.op,pcE x),(y.op,pcE y)])=_;unfold sp;rw[h];simp only;rw[dq,ci,cS,ci];show txt (fR _ (x.op,pcE x))++(32::(m.data.toList++(32::txt (fR _ (y.op,pcE y)))))=_;rw[fZ,fZ]
theorem BB:∀o,o∈[(4:Int),5,6]→dS o=none:=by decide +kernel
def cJ(o:Int):Bs:=if o=4 then[33]else if o=5 then[126]else if o=6 then[45]else[]
theorem mF{o:Int}(h:o=4∨o=5∨o=6)(x:Ex):aJ (.mk o 0 ⟨#[]⟩ [x])=cJ o++opS 13 x:=by
 rcases h with rfl|rfl|rfl
 ·show txt (some (tm (bE 33))::fR 13 (x.op,pcE x))=_;rw[b6,fZ];rfl
 ·show txt (some (tm (bE 126))::fR 13 (x.op,pcE x))=_;rw[b6,fZ];rfl
 ·show txt (some (tm (bE 45))::fR 13 (x.op,pcE x))=_;rw[b6,fZ];rfl
def bN:List Ex→Bs
 | []=>[]
 | [_]=>[]
 | [a,b]=>aJ a++([32,46,46,32]++aJ b)
 | a::b::c::r=>(aJ a++([32,46,46,32]++aJ b))++([44,32]++bN (c::r))
theorem nB:∀l:List Ex,txt (i6 (yt l))=bN l
 | []=>rfl
 | [_]=>rfl
 | [a,b]=>by
  show txt (pcE a++none::some (tm (eG 46 46))::none::pcE b)=_;rw[dq,ci,cS,ci];rfl
 | a::b::c::r=>by
  have:=nB (c::r);show txt (pcE a++none::some (tm (eG 46 46))::none::(pcE b++some (tm (bE 44))::none::i6 (yt (c::r))))=_;rw[dq,ci,cS,ci,dq,b6,ci,this];simp only[bN,aJ,List.append_assoc];rfl
theorem gH(x:Ex)(l:List Ex):aJ (.mk 23 0 ⟨#[]⟩ (x::l))=opS 9 x++([32,105,110,115,105,100,101,32,123,32]++(bN l++[32,125])):=by
 show txt (fR 9 (x.op,pcE x)++none::some (tw s7)::none::some (tm (bE 123))::none::(i6 (yt l)++[none,some (tm (bE 125))]))=_;rw[dq,ci,cS,ci,b6,ci,dq,nB,ci,b6,fZ];rfl
theorem lQ(s:ByteArray):aJ (.mk 2 0 s [])=if fh s=true then(eR s 91).data.toList++64::Lib.decDigits (bH s).toNat else s.data.toList:=by
 show txt ((zA s).map some)=_;unfold zA;split
 ·show txt [some (tn (eR s 91)),some (tm (bE 64)),some (td (bH s))]=_;rw[cS,b6,cS,ph,List.append_nil];rfl
 ·show txt [some (tn s)]=_;rw[cS,ph,List.append_nil];rfl
theorem fU(k:Nat)(x:Ex):(opS k x).length≤(aJ x).length+2:=by
 unfold opS;split
 ·simp only[List.length_cons,List.length_append,List.length_nil];omega
 ·omega
theorem cT{s:ByteArray}(h:bj s=true):s.data.toList.length≤16:=by
 simp only[bj,Bool.and_eq_true,decide_eq_true_eq]at h;have:=h.1.2;rw[Lib.size_eq]at this;exact this
theorem gE(u:Nat)(h:u≤65535):(Lib.decDigits u).length≤5:=by
 have H:∀(k u:Nat),u<10^(k+1)→(Lib.decDigits u).length≤k+1:=by
  intro k
  induction k with
  | zero=>intro u h;rw[Lib.decDigits,dif_pos (by simpa using h)];simp
  | succ k ih=>
   intro u h;rw[Lib.decDigits];split
   ·simp
   ·have:=ih (u/10) (by rw[Nat.pow_succ]at h;omega);rw[List.length_append,List.length_singleton];omega
 exact H 4 u (by omega)
theorem yF:∀b,b∈fI→b.1.data.toList.length≤2:=by decide +kernel
theorem qp:∀l:List Ex,(∀a,a∈l→(aJ a).length+20≤64*ba a)→(bN l).length+10*l.length≤64*bF l
 | [],_=>by simp[bN,bF]
 | [a],h=>by have:=h a (by simp);simp only[bN,bF,List.length_nil,List.length_cons];omega
 | [a,b],h=>by
  have h1:=h a (by simp);have h2:=h b (by simp);simp only[bN,bF,List.length_nil,List.length_cons,List.length_append];omega
 | a::b::c::r,h=>by
  have h1:=h a (by simp);have h2:=h b (by simp);have h3:=qp (c::r) fun x hx=>h x (by simp only[List.mem_cons]at hx ⊢;exact .inr (.inr hx));simp only[bN,bF,List.length_nil,List.length_cons,List.length_append]at h3 ⊢;omega
theorem lV(e:Ex):cZ e=0→(aJ e).length+20≤64*ba e:=by
 induction e using Ex.ind with
 | h o n s l ih=>
 intro he;have hs:=zo he;generalize hE:Ex.mk o n s l=E at hs;cases hs with
 | const n h0 h1=>
  have:=gE n.toNat (by omega);rw[iC];simp only[ba,bF];omega
 | var s h=>
  cases hE;rw[lQ];unfold dI at h;rw[Bool.or_eq_true]at h;simp only[ba,bF];split
  ·rename_i hel;obtain⟨g1,g2,g3,g4⟩:=jU hel;have h1:=cT g1;have h2:=gE (bH s).toNat (by omega);simp only[List.length_append,List.length_cons];omega
  ·rename_i hel;have h1:=cT (h.resolve_left hel);omega
 | elem s x h hx=>
  cases hE;have h1:=ih x (by simp) hx;have h2:=cT h;rw[jF];simp only[ba,bF,List.length_append,List.length_cons,List.length_nil];omega
 | pre o x h hx=>
  cases hE;have h1:=ih x (by simp) hx;have h2:=fU 13 x;have h3:(cJ o).length≤1:=by rcases h with rfl|rfl|rfl<;>decide
  rw[mF h];simp only[ba,bF,List.length_append];omega
 | bin o m k x y h hx hy=>
  cases hE;have h1:=ih x (by simp) hx;have h2:=ih y (by simp) hy;have h3:=yF _ (dA h);have h4:=fU (if k=2 then 3 else k) x;have h5:=fU (if k=2 then 2 else k+1) y;rw[lD h];simp only[ba,bF,List.length_append,List.length_cons]at h3 ⊢;omega
 | ite x y z hx hy hz=>
  cases hE;have h1:=ih x (by simp) hx;have h2:=ih y (by simp) hy;have h3:=ih z (by simp) hz;have h4:=fU 2 x;have h5:=fU 1 y;have h6:=fU 1 z;rw[ou];simp only[ba,bF,List.length_append,List.length_cons,List.length_nil];omega
 | inside x l hx hl hev hne h32=>
  cases hE;have h1:=ih x (by simp) hx;have h2:=qp l fun a ha=>ih a (by simp[ha]) (hl a ha);have h4:=fU 9 x;rw[gH];simp only[ba,bF,List.length_append,List.length_cons,List.length_nil];omega
 | sum s h=>
  cases hE;have h2:=cT h;rw[lM];simp only[ba,bF,List.length_append,List.length_cons,List.length_nil];omega
 | ones x hx=>
  cases hE;have h1:=ih x (by simp) hx;rw[j9];simp only[ba,bF,List.length_append,List.length_cons,List.length_nil];omega
end Go.Proofs.YthekkgfmagliiaaGreatDoor
