import Derived.Test.YthoebpnbhgmoiaaGreatDoorIt1
import Derived.Test.YthoebpnbhgmoiaaGreatDoorEval
set_option linter.unusedVariables false
set_option linter.unusedSimpArgs false
set_option linter.unusedSectionVars false
open Bool renaming and_eq_true→JH,or_eq_true→JI,or_false→JJ
open List renaming take_append_of_le_length→JK,take_of_length_le→JL,length_append→JM,length_take→JO,length_singleton→JP,map_cons→JQ,range→JR
open Nat renaming le_refl→JS,le_trans→JT
namespace Go.Proofs.YthoebpnbhgmoiaaGreatDoor
open Go.RowKit
def aU(n:Int):Ex:=.mk 1 n ⟨#[]⟩ []
def nY(e:Ex):Ex:=.mk 4 0 ⟨#[]⟩ [e]
def ct(op:Int)(q:Option Ex)(e:Ex):Ex:=match q with|none=>e|some c=>.mk op 0 ⟨#[]⟩ [c,e]
def cI:Ex:=.mk 0 0 ⟨#[]⟩ []
def itE(k:Int)(e:Ex):It:=.mk k e ⟨#[]⟩ ⟨#[]⟩ [] [] [] [] []
def itD(x:It):It:=.mk x.kind cI x.name ⟨#[]⟩ x.ws [] [] [] []
def itS(x:It):It:=.mk x.kind cI ⟨#[]⟩ ⟨#[]⟩ [] [] [] x.bef x.aft
mutual
def vF(nm:ByteArray)(b:Ex):It→It
 | .mk k e s ix ws l m bf af=>.mk k (fy nm b e) s ix ws (bU nm b l) (bU nm b m) bf af
def bU(nm:ByteArray)(b:Ex):List It→List It
 | []=>[]
 | a::r=>vF nm b a::bU nm b r
end
theorem lh(nm:ByteArray)(b:Ex)(l:List It):bU nm b l=l.map (vF nm b):=by
 induction l with
 | nil=>rw[bU];rfl
 | cons a r ih=>rw[bU,ih];rfl
theorem gg(nm:ByteArray)(b:Ex)(x:It):vF nm b x=.mk x.kind (fy nm b x.ex) x.name x.idx x.ws (bU nm b x.items) (bU nm b x.els) x.bef x.aft:=by cases x;rw[vF];rfl
theorem tS(nm:ByteArray)(b:Ex):∀l:List It,bN (bU nm b l)=bN l:=by
 refine cL (by rw[bU]) fun x r h1 h2 h3=>?_;rw[bU,bN,bN,h3,hU,hU x,gg];show 1+bN (bU nm b x.items)+bN (bU nm b x.els)+_=_;rw[h1,h2]
def bZ(fs:List (ByteArray×Int))(s:ByteArray):Nat:=((fsz fs s).getD 0).toNat
def fm(fs:List (ByteArray×Int)):Nat→List It→Option Ex→List It
 | 0,_,_=>[]
 | k+1,l,q=>l.flatMap fun x=>
  if x.kind=1∨x.kind=2 then[itE x.kind (ct 21 q x.ex)]
  else if x.kind=4 then fm fs k x.items (some (ct 19 q x.ex))++fm fs k x.els (some (ct 19 q (nY x.ex)))
  else if x.kind=5 then(JR (bZ fs x.name)).flatMap fun(j:Nat)=>fm fs k (bU x.idx (aU (j:Int)) x.items) q
  else if x.kind=3 then[itD x]else[itS x]
section
variable (fs : List (ByteArray × Int))
def iU(k:Nat)(x:It)(q:Option Ex):List It:=
 if x.kind=1∨x.kind=2 then[itE x.kind (ct 21 q x.ex)]
 else if x.kind=4 then fm fs k x.items (some (ct 19 q x.ex))++fm fs k x.els (some (ct 19 q (nY x.ex)))
 else if x.kind=5 then(JR (bZ fs x.name)).flatMap fun(j:Nat)=>fm fs k (bU x.idx (aU (j:Int)) x.items) q
 else if x.kind=3 then[itD x]else[itS x]
theorem uv(k:Nat)(l:List It)(q:Option Ex):fm fs (k+1) l q=l.flatMap fun x=>iU fs k x q:=rfl
end
end Go.Proofs.YthoebpnbhgmoiaaGreatDoor
namespace Go.Proofs.YthoebpnbhgmoiaaGreatDoor
open Go.RowKit
mutual
def frm:List It→Nat→Prop
 | [],_=>True
 | x::r,d=>zC x d∧frm r d
def zC:It→Nat→Prop
 | .mk k e nm ix ws l m bf af,d=>(1≤k∧k≤6)∧bE (.mk k e nm ix ws l m bf af)=true∧d≤4∧frm l (d+1)∧frm m (d+1)
end
theorem jR(x:It)(d:Nat):zC x d↔(1≤x.kind∧x.kind≤6)∧bE x=true∧d≤4∧frm x.items (d+1)∧frm x.els (d+1):=by cases x;rw[zC];rfl
theorem uw{l:List It}{d:Nat}(h:frm l d){x:It}(hx:x∈l):zC x d:=by
 induction l with
 | nil=>cases hx
 | cons a r ih=>
  rw[frm]at h;rcases List.mem_cons.1 hx with rfl|hx
  ·exact h.1
  ·exact ih h.2 hx
theorem vt:∀(l:List It) (d:Nat),rvl l d=0→frm l d:=by
 refine cL (fun d h=>by rw[frm];trivial) fun x r h1 h2 h3 d h=>?_;rw[rvl,pX]at h;rw[frm,jR];by_cases hs:bp x d=0
 ·rw[if_pos hs]at h;obtain⟨g1,g2,g3⟩:=gK hs;by_cases e1:rvl x.items (d+1)=0
  ·rw[if_pos e1]at h;by_cases e2:rvl x.els (d+1)=0
   ·rw[if_pos e2]at h;exact⟨⟨g1,g2,g3,h1 _ e1,h2 _ e2⟩,h3 _ h⟩
   ·rw[if_neg e2]at h;exact absurd h e2
  ·rw[if_neg e1,if_neg e1]at h;exact absurd h e1
 ·rw[if_neg hs,if_neg hs]at h;exact absurd h hs
theorem uU{nm:ByteArray}{b e:Ex}(h:dk e=true):fy nm b e=cI∧e=cI:=by
 unfold dk at h;simp only[JH,decide_eq_true_eq,List.isEmpty_iff]at h;obtain⟨⟨⟨h1,h2⟩,h3⟩,h4⟩:=h;cases e with
 | mk o n s l=>
  simp only[Ex.op,Ex.num,Ex.name,Ex.args]at h1 h2 h3 h4;subst h1 h2 h3 h4;exact⟨by rw[fy,pi];rfl,rfl⟩
theorem se:dk cI=true:=by decide
theorem rC(nm:ByteArray)(b:Ex)(l:List It):(bU nm b l).isEmpty=l.isEmpty:=by cases l<;>rfl
theorem vI{nm:ByteArray}{b:Ex}{x:It}(h:bE x=true):bE (vF nm b x)=true:=by
 rw[gg];unfold bE at h ⊢;simp only[It.kind,It.ex,It.name,It.idx,It.ws,It.items,It.els,It.bef,It.aft,rC]at h ⊢;cases x with
 | mk k e s ix ws l m bf af=>
  simp only[JH,JI]at h ⊢;obtain⟨⟨⟨⟨⟨⟨h1,h2⟩,h3⟩,h4⟩,h5⟩,h6⟩,h7⟩:=h;exact⟨⟨⟨⟨⟨⟨h1.imp_right fun h=>by rw[(uU h).1];exact se,h2⟩,h3⟩,h4⟩,h5⟩,h6⟩,h7⟩
theorem uk(nm:ByteArray)(b:Ex):∀(l:List It) (d:Nat),frm l d→frm (bU nm b l) d:=by
 refine cL (fun d h=>by rw[bU,frm];trivial) fun x r h1 h2 h3 d h=>?_;rw[frm,jR]at h;obtain⟨⟨g1,g2,g3,g4,g5⟩,g6⟩:=h;rw[bU,frm,jR,gg];exact⟨⟨g1,by rw[←gg];exact vI g2,g3,h1 _ g4,h2 _ g5⟩,h3 _ g6⟩
mutual
def okN:Ex→Bool
 | .mk o _ s l=>!(o==2&&decide (s=⟨#[]⟩))&&ny l
def ny:List Ex→Bool
 | []=>true
 | a::r=>okN a&&ny r
end
theorem iH{l:List Ex}:ny l=true↔∀a,a∈l→okN a=true:=by
 induction l with
 | nil=>simp[ny]
 | cons b r ih=>rw[ny,JH,ih];simp
theorem DJ(b:Ex)(e:Ex):okN e=true→fy ⟨#[]⟩ b e=e:=by
 induction e using Ex.ind with
 | h o n s l ih=>
 intro h;rw[okN,JH,iH]at h;rw[fy,if_neg (by have:=h.1;simp at this ⊢;exact fun ho=>this.resolve_left fun hh=>hh ho),i5];congr 1;rw[show l=l.map id from(List.map_id l).symm,List.map_map];exact List.map_congr_left fun a ha=>ih a ha (h.2 a ha)
theorem BG(nm:ByteArray)(n:Int)(e:Ex):okN e=true→okN (fy nm (aU n) e)=true:=by
 induction e using Ex.ind with
 | h o m s l ih=>
 intro h;rw[okN,JH,iH]at h;rw[fy];split
 ·rfl
 ·rw[okN,JH,iH,i5];refine⟨h.1,fun a ha=>?_⟩;obtain⟨x,hx,rfl⟩:=List.mem_map.1 ha;exact ih x hx (h.2 x hx)
theorem qU(nm:ByteArray)(n:Int)(e:Ex):aA (fy nm (aU n) e)≤aA e:=by
 induction e using Ex.ind with
 | h o m s l ih=>
 rw[fy];split
 ·exact oz _
 ·rw[aA,aA,i5]
  have:∀r:List Ex,(∀a,a∈r→a∈l)→aG (r.map (fy nm (aU n)))≤aG r:=by
   intro r
   induction r with
   | nil=>intro _;exact JS _
   | cons a r ihr=>
    intro hm;rw[JQ,aG,aG];exact Nat.add_le_add (ih a (hm a (List.mem_cons_self ..))) (ihr fun x hx=>hm x (List.mem_cons_of_mem _ hx))
  exact Nat.add_le_add_right (this l fun _ h=>h) 1
structure EOk(e:Ex):Prop where
 nm:okN e=true
 sz:aA e≤400
mutual
def iE:List It→Prop
 | []=>True
 | x::r=>rI x∧iE r
def rI:It→Prop
 | .mk _ e _ _ _ l m _ _=>EOk e∧iE l∧iE m
end
theorem iN(x:It):rI x↔EOk x.ex∧iE x.items∧iE x.els:=by cases x;rw[rI];rfl
theorem rp{l:List It}(h:iE l){x:It}(hx:x∈l):rI x:=by
 induction l with
 | nil=>cases hx
 | cons a r ih=>
  rw[iE]at h;rcases List.mem_cons.1 hx with rfl|hx
  ·exact h.1
  ·exact ih h.2 hx
theorem re(nm:ByteArray)(n:Int):∀l:List It,iE l→iE (bU nm (aU n) l):=by
 refine cL (fun h=>by rw[bU,iE];trivial) fun x r h1 h2 h3 h=>?_;rw[iE,iN]at h;rw[bU,iE,iN,gg];exact⟨⟨⟨BG _ _ _ h.1.1.nm,JT (qU _ _ _) h.1.1.sz⟩,h1 h.1.2.1,h2 h.1.2.2⟩,h3 h.2⟩
def QOk(d:Nat)(q:Option Ex):Prop:=∀c,q=some c→okN c=true∧aA c≤402*d
theorem QOk.none(d:Nat):QOk d none:=fun _ h=>by cases h
theorem QOk.mono{d:Nat}{q:Option Ex}(h:QOk d q):QOk (d+1) q:=fun c hc=>⟨(h c hc).1,JT (h c hc).2 (by omega)⟩
theorem m6{d:Nat}{q:Option Ex}(h:QOk d q)(op:Int)(ho:op≠2){e:Ex}(he:okN e=true)(hs:aA e≤401):okN (ct op q e)=true∧aA (ct op q e)≤402*(d+1):=by
 cases q with
 | none=>exact⟨he,by show aA e≤_;omega⟩
 | some c=>
  obtain⟨h1,h2⟩:=h c rfl;have e1:aA (ct op (some c) e)=1+(aA c+(aA e+0)):=by unfold ct;simp only[aA,aG];omega
  refine⟨?_,by omega⟩;show okN (.mk op 0 ⟨#[]⟩ [c,e])=true;rw[okN,ny,ny,ny,h1,he];simp[ho]
theorem pB{e:Ex}(h:EOk e):okN (nY e)=true∧aA (nY e)≤401:=by
 have e1:aA (nY e)=1+(aA e+0):=by unfold nY;simp only[aA,aG];omega
 refine⟨?_,by have:=h.sz;omega⟩;show okN (.mk 4 0 ⟨#[]⟩ [e])=true;rw[okN,ny,ny,h.nm];rfl
theorem l9{d:Nat}{q:Option Ex}(h:QOk d q){e:Ex}(he:okN e=true)(hs:aA e≤401):QOk (d+1) (some (ct 19 q e)):=fun c hc=>by cases hc;exact m6 h 19 (by decide) he hs
def push(s:List It×Bool)(X:List It):List It×Bool:=((s.1++X).take 400,s.2||decide (400<s.1.length+X.length))
def Sok(s:List It×Bool):Prop:=s.1.length≤400∧(s.2=true→s.1.length=400)
theorem pI(s:List It×Bool)(h:Sok s)(X:List It):Sok (push s X):=by
 refine⟨by show((s.1++X).take 400).length≤400;rw[JO];omega,fun hf=>?_⟩;show((s.1++X).take 400).length=400;have hf:(s.2||decide (400<s.1.length+X.length))=true:=hf;rw[JO,JM];rw[JI,decide_eq_true_eq]at hf;rcases hf with hf|hf
 ·have:=h.2 hf;omega
 ·omega
theorem qP(s:List It×Bool)(h:Sok s):push s []=s:=by
 have h1:=h.1;unfold push;rw[List.append_nil,JL h1,List.length_nil,decide_eq_false (by omega),JJ]
theorem iV(s:List It×Bool)(X Y:List It):push (push s X) Y=push s (X++Y):=by
 unfold push;show((((s.1++X).take 400)++Y).take 400,_)=_;congr 1
 ·rw[←List.append_assoc];generalize s.1++X=A;rcases Nat.le_total A.length 400 with h|h
  ·rw[JL h]
  ·rw[JK (by rw[JO];omega),List.take_take,Nat.min_self,JK h]
 ·show((s.2||decide (400<s.1.length+X.length))||decide (400<((s.1++X).take 400).length+Y.length))=_;rw[JO,JM,JM,Bool.or_assoc];congr 1;rw[Bool.eq_iff_iff,JI,decide_eq_true_eq,decide_eq_true_eq,decide_eq_true_eq];omega
theorem xg(s:List It×Bool)(h:Sok s)(hf:s.2=true)(X:List It):push s X=s:=by
 have h1:=h.2 hf;unfold push;rw[JK (by omega),JL (by omega),hf,Bool.true_or,←hf]
theorem yb(s:List It×Bool)(h:Sok s)(x:It):push s [x]=if 400≤s.1.length then(s.1,true)else(s.1++[x],s.2):=by
 unfold push;split
 ·rename_i hl;rw[JK hl,JL h.1,JP,decide_eq_true (by omega),Bool.or_true]
 ·rename_i hl;rw[JL (by rw[JM,JP];omega),JP,decide_eq_false (by omega),JJ]
theorem zh(X:List It):push ([],false) X=(X.take 400,decide (400<X.length)):=by
 unfold push;rw[List.nil_append,Bool.false_or];simp
abbrev dbl(b:Bool):D:=.lit (.bool b)
def dwt(w:Wt):List D:=[ah w.lo,ah w.hi,ah w.w,dbl w.each]
mutual
def dit:It→List D
 | .mk k e nm ix ws l m bf af=>[ah k,ah e.op,ah e.num,al e.name,.sl (e.args.map dex),al nm,al ix,.sl (ws.map dwt),.sl (xS l),.sl (xS m),.sl (bf.map fun s=>[al s]),.sl (af.map fun s=>[al s])]
def xS:List It→List (List D)
 | []=>[]
 | a::r=>dit a::xS r
end
theorem yV(l:List It):xS l=l.map dit:=by
 induction l with
 | nil=>rfl
 | cons a r ih=>simp only[xS,ih,JQ]
theorem cr(x:It):dit x=[ah x.kind,ah x.ex.op,ah x.ex.num,al x.ex.name,.sl (x.ex.args.map dex),al x.name,al x.idx,.sl (x.ws.map dwt),.sl (x.items.map dit),.sl (x.els.map dit),.sl (x.bef.map fun s=>[al s]),.sl (x.aft.map fun s=>[al s])]:=by
 cases x;simp only[dit,yV,It.kind,It.ex,It.name,It.idx,It.ws,It.items,It.els,It.bef,It.aft]
def vit(x:It):V:=.agg ((dit x).map V.d)
theorem aK(x:It):vit x=.agg [.d (ah x.kind),.d (ah x.ex.op),.d (ah x.ex.num),.d (al x.ex.name),.d (.sl (x.ex.args.map dex)),.d (al x.name),.d (al x.idx),.d (.sl (x.ws.map dwt)),.d (.sl (x.items.map dit)),.d (.sl (x.els.map dit)),.d (.sl (x.bef.map fun s=>[al s])),.d (.sl (x.aft.map fun s=>[al s]))]:=by
 unfold vit;rw[cr];rfl
theorem iX(x:It):(dit x).length=12:=by rw[cr];rfl
abbrev de(l:List It):D:=.sl (l.map dit)
mutual
def eO:It→Nat
 | .mk _ e _ _ ws l m bf af=>1+aA e+ws.length+bf.length+af.length+bu l+bu m
def bu:List It→Nat
 | []=>0
 | a::r=>eO a+bu r
end
theorem bI(x:It):eO x=1+aA x.ex+x.ws.length+x.bef.length+x.aft.length+bu x.items+bu x.els:=by cases x;rfl
theorem cm{l:List It}{a:It}(h:a∈l):eO a≤bu l:=by
 induction l with
 | nil=>cases h
 | cons b r ih=>
  rw[bu];rcases List.mem_cons.1 h with rfl|h
  ·omega
  ·have:=ih h;omega
theorem eV(l:List It):l.length≤bu l:=by
 induction l with
 | nil=>exact JS _
 | cons b r ih=>rw[bu,List.length_cons,bI];omega
theorem jX:∀l:List It,bN l≤bu l:=by
 refine cL (JS _) fun x r h1 h2 h3=>?_;rw[bN,bu,hU,bI];omega
structure Fd where
 name:ByteArray
 width:Int
 size:Int
 mode:Int
 init:Int
structure Cl where
 name:ByteArray
 par:ByteArray
 fields:List Fd
 blocks:D
def dfd(f:Fd):List D:=[al f.name,ah f.width,ah f.size,ah f.mode,ah f.init]
abbrev vcl(c:Cl):V:=.agg [.d (al c.name),.d (al c.par),.d (.sl (c.fields.map dfd)),.d c.blocks]
def au(c:Cl):List (ByteArray×Int):=c.fields.map fun f=>(f.name,f.size)
abbrev mu(d:Nat)(bd:List ByteArray):V:=.agg [.d (ah d),.d (.sl (bd.map fun s=>[al s]))]
def kvF(fs:List (ByteArray×Int)):List (Key×V):=fs.map fun f=>(.s f.1,.d (ah f.2))
def FB(σ:List (List V))(i:Nat)(fs:List (ByteArray×Int)):Prop:=σ[i]? = some [.mapc true (kvF fs)]
theorem bD(fs:List (ByteArray×Int))(s:ByteArray):fW (.s s) (kvF fs)=(fsz fs s).map fun n=>.d (ah n):=by
 induction fs with
 | nil=>rfl
 | cons f r ih=>
  unfold kvF at ih ⊢;rw[JQ];unfold fsz at ih ⊢;rw[List.find?_cons];by_cases h:f.1=s
  ·simp[fW,h]
  ·have h2:¬(Key.s f.1=Key.s s):=fun e=>h (Key.s.inj e);simp only[fW,h2,decide_eq_false h,if_false]at ih ⊢;exact ih
end Go.Proofs.YthoebpnbhgmoiaaGreatDoor
