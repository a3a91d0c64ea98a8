import Derived.Test.YthoebpnbhgmoiaaGreatDoorRefs8
import Derived.Test.YthoebpnbhgmoiaaGreatDoorFold
import Derived.Test.YthoebpnbhgmoiaaGreatDoorData
import Derived.Test.YthoebpnbhgmoiaaGreatDoorNames2
set_option linter.unusedVariables false
set_option linter.unusedSimpArgs false
set_option linter.unusedSectionVars false
namespace Go.Proofs.YthoebpnbhgmoiaaGreatDoor
open Go.RowKit
theorem cntL_ge(l:List Ex):∀k n:Int,k≤cntL l k n:=by
 induction l with
 | nil=>intro k n;simp[cntL]
 | cons a r ih=>
  intro k n;simp only[cntL];split
  ·have h1:=(cnt_bd a (n-k) (by omega)).1;have:=ih (k+cnt a (n-k)) n;omega
  ·exact Int.le_refl _
theorem cnt_size(e:Ex):∀n:Int,0≤n→cnt e n≤n→cnt e n=esize e:=by
 induction e using Ex.ind with
 | h o m s l ih=>
 intro n hn h
 suffices H:∀(r:List Ex),(∀a,a∈r→a∈l)→∀k:Int,1≤k→cntL r k n≤n→cntL r k n=k+esizes r by
  simp only[cnt,esize]at h ⊢;have:=H l (fun _ h=>h) 1 (by omega) h;rw[this];push_cast;omega
 intro r
 induction r with
 | nil=>intro _ k _ _;simp[cntL,esizes]
 | cons a r ihr=>
  intro hm k hk hle;simp only[cntL,esizes]at hle ⊢;by_cases hkn:k≤n
  ·rw[if_pos hkn]at hle ⊢;have h1:=(cnt_bd a (n-k) (by omega)).1;have h2:=cntL_ge r (k+cnt a (n-k)) n;have h3:=ih a (hm a (by simp)) (n-k) (by omega) (by omega);have h4:=ihr (fun x hx=>hm x (by simp[hx])) (k+cnt a (n-k)) (by omega) hle;rw[h4,h3];push_cast;omega
  ·rw[if_neg hkn]at hle ⊢;omega
theorem few_size{e:Ex}{n:Int}(hn:0≤n)(h:cnt e n≤n):(esize e:Int)≤n:=by
 have:=cnt_size e n hn h;omega
theorem depth_le(e:Ex):edepth e≤esize e:=by
 induction e using Ex.ind with
 | h o m s l ih=>
 simp only[edepth,esize]
 suffices H:∀(r:List Ex),(∀a,a∈r→a∈l)→edepths r≤esizes r by have:=H l (fun _ h=>h);omega
 intro r
 induction r with
 | nil=>intro _;simp[edepths,esizes]
 | cons a r ihr=>
  intro hm;have h1:=ih a (hm a (by simp));have h2:=ihr (fun x hx=>hm x (by simp[hx]));simp only[edepths,esizes];omega
theorem esize_pos(e:Ex):1≤esize e:=by cases e;simp[esize]
theorem len_le(l:List Ex):l.length≤esizes l:=by
 induction l with
 | nil=>simp
 | cons a r ih=>have:=esize_pos a;simp only[List.length_cons,esizes];omega
theorem slim_of(e:Ex):esize e≤1000000000→Slim e:=by
 induction e using Ex.ind with
 | h o m s l ih=>
 intro h;simp only[esize]at h;rw[Slim];refine⟨by have:=len_le l;omega,?_⟩
 suffices H:∀(r:List Ex),(∀a,a∈r→a∈l)→esizes r≤1000000000→Slims r from H l (fun _ h=>h) (by omega)
 intro r
 induction r with
 | nil=>intro _ _;rw[Slims];trivial
 | cons a r ihr=>
  intro hm hr;simp only[esizes]at hr;rw[Slims];exact⟨ih a (hm a (by simp)) (by omega),ihr (fun x hx=>hm x (by simp[hx])) (by omega)⟩
theorem see_first(e:Ex):∀(d:Int) (x:See),(seeE d e x).first=if x.first=0 then errE e else x.first:=by
 induction e using Ex.ind with
 | h o m s l ih=>
 intro d x
 suffices H:∀(r:List Ex),(∀a,a∈r→a∈l)→∀x:See,(seeL (d+1) r x).first=if x.first=0 then errL r else x.first by
  rw[seeE,H l (fun _ h=>h)];simp only[seeN,errE,exErr,Ex.op,Ex.num,Ex.name,Ex.args];repeat' split
  all_goals first|rfl|simp_all
 intro r
 induction r with
 | nil=>intro _ x;simp only[seeL,errL];split<;>simp_all
 | cons a r ihr=>
  intro hm x;rw[seeL,ihr (fun x hx=>hm x (by simp[hx])),ih a (hm a (by simp))];simp only[errL];repeat' split
  all_goals simp_all
theorem see_nodes(e:Ex):∀(d:Int) (x:See),0≤x.nodes→x.nodes+esize e≤1000000000→(seeE d e x).nodes=x.nodes+esize e:=by
 induction e using Ex.ind with
 | h o m s l ih=>
 intro d x h0 h1
 suffices H:∀(r:List Ex),(∀a,a∈r→a∈l)→∀x:See,0≤x.nodes→x.nodes+esizes r≤1000000000→(seeL (d+1) r x).nodes=x.nodes+esizes r by
  simp only[esize]at h1 ⊢;have hw:wrap64 (x.nodes+1)=x.nodes+1:=wrap64_of _ (by omega) (by omega);rw[seeE,H l (fun _ h=>h) _ (by simp only[seeN];omega) (by simp only[seeN];omega)];simp only[seeN];omega
 intro r
 induction r with
 | nil=>intro _ x _ _;simp[seeL,esizes]
 | cons a r ihr=>
  intro hm x h0 h1;simp only[esizes]at h1 ⊢;have ha:=ih a (hm a (by simp)) (d+1) x h0 (by omega);rw[seeL,ihr (fun x hx=>hm x (by simp[hx])) _ (by omega) (by omega),ha];omega
theorem see_deep(e:Ex):∀(d:Int) (x:See),(seeE d e x).deep=max x.deep (d-1+edepth e):=by
 induction e using Ex.ind with
 | h o m s l ih=>
 intro d x
 suffices H:∀(r:List Ex),(∀a,a∈r→a∈l)→∀x:See,d≤x.deep→(seeL (d+1) r x).deep=max x.deep (d+edepths r)by
  rw[seeE,H l (fun _ h=>h) _ (by simp only[seeN];split<;>omega)];simp only[seeN,edepth];split<;>omega
 intro r
 induction r with
 | nil=>intro _ x h;simp only[seeL,edepths];omega
 | cons a r ihr=>
  intro hm x h;have ha:=ih a (hm a (by simp)) (d+1) x;rw[seeL,ihr (fun x hx=>hm x (by simp[hx])) _ (by omega),ha];simp only[edepths];omega
theorem see_names(ops:List Int)(f:See→List ByteArray)(hf:∀x d e,f (seeN x d e)=addName ops (f x) e.op e.name)(e:Ex):∀(d:Int) (x:See),walkE (nextName ops) e (f x)=(f (seeE d e x),true):=by
 induction e using Ex.ind with
 | h o m s l ih=>
 intro d x
 suffices H:∀(r:List Ex),(∀a,a∈r→a∈l)→∀x:See,walkL (nextName ops) r (f x)=(f (seeL (d+1) r x),true)by
  rw[seeE,walkE];simp only[nextName,if_true];rw[←hf x d,H l (fun _ h=>h)]
 intro r
 induction r with
 | nil=>intro _ x;simp[seeL,walkL]
 | cons a r ihr=>
  intro hm x;rw[seeL,walkL,ih a (hm a (by simp)) (d+1) x];simp only[if_true];exact ihr (fun x hx=>hm x (by simp[hx])) _
theorem seeOf_all(e:Ex)(h:esize e≤1000000):(seeOf e).first=errE e∧(seeOf e).nodes=esize e∧(seeOf e).deep=edepth e∧(seeOf e).vars=namesOf [2] e∧(seeOf e).arrs=namesOf [3,24] e:=by
 unfold seeOf;refine⟨by rw[see_first];rfl,?_,?_,?_,?_⟩
 ·rw[see_nodes _ _ _ (by simp) (by simp;omega)];simp
 ·rw[see_deep];simp
 ·have:=see_names [2] See.vars (fun _ _ _=>rfl) e 1 ⟨0,0,0,[],[]⟩;unfold namesOf;rw[this]
 ·have:=see_names [3,24] See.arrs (fun _ _ _=>rfl) e 1 ⟨0,0,0,[],[]⟩;unfold namesOf;rw[this]
theorem rvalid_eq(e:Ex)(h:esize e≤1000000):rvalidE e=validE e:=by
 obtain⟨h1,h2,h3,-,-⟩:=seeOf_all e h;unfold rvalidE validE;rw[h1,h2,h3];have e1:(24<(edepth e:Int))↔24<edepth e:=by omega
 have e2:(400<(esize e:Int))↔400<esize e:=by omega
 simp only[e1,e2]
structure Wt where
 lo:Int
 hi:Int
 w:Int
 each:Bool
 deriving DecidableEq
inductive It where
 | mk (kind:Int) (e:Ex) (name idx:ByteArray) (ws:List Wt) (items els:List It) (bef aft:List ByteArray)
namespace It
def kind:It→Int|mk k _ _ _ _ _ _ _ _=>k
def ex:It→Ex|mk _ e _ _ _ _ _ _ _=>e
def name:It→ByteArray|mk _ _ s _ _ _ _ _ _=>s
def idx:It→ByteArray|mk _ _ _ s _ _ _ _ _=>s
def ws:It→List Wt|mk _ _ _ _ l _ _ _ _=>l
def items:It→List It|mk _ _ _ _ _ l _ _ _=>l
def els:It→List It|mk _ _ _ _ _ _ l _ _=>l
def bef:It→List ByteArray|mk _ _ _ _ _ _ _ l _=>l
def aft:It→List ByteArray|mk _ _ _ _ _ _ _ _ l=>l
end It
theorem im_kind(k:Int)(e:Ex)(nm ix:ByteArray)(ws:List Wt)(l m:List It)(bf af:List ByteArray):(It.mk k e nm ix ws l m bf af).kind=k:=rfl
theorem im_ex(k:Int)(e:Ex)(nm ix:ByteArray)(ws:List Wt)(l m:List It)(bf af:List ByteArray):(It.mk k e nm ix ws l m bf af).ex=e:=rfl
theorem im_name(k:Int)(e:Ex)(nm ix:ByteArray)(ws:List Wt)(l m:List It)(bf af:List ByteArray):(It.mk k e nm ix ws l m bf af).name=nm:=rfl
theorem im_idx(k:Int)(e:Ex)(nm ix:ByteArray)(ws:List Wt)(l m:List It)(bf af:List ByteArray):(It.mk k e nm ix ws l m bf af).idx=ix:=rfl
theorem im_ws(k:Int)(e:Ex)(nm ix:ByteArray)(ws:List Wt)(l m:List It)(bf af:List ByteArray):(It.mk k e nm ix ws l m bf af).ws=ws:=rfl
theorem im_items(k:Int)(e:Ex)(nm ix:ByteArray)(ws:List Wt)(l m:List It)(bf af:List ByteArray):(It.mk k e nm ix ws l m bf af).items=l:=rfl
theorem im_els(k:Int)(e:Ex)(nm ix:ByteArray)(ws:List Wt)(l m:List It)(bf af:List ByteArray):(It.mk k e nm ix ws l m bf af).els=m:=rfl
theorem im_bef(k:Int)(e:Ex)(nm ix:ByteArray)(ws:List Wt)(l m:List It)(bf af:List ByteArray):(It.mk k e nm ix ws l m bf af).bef=bf:=rfl
theorem im_aft(k:Int)(e:Ex)(nm ix:ByteArray)(ws:List Wt)(l m:List It)(bf af:List ByteArray):(It.mk k e nm ix ws l m bf af).aft=af:=rfl
mutual
def isz:It→Nat
 | .mk _ _ _ _ _ l m _ _=>1+iszs l+iszs m
def iszs:List It→Nat
 | []=>0
 | a::r=>isz a+iszs r
end
theorem isz_pos(x:It):1≤isz x:=by cases x;rw[isz];omega
theorem isz_eq(x:It):isz x=1+iszs x.items+iszs x.els:=by cases x;rfl
theorem iszs_mem{l:List It}{a:It}(h:a∈l):isz a≤iszs l:=by
 induction l with
 | nil=>cases h
 | cons b r ih=>
  rw[iszs];rcases List.mem_cons.1 h with rfl|h
  ·omega
  ·have:=ih h;omega
theorem iszs_len(l:List It):l.length≤iszs l:=by
 induction l with
 | nil=>exact Nat.le_refl _
 | cons b r ih=>rw[iszs,List.length_cons];have:=isz_pos b;omega
theorem its_ind{P:List It→Prop}(h0:P [])(h:∀(a:It) (r:List It),P a.items→P a.els→P r→P (a::r)):∀l,P l:=by
 have H:∀n l,iszs l≤n→P l:=by
  intro n
  induction n with
  | zero=>
   intro l hl;cases l with
   | nil=>exact h0
   | cons a r=>rw[iszs]at hl;have:=isz_pos a;omega
  | succ n ih=>
   intro l hl;cases l with
   | nil=>exact h0
   | cons a r=>
    rw[iszs]at hl;have h1:=isz_eq a;exact h a r (ih _ (by omega)) (ih _ (by omega)) (ih _ (by omega))
 exact fun l=>H _ l (Nat.le_refl _)
section
variable {σ : Type} (step : σ → It → Nat → List ByteArray → Int × σ)
mutual
def wk:It→Nat→List ByteArray→σ→Int×σ
 | .mk k e nm ix ws l m bf af,d,bd,s=>
  if(step s (.mk k e nm ix ws l m bf af) d bd).1=0 then
   if(wks l (if k=4∨k=5 then d+1 else d) (if k=5 then bd++[ix]else bd) (step s (.mk k e nm ix ws l m bf af) d bd).2).1=0 then
    wks m (if k=4∨k=5 then d+1 else d) bd (wks l (if k=4∨k=5 then d+1 else d) (if k=5 then bd++[ix]else bd) (step s (.mk k e nm ix ws l m bf af) d bd).2).2
   else wks l (if k=4∨k=5 then d+1 else d) (if k=5 then bd++[ix]else bd) (step s (.mk k e nm ix ws l m bf af) d bd).2
  else step s (.mk k e nm ix ws l m bf af) d bd
def wks:List It→Nat→List ByteArray→σ→Int×σ
 | [],_,_,s=>(0,s)
 | a::r,d,bd,s=>if(wk a d bd s).1=0 then wks r d bd (wk a d bd s).2 else wk a d bd s
end
def dep(x:It)(d:Nat):Nat:=if x.kind=4∨x.kind=5 then d+1 else d
def bnd(x:It)(bd:List ByteArray):List ByteArray:=if x.kind=5 then bd++[x.idx]else bd
theorem wk_eq(x:It)(d:Nat)(bd:List ByteArray)(s:σ):wk step x d bd s=if(step s x d bd).1=0 then(if(wks step x.items (dep x d) (bnd x bd) (step s x d bd).2).1=0 then wks step x.els (dep x d) bd (wks step x.items (dep x d) (bnd x bd) (step s x d bd).2).2 else wks step x.items (dep x d) (bnd x bd) (step s x d bd).2)else step s x d bd:=by
 cases x;rw[wk];rfl
end
def wkE(f:It→Nat→List ByteArray→Int)(l:List It)(d:Nat)(bd:List ByteArray):Int:=(wks (fun(_:Unit) x d bd=>(f x d bd,())) l d bd ()).1
theorem wkE_nil(f:It→Nat→List ByteArray→Int)(d:Nat)(bd:List ByteArray):wkE f [] d bd=0:=rfl
theorem wkE_cons(f:It→Nat→List ByteArray→Int)(x:It)(r:List It)(d:Nat)(bd:List ByteArray):wkE f (x::r) d bd=
 if f x d bd=0 then(if wkE f x.items (dep x d) (bnd x bd)=0 then(if wkE f x.els (dep x d) bd=0 then wkE f r d bd else wkE f x.els (dep x d) bd)else wkE f x.items (dep x d) (bnd x bd))else f x d bd:=by
 unfold wkE;rw[wks,wk_eq];by_cases h1:f x d bd=0
 ·rw[if_pos h1,if_pos h1];by_cases h2:(wks (fun(_:Unit) x d bd=>(f x d bd,())) x.items (dep x d) (bnd x bd) ()).1=0
  ·rw[if_pos h2,if_pos h2];by_cases h3:(wks (fun(_:Unit) x d bd=>(f x d bd,())) x.els (dep x d) bd ()).1=0
   ·rw[if_pos h3,if_pos h3]
   ·rw[if_neg h3,if_neg h3]
  ·rw[if_neg h2,if_neg h2,if_neg h2]
 ·rw[if_neg h1,if_neg h1,if_neg h1]
def blankB(e:Ex):Bool:=decide (e.op=0)&&decide (e.num=0)&&decide (e.name=⟨#[]⟩)&&e.args.isEmpty
def plainB(x:It):Bool:=
 (decide (x.kind=1∨x.kind=2∨x.kind=4)||blankB x.ex)&&(decide (x.kind=3∨x.kind=5)||decide (x.name=⟨#[]⟩))&&(decide (x.kind=5)||decide (x.idx=⟨#[]⟩)) &&
   (decide (x.kind=3)||x.ws.isEmpty)&&(decide (x.kind=4∨x.kind=5)||x.items.isEmpty)&&(decide (x.kind=4)||x.els.isEmpty)&&(decide (x.kind=6)||x.bef.isEmpty&&x.aft.isEmpty)
def wtB(w:Wt):Bool:=decide (0≤w.lo)&&decide (w.lo≤w.hi)&&decide (w.hi≤65535)&&decide (0≤w.w)&&decide (w.w≤1000)
def distE(x:It):Int:=if x.ws.length>16 then 2 else if x.ws=[]then 1 else if x.ws.all wtB=false then 1 else if isVarB x.name=true then 0 else 7
def solveE(x:It):Int:=if x.bef=[]∨x.aft=[]then 1 else if(x.bef++x.aft).all isVarB=true then 0 else 7
def eachE(x:It):Int:=if nameB x.name=true∧nameB x.idx=true then 0 else 7
def shapeE(x:It)(d:Nat):Int:=
 if ¬(1≤x.kind∧x.kind≤6)∨plainB x=false∨4<d∨0<d∧(x.kind=3∨x.kind=6)then 1
 else if x.kind=3 then distE x else if x.kind=6 then solveE x else if x.kind=5 then eachE x else validE x.ex
theorem shape_zero{x:It}{d:Nat}(h:shapeE x d=0):(1≤x.kind∧x.kind≤6)∧plainB x=true∧d≤4:=by
 unfold shapeE at h;split at h
 ·cases h
 ·rename_i hn;refine⟨Classical.byContradiction fun hh=>hn (.inl hh),?_,?_⟩
  ·cases hp:plainB x with
   | true=>rfl
   | false=>exact absurd (.inr (.inl hp)) hn
  ·exact Classical.byContradiction fun hh=>hn (.inr (.inr (.inl (by omega))))
theorem plain_leaf{x:It}(h:plainB x=true)(hk:¬(x.kind=4∨x.kind=5)):x.items=[]∧x.els=[]:=by
 unfold plainB at h;simp only[Bool.and_eq_true,Bool.or_eq_true,decide_eq_true_eq,List.isEmpty_iff]at h;obtain⟨⟨⟨-,h1⟩,h2⟩,-⟩:=h;exact⟨h1.resolve_left hk,h2.resolve_left fun h=>hk (.inl h)⟩
mutual
def rvl:List It→Nat→Int
 | [],_=>0
 | x::r,d=>if rv1 x d=0 then rvl r d else rv1 x d
def rv1:It→Nat→Int
 | .mk k e nm ix ws l m bf af,d=>if shapeE (.mk k e nm ix ws l m bf af) d=0 then(if rvl l (d+1)=0 then rvl m (d+1)else rvl l (d+1))else shapeE (.mk k e nm ix ws l m bf af) d
end
theorem rv1_eq(x:It)(d:Nat):rv1 x d=if shapeE x d=0 then(if rvl x.items (d+1)=0 then rvl x.els (d+1)else rvl x.items (d+1))else shapeE x d:=by cases x;rw[rv1];rfl
def shapeW(x:It)(d:Nat)(_:List ByteArray):Int:=shapeE x d
theorem valid_same:∀(l:List It) (d:Nat) (bd:List ByteArray),wkE shapeW l d bd=rvl l d:=by
 refine its_ind (fun d bd=>rfl) fun x r h1 h2 h3 d bd=>?_;rw[wkE_cons,rvl,rv1_eq];show(if shapeE x d=0 then _ else shapeE x d)=_;by_cases hs:shapeE x d=0
 ·rw[if_pos hs,if_pos hs];obtain⟨-,hp,-⟩:=shape_zero hs;by_cases hk:x.kind=4∨x.kind=5
  ·have hd:dep x d=d+1:=if_pos hk;rw[hd,h1,h2,h3];by_cases e1:rvl x.items (d+1)=0
   ·rw[if_pos e1,if_pos e1]
   ·rw[if_neg e1,if_neg e1,if_neg e1]
  ·obtain⟨g1,g2⟩:=plain_leaf hp hk;rw[g1,g2,wkE_nil,if_pos rfl,wkE_nil,if_pos rfl,h3,rvl,if_pos rfl,if_pos rfl]
 ·rw[if_neg hs,if_neg hs,if_neg hs]
def validI(l:List It):Int:=if 64<iszs l then 2 else rvl l 0
mutual
def nodesE:Ex→List Ex
 | .mk o n s l=>.mk o n s l::nodesL l
def nodesL:List Ex→List Ex
 | []=>[]
 | a::r=>nodesE a++nodesL r
end
def nodeName(bd:List ByteArray)(e:Ex):List ByteArray:=if e.op=3∨e.op=24∨e.op=2∧inB e.name bd=false then[e.name]else[]
def ownN(x:It)(bd:List ByteArray):List ByteArray:=
 if x.kind=1∨x.kind=2∨x.kind=4 then(nodesE x.ex).flatMap (nodeName bd)else if x.kind=3∨x.kind=5 then[x.name]else if x.kind=6 then x.bef++x.aft else[]
def fsz(fs:List (ByteArray×Int))(s:ByteArray):Option Int:=(fs.find? fun f=>decide (f.1=s)).map (·.2)
def arrE(fs:List (ByteArray×Int))(s:ByteArray):Int:=match fsz fs s with|none=>7|some n=>if n<1 then 9 else 0
def varE(spl:ByteArray→Option (ByteArray×Int))(fs:List (ByteArray×Int))(s:ByteArray):Int:=
 match fsz fs s with
 | some n=>if 0<n then 9 else 0
 | none=>match spl s with
  | none=>7
  | some (a,k)=>match fsz fs a with
   | none=>7
   | some n=>if n<1 then 9 else if n≤k then 7 else 0
section
variable (spl : ByteArray → Option (ByteArray × Int)) (fs : List (ByteArray × Int))
def nodeC(bd:List ByteArray)(e:Ex):Int:=if e.op=2 then(if inB e.name bd=true then 0 else varE spl fs e.name)else if e.op=3∨e.op=24 then arrE fs e.name else 0
def firstE(l:List Int):Int:=(l.find? (· ≠ 0)).getD 0
def exprC(bd:List ByteArray)(e:Ex):Int:=firstE ((nodesE e).map (nodeC spl fs bd))
def eithB(s:ByteArray):Bool:=(fsz fs s).isSome||decide (varE spl fs s=0)
def oneE(x:It)(_:Nat)(bd:List ByteArray):Int:=
 if x.kind=3 then(if eithB spl fs x.name=true then 0 else 7)
 else if x.kind=6 then(if(x.bef++x.aft).all (eithB spl fs)=true then 0 else 7)
 else if x.kind=5 then(if arrE fs x.name≠0 then arrE fs x.name else if(fsz fs x.idx).isSome=true∨inB x.idx bd=true then 8 else 0)
 else exprC spl fs bd x.ex
def checkI(l:List It):Int:=if validI l≠0 then validI l else wkE (oneE spl fs) l 0 []
end
end Go.Proofs.YthoebpnbhgmoiaaGreatDoor
