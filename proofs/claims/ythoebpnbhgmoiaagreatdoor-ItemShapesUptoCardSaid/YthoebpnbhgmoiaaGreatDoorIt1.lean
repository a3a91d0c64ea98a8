import Derived.Test.YthoebpnbhgmoiaaGreatDoorRefs8
import Derived.Test.YthoebpnbhgmoiaaGreatDoorFold
import Derived.Test.YthoebpnbhgmoiaaGreatDoorData
import Derived.Test.YthoebpnbhgmoiaaGreatDoorNames2
set_option linter.unusedVariables false
set_option linter.unusedSimpArgs false
set_option linter.unusedSectionVars false
namespace Go.Proofs.YthoebpnbhgmoiaaGreatDoor
open Go.RowKit
theorem BX(l:List Ex):∀k n:Int,k≤io l k n:=by
 induction l with
 | nil=>intro k n;simp[io]
 | cons a r ih=>
  intro k n;simp only[io];split
  ·have h1:=(pV a (n-k) (by omega)).1;have:=ih (k+cnt a (n-k)) n;omega
  ·exact Int.le_refl _
theorem yT(e:Ex):∀n:Int,0≤n→cnt e n≤n→cnt e n=aA e:=by
 induction e using Ex.ind with
 | h o m s l ih=>
 intro n hn h
 suffices H:∀(r:List Ex),(∀a,a∈r→a∈l)→∀k:Int,1≤k→io r k n≤n→io r k n=k+aG r by
  simp only[cnt,aA]at h ⊢;have:=H l (fun _ h=>h) 1 (by omega) h;rw[this];push_cast;omega
 intro r
 induction r with
 | nil=>intro _ k _ _;simp[io,aG]
 | cons a r ihr=>
  intro hm k hk hle;simp only[io,aG]at hle ⊢;by_cases hkn:k≤n
  ·rw[if_pos hkn]at hle ⊢;have h1:=(pV a (n-k) (by omega)).1;have h2:=BX r (k+cnt a (n-k)) n;have h3:=ih a (hm a (by simp)) (n-k) (by omega) (by omega);have h4:=ihr (fun x hx=>hm x (by simp[hx])) (k+cnt a (n-k)) (by omega) hle;rw[h4,h3];push_cast;omega
  ·rw[if_neg hkn]at hle ⊢;omega
theorem Au{e:Ex}{n:Int}(hn:0≤n)(h:cnt e n≤n):(aA e:Int)≤n:=by
 have:=yT e n hn h;omega
theorem dO(e:Ex):bM e≤aA e:=by
 induction e using Ex.ind with
 | h o m s l ih=>
 simp only[bM,aA]
 suffices H:∀(r:List Ex),(∀a,a∈r→a∈l)→cF r≤aG r by have:=H l (fun _ h=>h);omega
 intro r
 induction r with
 | nil=>intro _;simp[cF,aG]
 | cons a r ihr=>
  intro hm;have h1:=ih a (hm a (by simp));have h2:=ihr (fun x hx=>hm x (by simp[hx]));simp only[cF,aG];omega
theorem oz(e:Ex):1≤aA e:=by cases e;simp[aA]
theorem hZ(l:List Ex):l.length≤aG l:=by
 induction l with
 | nil=>simp
 | cons a r ih=>have:=oz a;simp only[List.length_cons,aG];omega
theorem us(e:Ex):aA e≤1000000000→ki e:=by
 induction e using Ex.ind with
 | h o m s l ih=>
 intro h;simp only[aA]at h;rw[ki];refine⟨by have:=hZ l;omega,?_⟩
 suffices H:∀(r:List Ex),(∀a,a∈r→a∈l)→aG r≤1000000000→lq r from H l (fun _ h=>h) (by omega)
 intro r
 induction r with
 | nil=>intro _ _;rw[lq];trivial
 | cons a r ihr=>
  intro hm hr;simp only[aG]at hr;rw[lq];exact⟨ih a (hm a (by simp)) (by omega),ihr (fun x hx=>hm x (by simp[hx])) (by omega)⟩
theorem w6(e:Ex):∀(d:Int) (x:See),(kZ d e x).first=if x.first=0 then ed e else x.first:=by
 induction e using Ex.ind with
 | h o m s l ih=>
 intro d x
 suffices H:∀(r:List Ex),(∀a,a∈r→a∈l)→∀x:See,(il (d+1) r x).first=if x.first=0 then gW r else x.first by
  rw[kZ,H l (fun _ h=>h)];simp only[pJ,ed,o2,Ex.op,Ex.num,Ex.name,Ex.args];repeat' split
  all_goals first|rfl|simp_all
 intro r
 induction r with
 | nil=>intro _ x;simp only[il,gW];split<;>simp_all
 | cons a r ihr=>
  intro hm x;rw[il,ihr (fun x hx=>hm x (by simp[hx])),ih a (hm a (by simp))];simp only[gW];repeat' split
  all_goals simp_all
theorem vK(e:Ex):∀(d:Int) (x:See),0≤x.nodes→x.nodes+aA e≤1000000000→(kZ d e x).nodes=x.nodes+aA e:=by
 induction e using Ex.ind with
 | h o m s l ih=>
 intro d x h0 h1
 suffices H:∀(r:List Ex),(∀a,a∈r→a∈l)→∀x:See,0≤x.nodes→x.nodes+aG r≤1000000000→(il (d+1) r x).nodes=x.nodes+aG r by
  simp only[aA]at h1 ⊢;have hw:wrap64 (x.nodes+1)=x.nodes+1:=po _ (by omega) (by omega);rw[kZ,H l (fun _ h=>h) _ (by simp only[pJ];omega) (by simp only[pJ];omega)];simp only[pJ];omega
 intro r
 induction r with
 | nil=>intro _ x _ _;simp[il,aG]
 | cons a r ihr=>
  intro hm x h0 h1;simp only[aG]at h1 ⊢;have ha:=ih a (hm a (by simp)) (d+1) x h0 (by omega);rw[il,ihr (fun x hx=>hm x (by simp[hx])) _ (by omega) (by omega),ha];omega
theorem Aa(e:Ex):∀(d:Int) (x:See),(kZ d e x).deep=max x.deep (d-1+bM e):=by
 induction e using Ex.ind with
 | h o m s l ih=>
 intro d x
 suffices H:∀(r:List Ex),(∀a,a∈r→a∈l)→∀x:See,d≤x.deep→(il (d+1) r x).deep=max x.deep (d+cF r)by
  rw[kZ,H l (fun _ h=>h) _ (by simp only[pJ];split<;>omega)];simp only[pJ,bM];split<;>omega
 intro r
 induction r with
 | nil=>intro _ x h;simp only[il,cF];omega
 | cons a r ihr=>
  intro hm x h;have ha:=ih a (hm a (by simp)) (d+1) x;rw[il,ihr (fun x hx=>hm x (by simp[hx])) _ (by omega),ha];simp only[cF];omega
theorem oG(ops:List Int)(f:See→List ByteArray)(hf:∀x d e,f (pJ x d e)=dt ops (f x) e.op e.name)(e:Ex):∀(d:Int) (x:See),da (cX ops) e (f x)=(f (kZ d e x),true):=by
 induction e using Ex.ind with
 | h o m s l ih=>
 intro d x
 suffices H:∀(r:List Ex),(∀a,a∈r→a∈l)→∀x:See,dj (cX ops) r (f x)=(f (il (d+1) r x),true)by
  rw[kZ,da];simp only[cX,if_true];rw[←hf x d,H l (fun _ h=>h)]
 intro r
 induction r with
 | nil=>intro _ x;simp[il,dj]
 | cons a r ihr=>
  intro hm x;rw[il,dj,ih a (hm a (by simp)) (d+1) x];simp only[if_true];exact ihr (fun x hx=>hm x (by simp[hx])) _
theorem o8(e:Ex)(h:aA e≤1000000):(eZ e).first=ed e∧(eZ e).nodes=aA e∧(eZ e).deep=bM e∧(eZ e).vars=eC [2] e∧(eZ e).arrs=eC [3,24] e:=by
 unfold eZ;refine⟨by rw[w6];rfl,?_,?_,?_,?_⟩
 ·rw[vK _ _ _ (by simp) (by simp;omega)];simp
 ·rw[Aa];simp
 ·have:=oG [2] See.vars (fun _ _ _=>rfl) e 1 ⟨0,0,0,[],[]⟩;unfold eC;rw[this]
 ·have:=oG [3,24] See.arrs (fun _ _ _=>rfl) e 1 ⟨0,0,0,[],[]⟩;unfold eC;rw[this]
theorem wK(e:Ex)(h:aA e≤1000000):jP e=aX e:=by
 obtain⟨h1,h2,h3,-,-⟩:=o8 e h;unfold jP aX;rw[h1,h2,h3];have e1:(24<(bM e:Int))↔24<bM e:=by omega
 have e2:(400<(aA e:Int))↔400<aA e:=by omega
 simp only[e1,e2]
structure Wt where
 lo:Int
 hi:Int
 w:Int
 each:Bool
 deriving DecidableEq
inductive It where
 | mk (kind:Int) (e:Ex) (name idx:ByteArray) (ws:List Wt) (items els:List It) (bef aft:List ByteArray)
namespace It
def kind:It→Int|mk k _ _ _ _ _ _ _ _=>k
def ex:It→Ex|mk _ e _ _ _ _ _ _ _=>e
def name:It→ByteArray|mk _ _ s _ _ _ _ _ _=>s
def idx:It→ByteArray|mk _ _ _ s _ _ _ _ _=>s
def ws:It→List Wt|mk _ _ _ _ l _ _ _ _=>l
def items:It→List It|mk _ _ _ _ _ l _ _ _=>l
def els:It→List It|mk _ _ _ _ _ _ l _ _=>l
def bef:It→List ByteArray|mk _ _ _ _ _ _ _ l _=>l
def aft:It→List ByteArray|mk _ _ _ _ _ _ _ _ l=>l
end It
theorem Bs(k:Int)(e:Ex)(nm ix:ByteArray)(ws:List Wt)(l m:List It)(bf af:List ByteArray):(It.mk k e nm ix ws l m bf af).kind=k:=rfl
theorem CL(k:Int)(e:Ex)(nm ix:ByteArray)(ws:List Wt)(l m:List It)(bf af:List ByteArray):(It.mk k e nm ix ws l m bf af).ex=e:=rfl
theorem B4(k:Int)(e:Ex)(nm ix:ByteArray)(ws:List Wt)(l m:List It)(bf af:List ByteArray):(It.mk k e nm ix ws l m bf af).name=nm:=rfl
theorem Dc(k:Int)(e:Ex)(nm ix:ByteArray)(ws:List Wt)(l m:List It)(bf af:List ByteArray):(It.mk k e nm ix ws l m bf af).idx=ix:=rfl
theorem Cv(k:Int)(e:Ex)(nm ix:ByteArray)(ws:List Wt)(l m:List It)(bf af:List ByteArray):(It.mk k e nm ix ws l m bf af).ws=ws:=rfl
theorem rz(k:Int)(e:Ex)(nm ix:ByteArray)(ws:List Wt)(l m:List It)(bf af:List ByteArray):(It.mk k e nm ix ws l m bf af).items=l:=rfl
theorem zx(k:Int)(e:Ex)(nm ix:ByteArray)(ws:List Wt)(l m:List It)(bf af:List ByteArray):(It.mk k e nm ix ws l m bf af).els=m:=rfl
theorem x9(k:Int)(e:Ex)(nm ix:ByteArray)(ws:List Wt)(l m:List It)(bf af:List ByteArray):(It.mk k e nm ix ws l m bf af).bef=bf:=rfl
theorem zn(k:Int)(e:Ex)(nm ix:ByteArray)(ws:List Wt)(l m:List It)(bf af:List ByteArray):(It.mk k e nm ix ws l m bf af).aft=af:=rfl
mutual
def isz:It→Nat
 | .mk _ _ _ _ _ l m _ _=>1+bN l+bN m
def bN:List It→Nat
 | []=>0
 | a::r=>isz a+bN r
end
theorem me(x:It):1≤isz x:=by cases x;rw[isz];omega
theorem hU(x:It):isz x=1+bN x.items+bN x.els:=by cases x;rfl
theorem mL{l:List It}{a:It}(h:a∈l):isz a≤bN l:=by
 induction l with
 | nil=>cases h
 | cons b r ih=>
  rw[bN];rcases List.mem_cons.1 h with rfl|h
  ·omega
  ·have:=ih h;omega
theorem mU(l:List It):l.length≤bN l:=by
 induction l with
 | nil=>exact Nat.le_refl _
 | cons b r ih=>rw[bN,List.length_cons];have:=me b;omega
theorem cL{P:List It→Prop}(h0:P [])(h:∀(a:It) (r:List It),P a.items→P a.els→P r→P (a::r)):∀l,P l:=by
 have H:∀n l,bN l≤n→P l:=by
  intro n
  induction n with
  | zero=>
   intro l hl;cases l with
   | nil=>exact h0
   | cons a r=>rw[bN]at hl;have:=me a;omega
  | succ n ih=>
   intro l hl;cases l with
   | nil=>exact h0
   | cons a r=>
    rw[bN]at hl;have h1:=hU a;exact h a r (ih _ (by omega)) (ih _ (by omega)) (ih _ (by omega))
 exact fun l=>H _ l (Nat.le_refl _)
section
variable {σ : Type} (step : σ → It → Nat → List ByteArray → Int × σ)
mutual
def wk:It→Nat→List ByteArray→σ→Int×σ
 | .mk k e nm ix ws l m bf af,d,bd,s=>
  if(step s (.mk k e nm ix ws l m bf af) d bd).1=0 then
   if(wks l (if k=4∨k=5 then d+1 else d) (if k=5 then bd++[ix]else bd) (step s (.mk k e nm ix ws l m bf af) d bd).2).1=0 then
    wks m (if k=4∨k=5 then d+1 else d) bd (wks l (if k=4∨k=5 then d+1 else d) (if k=5 then bd++[ix]else bd) (step s (.mk k e nm ix ws l m bf af) d bd).2).2
   else wks l (if k=4∨k=5 then d+1 else d) (if k=5 then bd++[ix]else bd) (step s (.mk k e nm ix ws l m bf af) d bd).2
  else step s (.mk k e nm ix ws l m bf af) d bd
def wks:List It→Nat→List ByteArray→σ→Int×σ
 | [],_,_,s=>(0,s)
 | a::r,d,bd,s=>if(wk a d bd s).1=0 then wks r d bd (wk a d bd s).2 else wk a d bd s
end
def dep(x:It)(d:Nat):Nat:=if x.kind=4∨x.kind=5 then d+1 else d
def bnd(x:It)(bd:List ByteArray):List ByteArray:=if x.kind=5 then bd++[x.idx]else bd
theorem ya(x:It)(d:Nat)(bd:List ByteArray)(s:σ):wk step x d bd s=if(step s x d bd).1=0 then(if(wks step x.items (dep x d) (bnd x bd) (step s x d bd).2).1=0 then wks step x.els (dep x d) bd (wks step x.items (dep x d) (bnd x bd) (step s x d bd).2).2 else wks step x.items (dep x d) (bnd x bd) (step s x d bd).2)else step s x d bd:=by
 cases x;rw[wk];rfl
end
def wkE(f:It→Nat→List ByteArray→Int)(l:List It)(d:Nat)(bd:List ByteArray):Int:=(wks (fun(_:Unit) x d bd=>(f x d bd,())) l d bd ()).1
theorem pM(f:It→Nat→List ByteArray→Int)(d:Nat)(bd:List ByteArray):wkE f [] d bd=0:=rfl
theorem jJ(f:It→Nat→List ByteArray→Int)(x:It)(r:List It)(d:Nat)(bd:List ByteArray):wkE f (x::r) d bd=
 if f x d bd=0 then(if wkE f x.items (dep x d) (bnd x bd)=0 then(if wkE f x.els (dep x d) bd=0 then wkE f r d bd else wkE f x.els (dep x d) bd)else wkE f x.items (dep x d) (bnd x bd))else f x d bd:=by
 unfold wkE;rw[wks,ya];by_cases h1:f x d bd=0
 ·rw[if_pos h1,if_pos h1];by_cases h2:(wks (fun(_:Unit) x d bd=>(f x d bd,())) x.items (dep x d) (bnd x bd) ()).1=0
  ·rw[if_pos h2,if_pos h2];by_cases h3:(wks (fun(_:Unit) x d bd=>(f x d bd,())) x.els (dep x d) bd ()).1=0
   ·rw[if_pos h3,if_pos h3]
   ·rw[if_neg h3,if_neg h3]
  ·rw[if_neg h2,if_neg h2,if_neg h2]
 ·rw[if_neg h1,if_neg h1,if_neg h1]
def dk(e:Ex):Bool:=decide (e.op=0)&&decide (e.num=0)&&decide (e.name=⟨#[]⟩)&&e.args.isEmpty
def bE(x:It):Bool:=
 (decide (x.kind=1∨x.kind=2∨x.kind=4)||dk x.ex)&&(decide (x.kind=3∨x.kind=5)||decide (x.name=⟨#[]⟩))&&(decide (x.kind=5)||decide (x.idx=⟨#[]⟩)) &&
   (decide (x.kind=3)||x.ws.isEmpty)&&(decide (x.kind=4∨x.kind=5)||x.items.isEmpty)&&(decide (x.kind=4)||x.els.isEmpty)&&(decide (x.kind=6)||x.bef.isEmpty&&x.aft.isEmpty)
def wtB(w:Wt):Bool:=decide (0≤w.lo)&&decide (w.lo≤w.hi)&&decide (w.hi≤65535)&&decide (0≤w.w)&&decide (w.w≤1000)
def fY(x:It):Int:=if x.ws.length>16 then 2 else if x.ws=[]then 1 else if x.ws.all wtB=false then 1 else if bv x.name=true then 0 else 7
def iK(x:It):Int:=if x.bef=[]∨x.aft=[]then 1 else if(x.bef++x.aft).all bv=true then 0 else 7
def oY(x:It):Int:=if bH x.name=true∧bH x.idx=true then 0 else 7
def bp(x:It)(d:Nat):Int:=
 if ¬(1≤x.kind∧x.kind≤6)∨bE x=false∨4<d∨0<d∧(x.kind=3∨x.kind=6)then 1
 else if x.kind=3 then fY x else if x.kind=6 then iK x else if x.kind=5 then oY x else aX x.ex
theorem gK{x:It}{d:Nat}(h:bp x d=0):(1≤x.kind∧x.kind≤6)∧bE x=true∧d≤4:=by
 unfold bp at h;split at h
 ·cases h
 ·rename_i hn;refine⟨Classical.byContradiction fun hh=>hn (.inl hh),?_,?_⟩
  ·cases hp:bE x with
   | true=>rfl
   | false=>exact absurd (.inr (.inl hp)) hn
  ·exact Classical.byContradiction fun hh=>hn (.inr (.inr (.inl (by omega))))
theorem nH{x:It}(h:bE x=true)(hk:¬(x.kind=4∨x.kind=5)):x.items=[]∧x.els=[]:=by
 unfold bE at h;simp only[Bool.and_eq_true,Bool.or_eq_true,decide_eq_true_eq,List.isEmpty_iff]at h;obtain⟨⟨⟨-,h1⟩,h2⟩,-⟩:=h;exact⟨h1.resolve_left hk,h2.resolve_left fun h=>hk (.inl h)⟩
mutual
def rvl:List It→Nat→Int
 | [],_=>0
 | x::r,d=>if rv1 x d=0 then rvl r d else rv1 x d
def rv1:It→Nat→Int
 | .mk k e nm ix ws l m bf af,d=>if bp (.mk k e nm ix ws l m bf af) d=0 then(if rvl l (d+1)=0 then rvl m (d+1)else rvl l (d+1))else bp (.mk k e nm ix ws l m bf af) d
end
theorem pX(x:It)(d:Nat):rv1 x d=if bp x d=0 then(if rvl x.items (d+1)=0 then rvl x.els (d+1)else rvl x.items (d+1))else bp x d:=by cases x;rw[rv1];rfl
def tD(x:It)(d:Nat)(_:List ByteArray):Int:=bp x d
theorem tn:∀(l:List It) (d:Nat) (bd:List ByteArray),wkE tD l d bd=rvl l d:=by
 refine cL (fun d bd=>rfl) fun x r h1 h2 h3 d bd=>?_;rw[jJ,rvl,pX];show(if bp x d=0 then _ else bp x d)=_;by_cases hs:bp x d=0
 ·rw[if_pos hs,if_pos hs];obtain⟨-,hp,-⟩:=gK hs;by_cases hk:x.kind=4∨x.kind=5
  ·have hd:dep x d=d+1:=if_pos hk;rw[hd,h1,h2,h3];by_cases e1:rvl x.items (d+1)=0
   ·rw[if_pos e1,if_pos e1]
   ·rw[if_neg e1,if_neg e1,if_neg e1]
  ·obtain⟨g1,g2⟩:=nH hp hk;rw[g1,g2,pM,if_pos rfl,pM,if_pos rfl,h3,rvl,if_pos rfl,if_pos rfl]
 ·rw[if_neg hs,if_neg hs,if_neg hs]
def fp(l:List It):Int:=if 64<bN l then 2 else rvl l 0
mutual
def bj:Ex→List Ex
 | .mk o n s l=>.mk o n s l::bT l
def bT:List Ex→List Ex
 | []=>[]
 | a::r=>bj a++bT r
end
def aV(bd:List ByteArray)(e:Ex):List ByteArray:=if e.op=3∨e.op=24∨e.op=2∧inB e.name bd=false then[e.name]else[]
def cy(x:It)(bd:List ByteArray):List ByteArray:=
 if x.kind=1∨x.kind=2∨x.kind=4 then(bj x.ex).flatMap (aV bd)else if x.kind=3∨x.kind=5 then[x.name]else if x.kind=6 then x.bef++x.aft else[]
def dl(out:List ByteArray)(s:ByteArray):List ByteArray:=if inB s out=true then out else out++[s]
mutual
def Cy:It→List ByteArray→List ByteArray
 | .mk k e nm ix ws l m bf af,bd=>cy (.mk k e nm ix ws l m bf af) bd++ff l (if k=5 then bd++[ix]else bd)++ff m bd
def ff:List It→List ByteArray→List ByteArray
 | [],_=>[]
 | x::r,bd=>Cy x bd++ff r bd
end
theorem i8(x:It)(r:List It)(bd:List ByteArray):ff (x::r) bd=cy x bd++ff x.items (bnd x bd)++ff x.els bd++ff r bd:=by
 rw[ff];cases x;rw[Cy];rfl
def jo(l:List It):List ByteArray:=(ff l []).foldl dl []
def mN(out:List ByteArray)(x:It)(_:Nat)(bd:List ByteArray):Int×List ByteArray:=(0,(cy x bd).foldl dl out)
theorem th:∀(l:List It) (d:Nat) (bd out:List ByteArray),wks mN l d bd out=(0,(ff l bd).foldl dl out):=by
 refine cL (fun d bd out=>rfl) fun x r h1 h2 h3 d bd out=>?_;rw[wks,ya,i8];simp only[mN,if_true,h1,h2,h3,List.foldl_append]
def fsz(fs:List (ByteArray×Int))(s:ByteArray):Option Int:=(fs.find? fun f=>decide (f.1=s)).map (·.2)
def dN(fs:List (ByteArray×Int))(s:ByteArray):Int:=match fsz fs s with|none=>7|some n=>if n<1 then 9 else 0
def ef(spl:ByteArray→Option (ByteArray×Int))(fs:List (ByteArray×Int))(s:ByteArray):Int:=
 match fsz fs s with
 | some n=>if 0<n then 9 else 0
 | none=>match spl s with
  | none=>7
  | some (a,k)=>match fsz fs a with
   | none=>7
   | some n=>if n<1 then 9 else if n≤k then 7 else 0
section
variable (spl : ByteArray → Option (ByteArray × Int)) (fs : List (ByteArray × Int))
def cj(bd:List ByteArray)(e:Ex):Int:=if e.op=2 then(if inB e.name bd=true then 0 else ef spl fs e.name)else if e.op=3∨e.op=24 then dN fs e.name else 0
def dL(l:List Int):Int:=(l.find? (· ≠ 0)).getD 0
def dB(bd:List ByteArray)(e:Ex):Int:=dL ((bj e).map (cj spl fs bd))
def dg(s:ByteArray):Bool:=(fsz fs s).isSome||decide (ef spl fs s=0)
def dY(x:It)(_:Nat)(bd:List ByteArray):Int:=
 if x.kind=3 then(if dg spl fs x.name=true then 0 else 7)
 else if x.kind=6 then(if(x.bef++x.aft).all (dg spl fs)=true then 0 else 7)
 else if x.kind=5 then(if dN fs x.name≠0 then dN fs x.name else if(fsz fs x.idx).isSome=true∨inB x.idx bd=true then 8 else 0)
 else dB spl fs bd x.ex
def gP(l:List It):Int:=if fp l≠0 then fp l else wkE (dY spl fs) l 0 []
end
end Go.Proofs.YthoebpnbhgmoiaaGreatDoor
