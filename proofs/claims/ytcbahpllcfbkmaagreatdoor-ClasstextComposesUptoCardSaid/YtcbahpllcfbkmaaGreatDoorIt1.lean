import Derived.Test.YtcbahpllcfbkmaaGreatDoorBr8
set_option linter.unusedVariables false
set_option linter.unusedSimpArgs false
set_option linter.unusedSectionVars false
namespace Go.Proofs.YtcbahpllcfbkmaaGreatDoor
open Go.RowKit
structure Wt where
 lo:Int
 hi:Int
 w:Int
 each:Bool
 deriving DecidableEq
inductive It where
 | mk (kind:Int) (e:Ex) (name idx:ByteArray) (ws:List Wt) (items els:List It) (bef aft:List ByteArray)
namespace It
def kind:It→Int|mk k _ _ _ _ _ _ _ _=>k
def ex:It→Ex|mk _ e _ _ _ _ _ _ _=>e
def name:It→ByteArray|mk _ _ s _ _ _ _ _ _=>s
def idx:It→ByteArray|mk _ _ _ s _ _ _ _ _=>s
def ws:It→List Wt|mk _ _ _ _ l _ _ _ _=>l
def items:It→List It|mk _ _ _ _ _ l _ _ _=>l
def els:It→List It|mk _ _ _ _ _ _ l _ _=>l
def bef:It→List ByteArray|mk _ _ _ _ _ _ _ l _=>l
def aft:It→List ByteArray|mk _ _ _ _ _ _ _ _ l=>l
end It
theorem BZ(k:Int)(e:Ex)(nm ix:ByteArray)(ws:List Wt)(l m:List It)(bf af:List ByteArray):(It.mk k e nm ix ws l m bf af).ex=e:=rfl
theorem AX(k:Int)(e:Ex)(nm ix:ByteArray)(ws:List Wt)(l m:List It)(bf af:List ByteArray):(It.mk k e nm ix ws l m bf af).ws=ws:=rfl
theorem vD(k:Int)(e:Ex)(nm ix:ByteArray)(ws:List Wt)(l m:List It)(bf af:List ByteArray):(It.mk k e nm ix ws l m bf af).items=l:=rfl
theorem Ae(k:Int)(e:Ex)(nm ix:ByteArray)(ws:List Wt)(l m:List It)(bf af:List ByteArray):(It.mk k e nm ix ws l m bf af).els=m:=rfl
theorem AC(k:Int)(e:Ex)(nm ix:ByteArray)(ws:List Wt)(l m:List It)(bf af:List ByteArray):(It.mk k e nm ix ws l m bf af).bef=bf:=rfl
theorem zq(k:Int)(e:Ex)(nm ix:ByteArray)(ws:List Wt)(l m:List It)(bf af:List ByteArray):(It.mk k e nm ix ws l m bf af).aft=af:=rfl
mutual
def isz:It→Nat
 | .mk _ _ _ _ _ l m _ _=>1+bN l+bN m
def bN:List It→Nat
 | []=>0
 | a::r=>isz a+bN r
end
theorem mX(x:It):1≤isz x:=by cases x;rw[isz];omega
theorem lh(x:It):isz x=1+bN x.items+bN x.els:=by cases x;rfl
theorem nH{l:List It}{a:It}(h:a∈l):isz a≤bN l:=by
 induction l with
 | nil=>cases h
 | cons b r ih=>
  rw[bN];rcases List.mem_cons.1 h with rfl|h
  ·omega
  ·have:=ih h;omega
theorem nL(l:List It):l.length≤bN l:=by
 induction l with
 | nil=>exact Nat.le_refl _
 | cons b r ih=>rw[bN,List.length_cons];have:=mX b;omega
theorem jS{P:List It→Prop}(h0:P [])(h:∀(a:It) (r:List It),P a.items→P a.els→P r→P (a::r)):∀l,P l:=by
 have H:∀n l,bN l≤n→P l:=by
  intro n
  induction n with
  | zero=>
   intro l hl;cases l with
   | nil=>exact h0
   | cons a r=>rw[bN]at hl;have:=mX a;omega
  | succ n ih=>
   intro l hl;cases l with
   | nil=>exact h0
   | cons a r=>
    rw[bN]at hl;have h1:=lh a;exact h a r (ih _ (by omega)) (ih _ (by omega)) (ih _ (by omega))
 exact fun l=>H _ l (Nat.le_refl _)
section
variable {σ : Type} (step : σ → It → Nat → List ByteArray → Int × σ)
mutual
def wk:It→Nat→List ByteArray→σ→Int×σ
 | .mk k e nm ix ws l m bf af,d,bd,s=>
  if(step s (.mk k e nm ix ws l m bf af) d bd).1=0 then
   if(wks l (if k=4∨k=5 then d+1 else d) (if k=5 then bd++[ix]else bd) (step s (.mk k e nm ix ws l m bf af) d bd).2).1=0 then
    wks m (if k=4∨k=5 then d+1 else d) bd (wks l (if k=4∨k=5 then d+1 else d) (if k=5 then bd++[ix]else bd) (step s (.mk k e nm ix ws l m bf af) d bd).2).2
   else wks l (if k=4∨k=5 then d+1 else d) (if k=5 then bd++[ix]else bd) (step s (.mk k e nm ix ws l m bf af) d bd).2
  else step s (.mk k e nm ix ws l m bf af) d bd
def wks:List It→Nat→List ByteArray→σ→Int×σ
 | [],_,_,s=>(0,s)
 | a::r,d,bd,s=>if(wk a d bd s).1=0 then wks r d bd (wk a d bd s).2 else wk a d bd s
end
def dep(x:It)(d:Nat):Nat:=if x.kind=4∨x.kind=5 then d+1 else d
def bnd(x:It)(bd:List ByteArray):List ByteArray:=if x.kind=5 then bd++[x.idx]else bd
theorem yK(x:It)(d:Nat)(bd:List ByteArray)(s:σ):wk step x d bd s=if(step s x d bd).1=0 then(if(wks step x.items (dep x d) (bnd x bd) (step s x d bd).2).1=0 then wks step x.els (dep x d) bd (wks step x.items (dep x d) (bnd x bd) (step s x d bd).2).2 else wks step x.items (dep x d) (bnd x bd) (step s x d bd).2)else step s x d bd:=by
 cases x;rw[wk];rfl
end
def wkE(f:It→Nat→List ByteArray→Int)(l:List It)(d:Nat)(bd:List ByteArray):Int:=(wks (fun(_:Unit) x d bd=>(f x d bd,())) l d bd ()).1
theorem qz(f:It→Nat→List ByteArray→Int)(d:Nat)(bd:List ByteArray):wkE f [] d bd=0:=rfl
theorem uv(f:It→Nat→List ByteArray→Int)(x:It)(r:List It)(d:Nat)(bd:List ByteArray):wkE f (x::r) d bd=
 if f x d bd=0 then(if wkE f x.items (dep x d) (bnd x bd)=0 then(if wkE f x.els (dep x d) bd=0 then wkE f r d bd else wkE f x.els (dep x d) bd)else wkE f x.items (dep x d) (bnd x bd))else f x d bd:=by
 unfold wkE;rw[wks,yK];by_cases h1:f x d bd=0
 ·rw[if_pos h1,if_pos h1];by_cases h2:(wks (fun(_:Unit) x d bd=>(f x d bd,())) x.items (dep x d) (bnd x bd) ()).1=0
  ·rw[if_pos h2,if_pos h2];by_cases h3:(wks (fun(_:Unit) x d bd=>(f x d bd,())) x.els (dep x d) bd ()).1=0
   ·rw[if_pos h3,if_pos h3]
   ·rw[if_neg h3,if_neg h3]
  ·rw[if_neg h2,if_neg h2,if_neg h2]
 ·rw[if_neg h1,if_neg h1,if_neg h1]
def dh(e:Ex):Bool:=decide (e.op=0)&&decide (e.num=0)&&decide (e.name=⟨#[]⟩)&&e.args.isEmpty
def bF(x:It):Bool:=
 (decide (x.kind=1∨x.kind=2∨x.kind=4)||dh x.ex)&&(decide (x.kind=3∨x.kind=5)||decide (x.name=⟨#[]⟩))&&(decide (x.kind=5)||decide (x.idx=⟨#[]⟩)) &&
   (decide (x.kind=3)||x.ws.isEmpty)&&(decide (x.kind=4∨x.kind=5)||x.items.isEmpty)&&(decide (x.kind=4)||x.els.isEmpty)&&(decide (x.kind=6)||x.bef.isEmpty&&x.aft.isEmpty)
def wtB(w:Wt):Bool:=decide (0≤w.lo)&&decide (w.lo≤w.hi)&&decide (w.hi≤65535)&&decide (0≤w.w)&&decide (w.w≤1000)
def eW(x:It):Int:=if x.ws.length>16 then 2 else if x.ws=[]then 1 else if x.ws.all wtB=false then 1 else if aK x.name=true then 0 else 7
def fW(x:It):Int:=if x.bef=[]∨x.aft=[]then 1 else if(x.bef++x.aft).all aK=true then 0 else 7
def kh(x:It):Int:=if aL x.name=true∧aL x.idx=true then 0 else 7
def aP(x:It)(d:Nat):Int:=
 if ¬(1≤x.kind∧x.kind≤6)∨bF x=false∨4<d∨0<d∧(x.kind=3∨x.kind=6)then 1
 else if x.kind=3 then eW x else if x.kind=6 then fW x else if x.kind=5 then kh x else bM x.ex
theorem fy{x:It}{d:Nat}(h:aP x d=0):(1≤x.kind∧x.kind≤6)∧bF x=true∧d≤4:=by
 unfold aP at h;split at h
 ·cases h
 ·rename_i hn;refine⟨Classical.byContradiction fun hh=>hn (.inl hh),?_,?_⟩
  ·cases hp:bF x with
   | true=>rfl
   | false=>exact absurd (.inr (.inl hp)) hn
  ·exact Classical.byContradiction fun hh=>hn (.inr (.inr (.inl (by omega))))
theorem pB{x:It}(h:bF x=true)(hk:¬(x.kind=4∨x.kind=5)):x.items=[]∧x.els=[]:=by
 unfold bF at h;simp only[Bool.and_eq_true,Bool.or_eq_true,decide_eq_true_eq,List.isEmpty_iff]at h;obtain⟨⟨⟨-,h1⟩,h2⟩,-⟩:=h;exact⟨h1.resolve_left hk,h2.resolve_left fun h=>hk (.inl h)⟩
mutual
def rvl:List It→Nat→Int
 | [],_=>0
 | x::r,d=>if rv1 x d=0 then rvl r d else rv1 x d
def rv1:It→Nat→Int
 | .mk k e nm ix ws l m bf af,d=>if aP (.mk k e nm ix ws l m bf af) d=0 then(if rvl l (d+1)=0 then rvl m (d+1)else rvl l (d+1))else aP (.mk k e nm ix ws l m bf af) d
end
theorem oL(x:It)(d:Nat):rv1 x d=if aP x d=0 then(if rvl x.items (d+1)=0 then rvl x.els (d+1)else rvl x.items (d+1))else aP x d:=by cases x;rw[rv1];rfl
def oB(x:It)(d:Nat)(_:List ByteArray):Int:=aP x d
theorem oO:∀(l:List It) (d:Nat) (bd:List ByteArray),wkE oB l d bd=rvl l d:=by
 refine jS (fun d bd=>rfl) fun x r h1 h2 h3 d bd=>?_;rw[uv,rvl,oL];show(if aP x d=0 then _ else aP x d)=_;by_cases hs:aP x d=0
 ·rw[if_pos hs,if_pos hs];obtain⟨-,hp,-⟩:=fy hs;by_cases hk:x.kind=4∨x.kind=5
  ·have hd:dep x d=d+1:=if_pos hk;rw[hd,h1,h2,h3];by_cases e1:rvl x.items (d+1)=0
   ·rw[if_pos e1,if_pos e1]
   ·rw[if_neg e1,if_neg e1,if_neg e1]
  ·obtain⟨g1,g2⟩:=pB hp hk;rw[g1,g2,qz,if_pos rfl,qz,if_pos rfl,h3,rvl,if_pos rfl,if_pos rfl]
 ·rw[if_neg hs,if_neg hs,if_neg hs]
def cA(l:List It):Int:=if 64<bN l then 2 else rvl l 0
section
variable (spl : ByteArray → Option (ByteArray × Int)) (fs : List (ByteArray × Int))
end
end Go.Proofs.YtcbahpllcfbkmaaGreatDoor
