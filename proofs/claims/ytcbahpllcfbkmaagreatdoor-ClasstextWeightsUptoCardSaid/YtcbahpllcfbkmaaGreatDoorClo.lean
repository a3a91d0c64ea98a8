import Derived.Test.YtcbahpllcfbkmaaGreatDoorBr8
import Derived.Test.YtcbahpllcfbkmaaGreatDoorLib7
import Derived.Test.YtcbahpllcfbkmaaGreatDoorData
import Derived.Test.YtcbahpllcfbkmaaGreatDoorShelf
import Derived.Test.YtcbahpllcfbkmaaGreatDoorNames2
set_option linter.unusedVariables false
set_option linter.unusedSimpArgs false
set_option linter.unusedSectionVars false
namespace Go.Proofs.YtcbahpllcfbkmaaGreatDoor
open Go.RowKit
structure Wt where
 lo:Int
 hi:Int
 w:Int
 each:Bool
 deriving DecidableEq
inductive It where
 | mk (kind:Int) (e:Ex) (name idx:ByteArray) (ws:List Wt) (items els:List It) (bef aft:List ByteArray)
namespace It
def kind:It→Int|mk k _ _ _ _ _ _ _ _=>k
def ex:It→Ex|mk _ e _ _ _ _ _ _ _=>e
def name:It→ByteArray|mk _ _ s _ _ _ _ _ _=>s
def idx:It→ByteArray|mk _ _ _ s _ _ _ _ _=>s
def ws:It→List Wt|mk _ _ _ _ l _ _ _ _=>l
def items:It→List It|mk _ _ _ _ _ l _ _ _=>l
def els:It→List It|mk _ _ _ _ _ _ l _ _=>l
def bef:It→List ByteArray|mk _ _ _ _ _ _ _ l _=>l
def aft:It→List ByteArray|mk _ _ _ _ _ _ _ _ l=>l
end It
theorem im_ex(k:Int)(e:Ex)(nm ix:ByteArray)(ws:List Wt)(l m:List It)(bf af:List ByteArray):(It.mk k e nm ix ws l m bf af).ex=e:=rfl
theorem im_ws(k:Int)(e:Ex)(nm ix:ByteArray)(ws:List Wt)(l m:List It)(bf af:List ByteArray):(It.mk k e nm ix ws l m bf af).ws=ws:=rfl
theorem im_items(k:Int)(e:Ex)(nm ix:ByteArray)(ws:List Wt)(l m:List It)(bf af:List ByteArray):(It.mk k e nm ix ws l m bf af).items=l:=rfl
theorem im_els(k:Int)(e:Ex)(nm ix:ByteArray)(ws:List Wt)(l m:List It)(bf af:List ByteArray):(It.mk k e nm ix ws l m bf af).els=m:=rfl
theorem im_bef(k:Int)(e:Ex)(nm ix:ByteArray)(ws:List Wt)(l m:List It)(bf af:List ByteArray):(It.mk k e nm ix ws l m bf af).bef=bf:=rfl
theorem im_aft(k:Int)(e:Ex)(nm ix:ByteArray)(ws:List Wt)(l m:List It)(bf af:List ByteArray):(It.mk k e nm ix ws l m bf af).aft=af:=rfl
mutual
def isz:It→Nat
 | .mk _ _ _ _ _ l m _ _=>1+iszs l+iszs m
def iszs:List It→Nat
 | []=>0
 | a::r=>isz a+iszs r
end
theorem isz_pos(x:It):1≤isz x:=by cases x;rw[isz];omega
theorem isz_eq(x:It):isz x=1+iszs x.items+iszs x.els:=by cases x;rfl
theorem iszs_mem{l:List It}{a:It}(h:a∈l):isz a≤iszs l:=by
 induction l with
 | nil=>cases h
 | cons b r ih=>
  rw[iszs];rcases List.mem_cons.1 h with rfl|h
  ·omega
  ·have:=ih h;omega
theorem iszs_len(l:List It):l.length≤iszs l:=by
 induction l with
 | nil=>exact Nat.le_refl _
 | cons b r ih=>rw[iszs,List.length_cons];have:=isz_pos b;omega
theorem its_ind{P:List It→Prop}(h0:P [])(h:∀(a:It) (r:List It),P a.items→P a.els→P r→P (a::r)):∀l,P l:=by
 have H:∀n l,iszs l≤n→P l:=by
  intro n
  induction n with
  | zero=>
   intro l hl;cases l with
   | nil=>exact h0
   | cons a r=>rw[iszs]at hl;have:=isz_pos a;omega
  | succ n ih=>
   intro l hl;cases l with
   | nil=>exact h0
   | cons a r=>
    rw[iszs]at hl;have h1:=isz_eq a;exact h a r (ih _ (by omega)) (ih _ (by omega)) (ih _ (by omega))
 exact fun l=>H _ l (Nat.le_refl _)
section
variable {σ : Type} (step : σ → It → Nat → List ByteArray → Int × σ)
mutual
def wk:It→Nat→List ByteArray→σ→Int×σ
 | .mk k e nm ix ws l m bf af,d,bd,s=>
  if(step s (.mk k e nm ix ws l m bf af) d bd).1=0 then
   if(wks l (if k=4∨k=5 then d+1 else d) (if k=5 then bd++[ix]else bd) (step s (.mk k e nm ix ws l m bf af) d bd).2).1=0 then
    wks m (if k=4∨k=5 then d+1 else d) bd (wks l (if k=4∨k=5 then d+1 else d) (if k=5 then bd++[ix]else bd) (step s (.mk k e nm ix ws l m bf af) d bd).2).2
   else wks l (if k=4∨k=5 then d+1 else d) (if k=5 then bd++[ix]else bd) (step s (.mk k e nm ix ws l m bf af) d bd).2
  else step s (.mk k e nm ix ws l m bf af) d bd
def wks:List It→Nat→List ByteArray→σ→Int×σ
 | [],_,_,s=>(0,s)
 | a::r,d,bd,s=>if(wk a d bd s).1=0 then wks r d bd (wk a d bd s).2 else wk a d bd s
end
def dep(x:It)(d:Nat):Nat:=if x.kind=4∨x.kind=5 then d+1 else d
def bnd(x:It)(bd:List ByteArray):List ByteArray:=if x.kind=5 then bd++[x.idx]else bd
theorem wk_eq(x:It)(d:Nat)(bd:List ByteArray)(s:σ):wk step x d bd s=if(step s x d bd).1=0 then(if(wks step x.items (dep x d) (bnd x bd) (step s x d bd).2).1=0 then wks step x.els (dep x d) bd (wks step x.items (dep x d) (bnd x bd) (step s x d bd).2).2 else wks step x.items (dep x d) (bnd x bd) (step s x d bd).2)else step s x d bd:=by
 cases x;rw[wk];rfl
end
def wkE(f:It→Nat→List ByteArray→Int)(l:List It)(d:Nat)(bd:List ByteArray):Int:=(wks (fun(_:Unit) x d bd=>(f x d bd,())) l d bd ()).1
theorem wkE_nil(f:It→Nat→List ByteArray→Int)(d:Nat)(bd:List ByteArray):wkE f [] d bd=0:=rfl
theorem wkE_cons(f:It→Nat→List ByteArray→Int)(x:It)(r:List It)(d:Nat)(bd:List ByteArray):wkE f (x::r) d bd=
 if f x d bd=0 then(if wkE f x.items (dep x d) (bnd x bd)=0 then(if wkE f x.els (dep x d) bd=0 then wkE f r d bd else wkE f x.els (dep x d) bd)else wkE f x.items (dep x d) (bnd x bd))else f x d bd:=by
 unfold wkE;rw[wks,wk_eq];by_cases h1:f x d bd=0
 ·rw[if_pos h1,if_pos h1];by_cases h2:(wks (fun(_:Unit) x d bd=>(f x d bd,())) x.items (dep x d) (bnd x bd) ()).1=0
  ·rw[if_pos h2,if_pos h2];by_cases h3:(wks (fun(_:Unit) x d bd=>(f x d bd,())) x.els (dep x d) bd ()).1=0
   ·rw[if_pos h3,if_pos h3]
   ·rw[if_neg h3,if_neg h3]
  ·rw[if_neg h2,if_neg h2,if_neg h2]
 ·rw[if_neg h1,if_neg h1,if_neg h1]
def blankB(e:Ex):Bool:=decide (e.op=0)&&decide (e.num=0)&&decide (e.name=⟨#[]⟩)&&e.args.isEmpty
def plainB(x:It):Bool:=
 (decide (x.kind=1∨x.kind=2∨x.kind=4)||blankB x.ex)&&(decide (x.kind=3∨x.kind=5)||decide (x.name=⟨#[]⟩))&&(decide (x.kind=5)||decide (x.idx=⟨#[]⟩)) &&
   (decide (x.kind=3)||x.ws.isEmpty)&&(decide (x.kind=4∨x.kind=5)||x.items.isEmpty)&&(decide (x.kind=4)||x.els.isEmpty)&&(decide (x.kind=6)||x.bef.isEmpty&&x.aft.isEmpty)
def wtB(w:Wt):Bool:=decide (0≤w.lo)&&decide (w.lo≤w.hi)&&decide (w.hi≤65535)&&decide (0≤w.w)&&decide (w.w≤1000)
def distE(x:It):Int:=if x.ws.length>16 then 2 else if x.ws=[]then 1 else if x.ws.all wtB=false then 1 else if isVarB x.name=true then 0 else 7
def solveE(x:It):Int:=if x.bef=[]∨x.aft=[]then 1 else if(x.bef++x.aft).all isVarB=true then 0 else 7
def eachE(x:It):Int:=if nameB x.name=true∧nameB x.idx=true then 0 else 7
def shapeE(x:It)(d:Nat):Int:=
 if ¬(1≤x.kind∧x.kind≤6)∨plainB x=false∨4<d∨0<d∧(x.kind=3∨x.kind=6)then 1
 else if x.kind=3 then distE x else if x.kind=6 then solveE x else if x.kind=5 then eachE x else validE x.ex
theorem shape_zero{x:It}{d:Nat}(h:shapeE x d=0):(1≤x.kind∧x.kind≤6)∧plainB x=true∧d≤4:=by
 unfold shapeE at h;split at h
 ·cases h
 ·rename_i hn;refine⟨Classical.byContradiction fun hh=>hn (.inl hh),?_,?_⟩
  ·cases hp:plainB x with
   | true=>rfl
   | false=>exact absurd (.inr (.inl hp)) hn
  ·exact Classical.byContradiction fun hh=>hn (.inr (.inr (.inl (by omega))))
theorem plain_leaf{x:It}(h:plainB x=true)(hk:¬(x.kind=4∨x.kind=5)):x.items=[]∧x.els=[]:=by
 unfold plainB at h;simp only[Bool.and_eq_true,Bool.or_eq_true,decide_eq_true_eq,List.isEmpty_iff]at h;obtain⟨⟨⟨-,h1⟩,h2⟩,-⟩:=h;exact⟨h1.resolve_left hk,h2.resolve_left fun h=>hk (.inl h)⟩
mutual
def rvl:List It→Nat→Int
 | [],_=>0
 | x::r,d=>if rv1 x d=0 then rvl r d else rv1 x d
def rv1:It→Nat→Int
 | .mk k e nm ix ws l m bf af,d=>if shapeE (.mk k e nm ix ws l m bf af) d=0 then(if rvl l (d+1)=0 then rvl m (d+1)else rvl l (d+1))else shapeE (.mk k e nm ix ws l m bf af) d
end
theorem rv1_eq(x:It)(d:Nat):rv1 x d=if shapeE x d=0 then(if rvl x.items (d+1)=0 then rvl x.els (d+1)else rvl x.items (d+1))else shapeE x d:=by cases x;rw[rv1];rfl
def shapeW(x:It)(d:Nat)(_:List ByteArray):Int:=shapeE x d
theorem valid_same:∀(l:List It) (d:Nat) (bd:List ByteArray),wkE shapeW l d bd=rvl l d:=by
 refine its_ind (fun d bd=>rfl) fun x r h1 h2 h3 d bd=>?_;rw[wkE_cons,rvl,rv1_eq];show(if shapeE x d=0 then _ else shapeE x d)=_;by_cases hs:shapeE x d=0
 ·rw[if_pos hs,if_pos hs];obtain⟨-,hp,-⟩:=shape_zero hs;by_cases hk:x.kind=4∨x.kind=5
  ·have hd:dep x d=d+1:=if_pos hk;rw[hd,h1,h2,h3];by_cases e1:rvl x.items (d+1)=0
   ·rw[if_pos e1,if_pos e1]
   ·rw[if_neg e1,if_neg e1,if_neg e1]
  ·obtain⟨g1,g2⟩:=plain_leaf hp hk;rw[g1,g2,wkE_nil,if_pos rfl,wkE_nil,if_pos rfl,h3,rvl,if_pos rfl,if_pos rfl]
 ·rw[if_neg hs,if_neg hs,if_neg hs]
def validI(l:List It):Int:=if 64<iszs l then 2 else rvl l 0
section
variable (spl : ByteArray → Option (ByteArray × Int)) (fs : List (ByteArray × Int))
end
end Go.Proofs.YtcbahpllcfbkmaaGreatDoor
namespace Go.Proofs.YtcbahpllcfbkmaaGreatDoor
open Go.RowKit
section
variable (fs : List (ByteArray × Int))
end
end Go.Proofs.YtcbahpllcfbkmaaGreatDoor
namespace Go.Proofs.YtcbahpllcfbkmaaGreatDoor
open Go.RowKit
abbrev dbl(b:Bool):D:=.lit (.bool b)
def dwt(w:Wt):List D:=[dint w.lo,dint w.hi,dint w.w,dbl w.each]
mutual
def dit:It→List D
 | .mk k e nm ix ws l m bf af=>[dint k,dint e.op,dint e.num,dstr e.name,.sl (e.args.map dex),dstr nm,dstr ix,.sl (ws.map dwt),.sl (dits l),.sl (dits m),.sl (bf.map fun s=>[dstr s]),.sl (af.map fun s=>[dstr s])]
def dits:List It→List (List D)
 | []=>[]
 | a::r=>dit a::dits r
end
theorem dits_map(l:List It):dits l=l.map dit:=by
 induction l with
 | nil=>rfl
 | cons a r ih=>simp only[dits,ih,List.map_cons]
theorem dit_eq(x:It):dit x=[dint x.kind,dint x.ex.op,dint x.ex.num,dstr x.ex.name,.sl (x.ex.args.map dex),dstr x.name,dstr x.idx,.sl (x.ws.map dwt),.sl (x.items.map dit),.sl (x.els.map dit),.sl (x.bef.map fun s=>[dstr s]),.sl (x.aft.map fun s=>[dstr s])]:=by
 cases x;simp only[dit,dits_map,It.kind,It.ex,It.name,It.idx,It.ws,It.items,It.els,It.bef,It.aft]
def vit(x:It):V:=.agg ((dit x).map V.d)
theorem vit_eq(x:It):vit x=.agg [.d (dint x.kind),.d (dint x.ex.op),.d (dint x.ex.num),.d (dstr x.ex.name),.d (.sl (x.ex.args.map dex)),.d (dstr x.name),.d (dstr x.idx),.d (.sl (x.ws.map dwt)),.d (.sl (x.items.map dit)),.d (.sl (x.els.map dit)),.d (.sl (x.bef.map fun s=>[dstr s])),.d (.sl (x.aft.map fun s=>[dstr s]))]:=by
 unfold vit;rw[dit_eq];rfl
theorem dit_len(x:It):(dit x).length=12:=by rw[dit_eq];rfl
abbrev ditl(l:List It):D:=.sl (l.map dit)
mutual
def ibig:It→Nat
 | .mk _ e _ _ ws l m bf af=>1+esize e+ws.length+bf.length+af.length+ibigs l+ibigs m
def ibigs:List It→Nat
 | []=>0
 | a::r=>ibig a+ibigs r
end
theorem ibig_eq(x:It):ibig x=1+esize x.ex+x.ws.length+x.bef.length+x.aft.length+ibigs x.items+ibigs x.els:=by cases x;rfl
theorem ibigs_mem{l:List It}{a:It}(h:a∈l):ibig a≤ibigs l:=by
 induction l with
 | nil=>cases h
 | cons b r ih=>
  rw[ibigs];rcases List.mem_cons.1 h with rfl|h
  ·omega
  ·have:=ih h;omega
theorem ibigs_len(l:List It):l.length≤ibigs l:=by
 induction l with
 | nil=>exact Nat.le_refl _
 | cons b r ih=>rw[ibigs,List.length_cons,ibig_eq];omega
theorem isz_big:∀l:List It,iszs l≤ibigs l:=by
 refine its_ind (Nat.le_refl _) fun x r h1 h2 h3=>?_;rw[iszs,ibigs,isz_eq,ibig_eq];omega
abbrev vplc(d:Nat)(bd:List ByteArray):V:=.agg [.d (dint d),.d (.sl (bd.map fun s=>[dstr s]))]
end Go.Proofs.YtcbahpllcfbkmaaGreatDoor
namespace Go.Proofs.YtcbahpllcfbkmaaGreatDoor
open Go.RowKit Go.Shelf
theorem ownsRow_low{w:World}{base T k n:Nat}{v:Value}{xs:List Value}(h:w.ownsRow base T k v n xs):w.ownsRow 0 T k v n xs:=
 ⟨h.1,h.2.imp id fun⟨g,cap,cur,a,b,c⟩=>⟨g,cap,cur,a,Nat.zero_le _,c⟩⟩
theorem infoStr:∃i0,Tryz.prog.info? 9=some i0∧i0.zero=some (.string ⟨#[]⟩)∧i0.size=1∧i0.bytes=16:=by
 have h:(Tryz.prog.info? 9).map (fun i=>(i.zero,i.size,i.bytes))=some (some (.string ⟨#[]⟩),1,16):=by kernel_rfl
 cases hi:Tryz.prog.info? 9 with
 | none=>rw[hi]at h;cases h
 | some i0=>rw[hi]at h;simp only[Option.map_some,Option.some.injEq,Prod.mk.injEq]at h;exact⟨i0,rfl,h.1,h.2.1,h.2.2⟩
theorem clone_mem(l:List ByteArray)(hl:l.length≤1200000)(v:Value)(w:World)(hv:StrsVal w l v):Calls Tryz.prog 83 #[v] w (RetOwnS l w):=by
 obtain⟨p,cap,rfl,h1,h2,h3⟩:=hv
 have fin:∀e w',(∃v',e=Ending.returned v'∧w'.ownsRow w.heap.size 9 1 v' l.length (l.map Value.string)∧v'≠.slice none 0 0∧Below w.heap.size w w')→RetOwnS l w e w':=fun e w' ⟨v',g1,g2,_,g4⟩=>
  ⟨v',g1,ownsRow_low g2,(fun k hk=>(g2.lt k hk).1),g4⟩
 cases p with
 | none=>
  have hl0:l=[]:=by
   cases l with
   | nil=>rfl
   | cons a r=>obtain⟨b,off,e,-⟩:=h3 0 a rfl;cases e
  subst hl0;refine(AnyE.slices_Clone_nil (ρ:=Tryz.cloneSA_ren) Tryz.cloneSA 0 cap w).mono fun e w' ⟨g1,g2⟩=>?_;subst g2;exact⟨_,g1,⟨rfl,.inl ⟨rfl,rfl⟩⟩,(fun k hk=>by cases hk),Ext.refl _⟩
 | some a=>
  by_cases hl0:l=[]
  ·subst hl0;exact(AnyG.slices_Clone_string_zero (ρ:=Tryz.cloneZA_ren) Tryz.cloneZA a cap w).mono fin
  ·obtain⟨x,r,rfl⟩:=List.exists_cons_of_ne_nil hl0;obtain⟨b,off,e,-⟩:=h3 0 x rfl;cases e;obtain⟨i0,hi,z0,z1,z2⟩:=infoStr;refine(AnyE.slices_Clone (ρ:=Tryz.cloneSA_ren) Tryz.cloneSA i0 _ 1 16 hi z0 z1 z2 rfl (by decide) (fun w=>Tryz.sizeOf9 w) b off (x::r).length cap ((x::r).map Value.string) w (by simp) (by unfold maxLen;omega) (by omega) (fun j u hu=>?_) (fun u hu=>?_)).mono fin
   ·rw[List.getElem?_map]at hu;obtain⟨s,hs,rfl⟩:=Option.map_eq_some_iff.1 hu;obtain⟨b',off',e,hc⟩:=h3 j s hs;cases e;exact hc
   ·obtain⟨s,-,rfl⟩:=List.mem_map.1 hu;rfl
theorem strs_size{M:Facts}{bm:List Nat}{l:List ByteArray}{v:Value}(h:Rep M bm (.d (dstrs l)) v):∀s,s∈l→s.size≤maxLen:=by
 intro s hs;cases h with
 | d h=>
 unfold dstrs at h;generalize hr:(l.map fun s=>[dstr s])=rows at h;cases h with
 | sl _ k p cap val hk hd hf hc hm=>
 obtain⟨i,hi,rfl⟩:=List.getElem_of_mem hs;have hir:i<rows.length:=by rw[←hr];simpa using hi
 have e:rows[i]=[dstr l[i]]:=by subst hr;simp
 have:=hd i 0 hir (by rw[e];simp);simp only[e,List.getElem_cons_zero,dstr]at this;generalize val i 0=u at this;cases this with|lit _ hf=>exact hf
theorem clone_own(l:List ByteArray)(hl:l.length≤1200000)(σ:List (List V)):Fun G 83 [.d (dstrs l)] σ (RetV (.own 9 1 (l.map fun s=>[dstr s])) σ):=
 fun_own_strs Tryz.func83 (by kernel_rfl) (by kernel_rfl) fun M bm w vs hG hM hn hr=>match vs,hn with
  | [v],_=>by
   have h1:Rep M bm (.d (dstrs l)) v:=hr 0 (by simp) (by simp);exact⟨strs_size h1,clone_mem l hl v w (strsval_of hM h1)⟩
end Go.Proofs.YtcbahpllcfbkmaaGreatDoor
