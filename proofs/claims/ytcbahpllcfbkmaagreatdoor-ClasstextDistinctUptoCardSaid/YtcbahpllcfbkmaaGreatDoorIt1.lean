import Derived.Test.YtcbahpllcfbkmaaGreatDoorLib7
import Derived.Test.YtcbahpllcfbkmaaGreatDoorBr8
import Derived.Test.YtcbahpllcfbkmaaGreatDoorData
import Derived.Test.YtcbahpllcfbkmaaGreatDoorNames2
import Derived.Lib.AppendZerosOnto
import Derived.Lib.SliceRun
import Derived.Lib.Walk
set_option linter.unusedVariables false
set_option linter.unusedSimpArgs false
set_option linter.unusedSectionVars false
namespace Go.Proofs.YtcbahpllcfbkmaaGreatDoor
open Go.RowKit
theorem Tryz.under_strs:Tryz.prog.underlying 43=some (.slice 9):=by kernel_rfl
theorem Tryz.under_int:Tryz.prog.underlying 3=some (.int .i64):=by kernel_rfl
theorem uU(w:World):Calls Tryz.prog 115 #[.slice none 0 0,.int .i64 0] w fun e w'=>e=.returned (.slice none 0 0)∧w'=w:=by
 have h2:wrap64 ((0:Int)-(0:Int))=0:=by unfold wrap64;omega
 go_enter Tryz.func115,Tryz.ntmps115;go_wp2_with fail;go_ret;exact⟨rfl,rfl⟩
set_option maxHeartbeats 2000000 in
theorem Ag(n:Nat)(h0:0<n)(hn:n≤1200000)(w:World):Calls Tryz.prog 115 #[.slice none 0 0,.int .i64 n] w fun e w'=>
 e=.returned (.slice (some ⟨w.heap.size,0,none⟩) 0 (grownCap w n 0 9))∧
  w'=w.drew.alloc (.cells (Builtin.zeroCells #[.string ⟨#[]⟩] n++Builtin.zeroCells #[.string ⟨#[]⟩] (grownCap w n 0 9-n)) 9):=by
 obtain⟨i0,hi0,hz0,hs0,hb0⟩:∃i0,Tryz.prog.info? 9=some i0∧i0.zero=some (.string ⟨#[]⟩)∧i0.size=1∧i0.bytes=16:=by
  have h:=Tryz.infoS;cases hi:Tryz.prog.info? 9 with
  | none=>rw[hi]at h;cases h
  | some i0=>rw[hi]at h;simp only[Option.map_some,Option.some.injEq,Prod.mk.injEq]at h;exact⟨i0,rfl,h.1,h.2.1,h.2.2⟩
 have h1:¬((n:Int)<0):=by omega
 have h2:wrap64 ((0:Int)-(0:Int))=0:=by unfold wrap64;omega
 have h3:wrap64 ((n:Int)-0)=n:=by unfold wrap64;omega
 have h4:(n:Int)>0:=by omega
 have hold:(Builtin.firstCells i0.size 0 (.slice none 0 0)).run Tryz.prog w.drew=.ok (#[]:Array Value) w.drew:=run_firstCells_none w.drew i0.size 0 0 0
 have hrz:∀ty,(Builtin.append_ #[43,3] ty #[.slice none 0 0,.int .i64 (n:Int)]).run Tryz.prog w=
  .ok (.slice (some ⟨w.heap.size,0,none⟩) n (grownCap w n 0 9)) (w.drew.alloc (.cells (Builtin.zeroCells #[.string ⟨#[]⟩] n++Builtin.zeroCells #[.string ⟨#[]⟩] (grownCap w n 0 9-n)) 9)):=fun ty=>by
  have h:=Lib.run_append_grow_zeros w 43 3 ty 9 i0 _ .i64 .i64 Tryz.under_strs Tryz.under_int hi0 hz0 none 0 0 [] hold n (by omega) (by omega) (by omega) (by omega) (by rw[hb0];omega)
   (growslice_fits (by omega) (by rw[hb0];omega))
  simp only[Nat.zero_add]at h;rw[h];simp[Value.cells]
 have hGn:n≤grownCap w n 0 9:=grownCap_ge w _ _ _;obtain⟨G,hG⟩:∃G,G=grownCap w n 0 9:=⟨_,rfl⟩
 rw[←hG]at hrz hGn ⊢
 have hG63:G≤9223372036854775807:=by
  have:=grownCap_le_maxLen w n 0 9 (by unfold maxLen;omega);rw[←hG]at this;unfold maxLen at this;omega
 clear hold hG;go_enter Tryz.func115,Tryz.ntmps115;go_wp2_with (at_builtin;refine Lib.wpList_append_run _ rfl _ _ _ _ rfl _ _ rfl rfl _ _ (hrz _) ?_);all_goals (go_ret;exact⟨rfl,rfl⟩)
theorem yC(n:Nat)(hn:n≤1200000)(σ:List (List V)):Fun G 115 [.nil,.d (az n)] σ (aZ (.own 9 1 []) σ):=
 kW (l:=[]) Tryz.func115 (by kernel_rfl) (by kernel_rfl) fun M bm w vs hG hM hl hr=>match vs,hl with
  | [v,u],_=>by
   refine⟨by simp,?_⟩;have h1:Rep M bm .nil v:=hr 0 (by simp) (by simp);have h2:Rep M bm (.d (az n)) u:=hr 1 (by simp) (by simp);cases h1 with
   | nil=>cases h2 with
    | d h2=>cases h2 with
     | lit _ _=>
      by_cases h0:n=0
      ·subst h0;refine(uU w).mono fun e w' ⟨h3,h4⟩=>?_;subst h4;exact⟨_,h3,⟨rfl,.inl ⟨rfl,rfl⟩⟩,(fun k hk=>by cases hk),Ext.refl _⟩
      ·refine(Ag n (by omega) hn w).mono fun e w' ⟨h3,h4⟩=>?_;subst h4;have hGn:n≤grownCap w n 0 9:=grownCap_ge w _ _ _;have hGm:=grownCap_le_maxLen w n 0 9 (by unfold maxLen;omega);refine⟨_,h3,⟨rfl,.inr ⟨w.heap.size,_,_,rfl,Nat.zero_le _,heap_alloc_new w.drew _,Nat.zero_le _,hGm,?_,rfl⟩⟩,fun k hk=>?_,((Ext.refl w).drew).alloc _⟩
       ·simp only[Array.size_append,size_zeroCells,List.size_toArray,List.length_cons,List.length_nil];omega
       ·simp only[Value.ownBlock,Option.some.injEq]at hk;omega
theorem tc(ls:List (List ByteArray))(hs:(ls.map List.length).sum≤1200000)(hn:ls.length≤1200000)(σ:List (List V)):
 Fun G 88 [.d (.sl (ls.map fun l=>[D.sl (l.map fun s=>[an s])]))] σ (aZ (.own 9 1 (ls.flatten.map fun s=>[an s])) σ):=by
 refine ay Tryz.func88 k88 rfl fun hb hw=>?_;unfold c88;generalize hrows:(ls.map fun l=>[D.sl (l.map fun s=>[an s])])=rows;have hrl:rows.length=ls.length:=by rw[←hrows,List.length_map]
 have hre:∀j (h:j<ls.length),rows[j]? = some [D.sl (ls[j].map fun s=>[an s])]:=fun j h=>by rw[←hrows,List.getElem?_map,List.getElem?_eq_getElem h];rfl
 have hle:∀j,((ls.take j).map List.length).sum≤(ls.map List.length).sum:=fun j=>by
  conv=>rhs;rw[←List.take_append_drop j ls]
  rw[List.map_append,List.sum_append];omega
 simp -dsimp -implicitDefEqProofs only[aw,ah,V.copy,V.lend,V.lend1,V.cells,V.boxable,over,ak,ae,ac,ai,V.plain,Nat.reduceLeDiff,cond_true,cond_false,implies_true,eq_self,ne_eq,reduceIte,reduceCtorEq,Nat.reduceBEq,Nat.reduceLT,Nat.reduceEqDiff,Nat.reduceAdd,Nat.reduceSub,Nat.reduceMul,hrl];refine aS [0,3,9,10,11] (R:=fun(j:Nat) ρ σ'=>ρ=[(0,.d (.sl rows)),(3,aI .i64 (((ls.take j).map List.length).sum:Nat)),(9,.d (.sl rows)),(10,aI .i64 ls.length),(11,aI .i64 j)]∧σ'=σ) ls.length ⟨rfl,rfl⟩ ?_ _;rintro j ρ' σ' hj ⟨rfl,rfl⟩;by_cases hlt:j<ls.length
 ·have ht:((ls.take (j+1)).map List.length).sum=((ls.take j).map List.length).sum+ls[j].length:=by
   rw[List.take_add_one,List.getElem?_eq_getElem hlt,List.map_append,List.sum_append];show _+(ls[j].length+0)=_;omega
  have h1:=hle (j+1);have hw1:IntKind.i64.wrap ((((ls.take j).map List.length).sum:Nat)+(ls[j].length:Int))=(((ls.take (j+1)).map List.length).sum:Nat):=by rw[bD (by omega) (by omega),ht];omega
  have hng:¬((((ls.take (j+1)).map List.length).sum:Nat):Int)<0:=by omega
  simp -dsimp -implicitDefEqProofs only[aw,ah,V.copy,V.lend,V.lend1,V.cells,V.boxable,over,ak,ae,ac,ai,V.plain,Nat.reduceLeDiff,cond_true,cond_false,implies_true,eq_self,ne_eq,reduceIte,reduceCtorEq,Nat.reduceBEq,Nat.reduceLT,Nat.reduceEqDiff,Nat.reduceAdd,Nat.reduceSub,Nat.reduceMul,Int.ofNat_lt,hlt,decide_true,hre j hlt,hw1,decide_eq_false hng,aJ hlt (show ls.length≤9223372036854775807 by omega)];exact Nxt.same (Nat.le_refl _) hb rfl ⟨rfl,rfl⟩
 ·simp -dsimp -implicitDefEqProofs only[aw,ah,V.copy,V.lend,V.lend1,V.cells,V.boxable,over,ak,ae,ac,ai,V.plain,Nat.reduceLeDiff,cond_true,cond_false,implies_true,eq_self,ne_eq,reduceIte,reduceCtorEq,Nat.reduceBEq,Nat.reduceLT,Nat.reduceEqDiff,Nat.reduceAdd,Nat.reduceSub,Nat.reduceMul,Int.ofNat_lt,hlt,decide_false];rw[List.take_of_length_le (show ls.length≤j by omega)];refine aq (yC _ hs _) ?_;simp -dsimp -implicitDefEqProofs only[aw,ah,V.copy,V.lend,V.lend1,V.cells,V.boxable,over,ak,ae,ac,ai,V.plain,Nat.reduceLeDiff,cond_true,cond_false,implies_true,eq_self,ne_eq,reduceIte,reduceCtorEq,Nat.reduceBEq,Nat.reduceLT,Nat.reduceEqDiff,Nat.reduceAdd,Nat.reduceSub,Nat.reduceMul,hrl]
  refine aS [6,25,26,27] (R:=fun(j:Nat) ρ σ''=>ρ=[(6,.own 9 1 ((ls.take j).flatten.map fun s=>[an s])),(25,.d (.sl rows)),(26,aI .i64 ls.length),(27,aI .i64 j)]∧σ''=σ') ls.length ⟨rfl,rfl⟩ ?_ _;rintro j ρ' σ'' hj ⟨rfl,rfl⟩;by_cases hlt:j<ls.length
  ·have ht:(ls.take (j+1)).flatten=(ls.take j).flatten++ls[j]:=by
    rw[List.take_add_one,List.getElem?_eq_getElem hlt,List.flatten_append];simp
   have h1:=hle (j+1);have h2:((ls.take j).flatten++ls[j]).length=((ls.take (j+1)).map List.length).sum:=by rw[←ht,List.length_flatten]
   rw[List.length_append]at h2;have hal:(ls[j].map fun s=>[an s]).all (fun r=>r.length==1)=true:=by rw[List.all_map];exact List.all_eq_true.2 fun _ _=>rfl
   simp -dsimp -implicitDefEqProofs only[aw,ah,V.copy,V.lend,V.lend1,V.cells,V.boxable,over,ak,ae,ac,ai,V.plain,Nat.reduceLeDiff,cond_true,cond_false,implies_true,eq_self,ne_eq,reduceIte,reduceCtorEq,Nat.reduceBEq,Nat.reduceLT,Nat.reduceEqDiff,Nat.reduceAdd,Nat.reduceSub,Nat.reduceMul,Int.ofNat_lt,hlt,decide_true,hre j hlt,hal];refine eL (by first|omega|(simp only[List.length_map];omega)) ?_;simp -dsimp -implicitDefEqProofs only[aw,ah,V.copy,V.lend,V.lend1,V.cells,V.boxable,over,ak,ae,ac,ai,V.plain,Nat.reduceLeDiff,cond_true,cond_false,implies_true,eq_self,ne_eq,reduceIte,reduceCtorEq,Nat.reduceBEq,Nat.reduceLT,Nat.reduceEqDiff,Nat.reduceAdd,Nat.reduceSub,Nat.reduceMul,aJ hlt (show ls.length≤9223372036854775807 by omega)];refine⟨hlt,Nxt.same (Nat.le_refl _) hb rfl ⟨?_,rfl⟩⟩;rw[ht,List.map_append]
  ·simp -dsimp -implicitDefEqProofs only[aw,ah,V.copy,V.lend,V.lend1,V.cells,V.boxable,over,ak,ae,ac,ai,V.plain,Nat.reduceLeDiff,cond_true,cond_false,implies_true,eq_self,ne_eq,reduceIte,reduceCtorEq,Nat.reduceBEq,Nat.reduceLT,Nat.reduceEqDiff,Nat.reduceAdd,Nat.reduceSub,Nat.reduceMul,Int.ofNat_lt,hlt,decide_false];rw[List.take_of_length_le (show ls.length≤j by omega)];first|exact aj hb rfl rfl List.take_length ⟨rfl,rfl⟩|exact aj hb rfl rfl List.take_left ⟨rfl,rfl⟩|(trace_state;fail "fin")
structure Wt where
 lo:Int
 hi:Int
 w:Int
 each:Bool
 deriving DecidableEq
inductive It where
 | mk (kind:Int) (e:Ex) (name idx:ByteArray) (ws:List Wt) (items els:List It) (bef aft:List ByteArray)
namespace It
def kind:It→Int|mk k _ _ _ _ _ _ _ _=>k
def ex:It→Ex|mk _ e _ _ _ _ _ _ _=>e
def name:It→ByteArray|mk _ _ s _ _ _ _ _ _=>s
def idx:It→ByteArray|mk _ _ _ s _ _ _ _ _=>s
def ws:It→List Wt|mk _ _ _ _ l _ _ _ _=>l
def items:It→List It|mk _ _ _ _ _ l _ _ _=>l
def els:It→List It|mk _ _ _ _ _ _ l _ _=>l
def bef:It→List ByteArray|mk _ _ _ _ _ _ _ l _=>l
def aft:It→List ByteArray|mk _ _ _ _ _ _ _ _ l=>l
end It
theorem Gx(k:Int)(e:Ex)(nm ix:ByteArray)(ws:List Wt)(l m:List It)(bf af:List ByteArray):(It.mk k e nm ix ws l m bf af).ex=e:=rfl
theorem FB(k:Int)(e:Ex)(nm ix:ByteArray)(ws:List Wt)(l m:List It)(bf af:List ByteArray):(It.mk k e nm ix ws l m bf af).ws=ws:=rfl
theorem yo(k:Int)(e:Ex)(nm ix:ByteArray)(ws:List Wt)(l m:List It)(bf af:List ByteArray):(It.mk k e nm ix ws l m bf af).items=l:=rfl
theorem Dp(k:Int)(e:Ex)(nm ix:ByteArray)(ws:List Wt)(l m:List It)(bf af:List ByteArray):(It.mk k e nm ix ws l m bf af).els=m:=rfl
theorem Ej(k:Int)(e:Ex)(nm ix:ByteArray)(ws:List Wt)(l m:List It)(bf af:List ByteArray):(It.mk k e nm ix ws l m bf af).bef=bf:=rfl
theorem Ec(k:Int)(e:Ex)(nm ix:ByteArray)(ws:List Wt)(l m:List It)(bf af:List ByteArray):(It.mk k e nm ix ws l m bf af).aft=af:=rfl
mutual
def isz:It→Nat
 | .mk _ _ _ _ _ l m _ _=>1+cm l+cm m
def cm:List It→Nat
 | []=>0
 | a::r=>isz a+cm r
end
theorem pQ(x:It):1≤isz x:=by cases x;rw[isz];omega
theorem nu(x:It):isz x=1+cm x.items+cm x.els:=by cases x;rfl
theorem qM{l:List It}{a:It}(h:a∈l):isz a≤cm l:=by
 induction l with
 | nil=>cases h
 | cons b r ih=>
  rw[cm];rcases List.mem_cons.1 h with rfl|h
  ·omega
  ·have:=ih h;omega
theorem qE(l:List It):l.length≤cm l:=by
 induction l with
 | nil=>exact Nat.le_refl _
 | cons b r ih=>rw[cm,List.length_cons];have:=pQ b;omega
theorem kw{P:List It→Prop}(h0:P [])(h:∀(a:It) (r:List It),P a.items→P a.els→P r→P (a::r)):∀l,P l:=by
 have H:∀n l,cm l≤n→P l:=by
  intro n
  induction n with
  | zero=>
   intro l hl;cases l with
   | nil=>exact h0
   | cons a r=>rw[cm]at hl;have:=pQ a;omega
  | succ n ih=>
   intro l hl;cases l with
   | nil=>exact h0
   | cons a r=>
    rw[cm]at hl;have h1:=nu a;exact h a r (ih _ (by omega)) (ih _ (by omega)) (ih _ (by omega))
 exact fun l=>H _ l (Nat.le_refl _)
section
variable {σ : Type} (step : σ → It → Nat → List ByteArray → Int × σ)
mutual
def wk:It→Nat→List ByteArray→σ→Int×σ
 | .mk k e nm ix ws l m bf af,d,bd,s=>
  if(step s (.mk k e nm ix ws l m bf af) d bd).1=0 then
   if(wks l (if k=4∨k=5 then d+1 else d) (if k=5 then bd++[ix]else bd) (step s (.mk k e nm ix ws l m bf af) d bd).2).1=0 then
    wks m (if k=4∨k=5 then d+1 else d) bd (wks l (if k=4∨k=5 then d+1 else d) (if k=5 then bd++[ix]else bd) (step s (.mk k e nm ix ws l m bf af) d bd).2).2
   else wks l (if k=4∨k=5 then d+1 else d) (if k=5 then bd++[ix]else bd) (step s (.mk k e nm ix ws l m bf af) d bd).2
  else step s (.mk k e nm ix ws l m bf af) d bd
def wks:List It→Nat→List ByteArray→σ→Int×σ
 | [],_,_,s=>(0,s)
 | a::r,d,bd,s=>if(wk a d bd s).1=0 then wks r d bd (wk a d bd s).2 else wk a d bd s
end
def dep(x:It)(d:Nat):Nat:=if x.kind=4∨x.kind=5 then d+1 else d
def bnd(x:It)(bd:List ByteArray):List ByteArray:=if x.kind=5 then bd++[x.idx]else bd
theorem C6(x:It)(d:Nat)(bd:List ByteArray)(s:σ):wk step x d bd s=if(step s x d bd).1=0 then(if(wks step x.items (dep x d) (bnd x bd) (step s x d bd).2).1=0 then wks step x.els (dep x d) bd (wks step x.items (dep x d) (bnd x bd) (step s x d bd).2).2 else wks step x.items (dep x d) (bnd x bd) (step s x d bd).2)else step s x d bd:=by
 cases x;rw[wk];rfl
end
def wkE(f:It→Nat→List ByteArray→Int)(l:List It)(d:Nat)(bd:List ByteArray):Int:=(wks (fun(_:Unit) x d bd=>(f x d bd,())) l d bd ()).1
theorem ud(f:It→Nat→List ByteArray→Int)(d:Nat)(bd:List ByteArray):wkE f [] d bd=0:=rfl
theorem AZ(f:It→Nat→List ByteArray→Int)(x:It)(r:List It)(d:Nat)(bd:List ByteArray):wkE f (x::r) d bd=
 if f x d bd=0 then(if wkE f x.items (dep x d) (bnd x bd)=0 then(if wkE f x.els (dep x d) bd=0 then wkE f r d bd else wkE f x.els (dep x d) bd)else wkE f x.items (dep x d) (bnd x bd))else f x d bd:=by
 unfold wkE;rw[wks,C6];by_cases h1:f x d bd=0
 ·rw[if_pos h1,if_pos h1];by_cases h2:(wks (fun(_:Unit) x d bd=>(f x d bd,())) x.items (dep x d) (bnd x bd) ()).1=0
  ·rw[if_pos h2,if_pos h2];by_cases h3:(wks (fun(_:Unit) x d bd=>(f x d bd,())) x.els (dep x d) bd ()).1=0
   ·rw[if_pos h3,if_pos h3]
   ·rw[if_neg h3,if_neg h3]
  ·rw[if_neg h2,if_neg h2,if_neg h2]
 ·rw[if_neg h1,if_neg h1,if_neg h1]
def dv(e:Ex):Bool:=decide (e.op=0)&&decide (e.num=0)&&decide (e.name=⟨#[]⟩)&&e.args.isEmpty
def bv(x:It):Bool:=
 (decide (x.kind=1∨x.kind=2∨x.kind=4)||dv x.ex)&&(decide (x.kind=3∨x.kind=5)||decide (x.name=⟨#[]⟩))&&(decide (x.kind=5)||decide (x.idx=⟨#[]⟩)) &&
   (decide (x.kind=3)||x.ws.isEmpty)&&(decide (x.kind=4∨x.kind=5)||x.items.isEmpty)&&(decide (x.kind=4)||x.els.isEmpty)&&(decide (x.kind=6)||x.bef.isEmpty&&x.aft.isEmpty)
def wtB(w:Wt):Bool:=decide (0≤w.lo)&&decide (w.lo≤w.hi)&&decide (w.hi≤65535)&&decide (0≤w.w)&&decide (w.w≤1000)
def gn(x:It):Int:=if x.ws.length>16 then 2 else if x.ws=[]then 1 else if x.ws.all wtB=false then 1 else if aL x.name=true then 0 else 7
def iC(x:It):Int:=if x.bef=[]∨x.aft=[]then 1 else if(x.bef++x.aft).all aL=true then 0 else 7
def nz(x:It):Int:=if aD x.name=true∧aD x.idx=true then 0 else 7
def aR(x:It)(d:Nat):Int:=
 if ¬(1≤x.kind∧x.kind≤6)∨bv x=false∨4<d∨0<d∧(x.kind=3∨x.kind=6)then 1
 else if x.kind=3 then gn x else if x.kind=6 then iC x else if x.kind=5 then nz x else bU x.ex
theorem dm{x:It}{d:Nat}(h:aR x d=0):(1≤x.kind∧x.kind≤6)∧bv x=true∧d≤4:=by
 unfold aR at h;split at h
 ·cases h
 ·rename_i hn;refine⟨Classical.byContradiction fun hh=>hn (.inl hh),?_,?_⟩
  ·cases hp:bv x with
   | true=>rfl
   | false=>exact absurd (.inr (.inl hp)) hn
  ·exact Classical.byContradiction fun hh=>hn (.inr (.inr (.inl (by omega))))
theorem jS{x:It}(h:bv x=true)(hk:¬(x.kind=4∨x.kind=5)):x.items=[]∧x.els=[]:=by
 unfold bv at h;simp only[Bool.and_eq_true,Bool.or_eq_true,decide_eq_true_eq,List.isEmpty_iff]at h;obtain⟨⟨⟨-,h1⟩,h2⟩,-⟩:=h;exact⟨h1.resolve_left hk,h2.resolve_left fun h=>hk (.inl h)⟩
mutual
def rvl:List It→Nat→Int
 | [],_=>0
 | x::r,d=>if rv1 x d=0 then rvl r d else rv1 x d
def rv1:It→Nat→Int
 | .mk k e nm ix ws l m bf af,d=>if aR (.mk k e nm ix ws l m bf af) d=0 then(if rvl l (d+1)=0 then rvl m (d+1)else rvl l (d+1))else aR (.mk k e nm ix ws l m bf af) d
end
theorem tf(x:It)(d:Nat):rv1 x d=if aR x d=0 then(if rvl x.items (d+1)=0 then rvl x.els (d+1)else rvl x.items (d+1))else aR x d:=by cases x;rw[rv1];rfl
def tK(x:It)(d:Nat)(_:List ByteArray):Int:=aR x d
theorem sR:∀(l:List It) (d:Nat) (bd:List ByteArray),wkE tK l d bd=rvl l d:=by
 refine kw (fun d bd=>rfl) fun x r h1 h2 h3 d bd=>?_;rw[AZ,rvl,tf];show(if aR x d=0 then _ else aR x d)=_;by_cases hs:aR x d=0
 ·rw[if_pos hs,if_pos hs];obtain⟨-,hp,-⟩:=dm hs;by_cases hk:x.kind=4∨x.kind=5
  ·have hd:dep x d=d+1:=if_pos hk;rw[hd,h1,h2,h3];by_cases e1:rvl x.items (d+1)=0
   ·rw[if_pos e1,if_pos e1]
   ·rw[if_neg e1,if_neg e1,if_neg e1]
  ·obtain⟨g1,g2⟩:=jS hp hk;rw[g1,g2,ud,if_pos rfl,ud,if_pos rfl,h3,rvl,if_pos rfl,if_pos rfl]
 ·rw[if_neg hs,if_neg hs,if_neg hs]
def eM(l:List It):Int:=if 64<cm l then 2 else rvl l 0
section
variable (spl : ByteArray → Option (ByteArray × Int)) (fs : List (ByteArray × Int))
end
end Go.Proofs.YtcbahpllcfbkmaaGreatDoor
