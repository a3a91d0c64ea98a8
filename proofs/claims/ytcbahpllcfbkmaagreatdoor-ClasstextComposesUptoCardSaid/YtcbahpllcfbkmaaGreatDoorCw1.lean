import Derived.Test.YtcbahpllcfbkmaaGreatDoorCt6
import Derived.Test.YtcbahpllcfbkmaaGreatDoorK3
import Derived.Test.YtcbahpllcfbkmaaGreatDoorBl2
import Derived.Test.YtcbahpllcfbkmaaGreatDoorEt3
import Derived.Test.YtcbahpllcfbkmaaGreatDoorK5
set_option linter.unusedVariables false
set_option linter.unusedSimpArgs false
set_option linter.unusedSectionVars false
namespace Go.Proofs.YtcbahpllcfbkmaaGreatDoor
open Go.RowKit
structure Fl where
 name:ByteArray
 width:Int
 size:Int
 mode:Int
 init:Int
structure Kl where
 name:ByteArray
 par:ByteArray
 flds:List Fl
 blks:List (ByteArray×List It)
def jo(m:Int):Bs:=if m=1 then[114,97,110,100,32]else if m=2 then[114,97,110,100,99,32]else[115,116,97,116,101,32]
def i8(f:Fl):Bs:=jo f.mode++(aQ f.name++((if 0<f.size then 91::(fO f.size++[93])else[])++([32,58,32]++(fO f.width++((if f.mode=0 then[32,61,32]++fO f.init else[])++[59])))))
def dX(b:ByteArray×List It):List Ln:=(0,[99,111,110,115,116,114,97,105,110,116,32]++(aQ b.1++[32,123]))::(upL (lns b.2)++[(0,[125])])
def oF(p:ByteArray):Bs:=if p=⟨#[]⟩then[]else[32,101,120,116,101,110,100,115,32]++aQ p
def Ax(c:Kl):List Ln:=(0,[99,108,97,115,115,32]++(aQ c.name++(oF c.par++[32,123])))::(upL (c.flds.map (fun f=>(0,i8 f))++c.blks.flatMap dX)++[(0,[125])])
def tl(c:Kl):Bs:=aO 0 (Ax c)
theorem bG{C:Cx}{f:FuncId}{args:List V}{σ σ1:List (List V)}{v:V}{K P:V→List (List V)→Prop}{s:Tag K}{t:Tag P}(h:Fun C f args σ (fun o σ'=>o=.ret v∧σ'=σ1))(hk:K v σ1):pM C f args σ K P s t:=
 h.mono fun o σ' ⟨e1,e2⟩=>by subst e1;subst e2;exact hk
theorem cH{n0 k:Nat}{σ' τ:List (List V)}{ρ:al}{rs:List RV}{Q:Out→List (List V)→Prop}(hk:n0≤k)(ht:σ'.take k=τ)(hb:az k τ=true){v:V}(h:ll σ' ρ rs=some v)(hv:V.under k v=true)(hq:Q (.ret v) τ):fin n0 rs Q .normal ρ σ':=
 ⟨ρ,σ',.refl _ _ _,v,h,k,hk,by rw[ht];exact hb,hv,by rw[ht];exact hq⟩
theorem de{σ:List (List V)}{k i:Nat}{cs:List V}(h:az k σ=true)(hc:V.unders k cs=true):az k (σ.set i cs)=true:=by
 unfold az at h ⊢;rw[List.all_eq_true]at h ⊢;intro x hx;rcases List.mem_or_eq_of_mem_set hx with hx|rfl
 ·exact h x hx
 ·exact hc
theorem bK{i k n:Nat}{t:Option Bs}(h:i<n):V.unders n (pgc i t k)=true:=by
 cases t with
 | none=>rfl
 | some t=>simp[pgc,pgu,V.unders,V.under,h]
theorem xB(i:Nat)(t:Option Bs)(k:Int):(if 3≤(pgc i t k).length∧bJ (pgc i t k)=true then eF false (List.take 1 (List.drop 2 (pgc i t k)))else(tyL 1 2 (pgc i t k)).bind (eF false))=some (.d (ay k)):=by
 cases t with
 | none=>rw[if_neg (fun h=>by have:=h.1;simp[pgc,tyc]at this)];rfl
 | some t=>rw[if_pos ⟨by simp[pgc,pgu],rfl⟩];rfl
theorem qb:∀k,Lib.repeatL [32,32,32,32] k=blk k
 | 0=>rfl
 | k+1=>by
  rw[Lib.repeatL,qb k,vV]
theorem p8(k:Nat):(blk k).length=4*k:=List.length_replicate
theorem oZ(k:Nat)(hk:k≤1000)(σ:List (List V)):Fun G 47 [.d (am ⟨#[32,32,32,32]⟩),.d (ay k)] σ (a7 (.d (am (bs (blk k)))) σ):=
 oi Tryz.func47 (by kernel_rfl) (by kernel_rfl) (by show(bs (blk k)).size≤maxLen;rw[cj,p8];unfold maxLen;omega) fun pr w _=>
  (Tryz.strings_Repeat ⟨#[32,32,32,32]⟩ k w (by omega) (by show 4*k≤_;omega)).mono fun e w' ⟨he,hb⟩=>⟨by rw[he];show _=Ending.returned (.string (bs (blk k)));rw[←qb k];rfl,hb⟩
theorem yO(i:Nat)(t:Option Bs)(k:Int)(l:Bs)(hl:(t.getD []).length+l.length≤140737488355328)(σ:List (List V))(hs:σ[i]? = some (pgc i t k)):
 Fun G 44 [.ptr i 0,.d (am (bs l))] σ (fun o σ'=>o=.ret (.tup [.d (ay l.length),.d (.lit .nilIface)])∧σ'=σ.set i (pgc i (some (t.getD []++l)) k)):=by
 have h:=vO i t k (bs l) (by rw[cj];exact hl) σ hs;rw[bt,cj]at h;exact h
set_option maxHeartbeats 4000000 in
theorem uy(i:Nat)(t:Option Bs)(k:Nat)(ps:List ByteArray)(hk:k≤1000)(hl:(t.getD []).length+4*k+(ps.flatMap aQ).length+1≤140737488355328)(hp:ps.length≤1000)(σ:List (List V))(hs:σ[i]? = some (pgc i t k)):
 Fun G 28 [.ptr i 0,.d (cx ps)] σ (fun o σ'=>o=.ret (.tup [])∧σ'=σ.set i (pgc i (some (t.getD []++(blk k++(ps.flatMap aQ++[10])))) k)):=by
 refine ax Tryz.func28 k28 rfl fun hb hw=>?_;have hi:i<σ.length:=(List.getElem?_eq_some_iff.1 hs).1;have h1:∀X:List V,(σ.set i X)[i]? = some X:=fun X=>List.getElem?_set_self hi;have h2:∀X Y:List V,(σ.set i X).set i Y=σ.set i Y:=fun X Y=>List.set_set X
 have bbt:∀t:Bs,az (σ.set i (pgc i (some t) k)).length (σ.set i (pgc i (some t) k))=true:=fun t=>by
  rw[List.length_set];exact de hb (bK hi)
 have hbk:=p8 k;unfold c28;simp -dsimp -implicitDefEqProofs only[aw,ah,V.copy,V.lend,V.lend1,V.cells,V.boxable,over,ak,ae,ac,ai,V.plain,Nat.reduceLeDiff,cond_true,cond_false,implies_true,eq_self,ne_eq,reduceIte,reduceCtorEq,Nat.reduceBEq,Nat.reduceLT,Nat.reduceEqDiff,Nat.reduceAdd,Nat.reduceSub,Nat.reduceMul,hs,xB];refine aM (oZ k hk _) ?_;simp -dsimp -implicitDefEqProofs only[aw,ah,V.copy,V.lend,V.lend1,V.cells,V.boxable,over,ak,ae,ac,ai,V.plain,Nat.reduceLeDiff,cond_true,cond_false,implies_true,eq_self,ne_eq,reduceIte,reduceCtorEq,Nat.reduceBEq,Nat.reduceLT,Nat.reduceEqDiff,Nat.reduceAdd,Nat.reduceSub,Nat.reduceMul];refine cW (yO i t k (blk k) (by omega) _ hs) ?_ ?_
 ·simp -dsimp -implicitDefEqProofs only[aw,ah,V.copy,V.lend,V.lend1,V.cells,V.boxable,over,ak,ae,ac,ai,V.plain,Nat.reduceLeDiff,cond_true,cond_false,implies_true,eq_self,ne_eq,reduceIte,reduceCtorEq,Nat.reduceBEq,Nat.reduceLT,Nat.reduceEqDiff,Nat.reduceAdd,Nat.reduceSub,Nat.reduceMul]
 simp -dsimp -implicitDefEqProofs only[aw,ah,V.copy,V.lend,V.lend1,V.cells,V.boxable,over,ak,ae,ac,ai,V.plain,Nat.reduceLeDiff,cond_true,cond_false,implies_true,eq_self,ne_eq,reduceIte,reduceCtorEq,Nat.reduceBEq,Nat.reduceLT,Nat.reduceEqDiff,Nat.reduceAdd,Nat.reduceSub,Nat.reduceMul,cx,List.length_map];refine bv [0,15,16,17] (fun(j:Nat) ρ σ'=>ρ=[(0,.ptr i 0),(15,.d (.sl (ps.map fun s=>[am s]))),(16,aF .i64 ps.length),(17,aF .i64 j)]∧σ'=σ.set i (pgc i (some (t.getD []++blk k++(ps.take j).flatMap aQ)) k)) ps.length ⟨rfl,by simp⟩ ?_ _;rintro j ρ' σ' hj ⟨rfl,rfl⟩
 have hlen:∀j,((ps.take j).flatMap aQ).length≤(ps.flatMap aQ).length:=fun j=>by
  have:=congrArg List.length (List.flatMap_append (f:=aQ) (xs:=ps.take j) (ys:=ps.drop j));rw[List.take_append_drop,List.length_append]at this;omega
 by_cases hlt:j<ps.length
 ·have wj:=aS hlt (show ps.length≤9223372036854775807 by omega);have hn:(ps.take (j+1)).flatMap aQ=(ps.take j).flatMap aQ++aQ ps[j]:=by rw[List.take_succ_eq_append_getElem hlt,List.flatMap_append];simp
  have hlj:=hlen (j+1);rw[hn,List.length_append]at hlj;simp -dsimp -implicitDefEqProofs only[aw,ah,V.copy,V.lend,V.lend1,V.cells,V.boxable,over,ak,ae,ac,ai,V.plain,Nat.reduceLeDiff,cond_true,cond_false,implies_true,eq_self,ne_eq,reduceIte,reduceCtorEq,Nat.reduceBEq,Nat.reduceLT,Nat.reduceEqDiff,Nat.reduceAdd,Nat.reduceSub,Nat.reduceMul,Int.ofNat_lt,hlt,decide_true,List.getElem?_eq_getElem hlt];refine bG (vO i _ k ps[j] (by simp only[Option.getD_some,List.length_append];have:ps[j].size=(aQ ps[j]).length:=rfl;omega) _ (h1 _)) ?_;simp -dsimp -implicitDefEqProofs only[aw,ah,V.copy,V.lend,V.lend1,V.cells,V.boxable,over,ak,ae,ac,ai,V.plain,Nat.reduceLeDiff,cond_true,cond_false,implies_true,eq_self,ne_eq,reduceIte,reduceCtorEq,Nat.reduceBEq,Nat.reduceLT,Nat.reduceEqDiff,Nat.reduceAdd,Nat.reduceSub,Nat.reduceMul,wj,h2]
  exact⟨hlt,Nxt.same (by simp) (bbt _) (by simp[aA,V.under];exact hi) ⟨rfl,by rw[hn];simp[aQ,List.append_assoc]⟩⟩
 ·have hj':j=ps.length:=by omega
  subst hj';simp -dsimp -implicitDefEqProofs only[aw,ah,V.copy,V.lend,V.lend1,V.cells,V.boxable,over,ak,ae,ac,ai,V.plain,Nat.reduceLeDiff,cond_true,cond_false,implies_true,eq_self,ne_eq,reduceIte,reduceCtorEq,Nat.reduceBEq,Nat.reduceLT,Nat.reduceEqDiff,Nat.reduceAdd,Nat.reduceSub,Nat.reduceMul,Int.ofNat_lt,hlt,decide_false];refine bG (yO i _ k [10] (by simp only[Option.getD_some,List.length_append,List.take_length,List.length_cons,List.length_nil];omega) _ (h1 _)) ?_;simp -dsimp -implicitDefEqProofs only[aw,ah,V.copy,V.lend,V.lend1,V.cells,V.boxable,over,ak,ae,ac,ai,V.plain,Nat.reduceLeDiff,cond_true,cond_false,implies_true,eq_self,ne_eq,reduceIte,reduceCtorEq,Nat.reduceBEq,Nat.reduceLT,Nat.reduceEqDiff,Nat.reduceAdd,Nat.reduceSub,Nat.reduceMul,h2]
  refine cH (v:=.tup []) (k:=σ.length) (τ:=σ.set i (pgc i (some (t.getD []++blk k++(ps.take ps.length).flatMap aQ++[10])) k)) (Nat.le_refl _) ?_ (de hb (bK hi)) rfl rfl ⟨rfl,?_⟩
  ·rw[List.take_of_length_le (by simp)];simp[List.append_assoc]
  ·first|rfl|(rw[List.take_length,List.append_assoc,List.append_assoc,List.append_assoc])|simp[List.append_assoc]
end Go.Proofs.YtcbahpllcfbkmaaGreatDoor
