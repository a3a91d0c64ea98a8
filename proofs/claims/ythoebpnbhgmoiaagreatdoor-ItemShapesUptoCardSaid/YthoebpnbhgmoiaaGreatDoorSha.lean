import Derived.Test.YthoebpnbhgmoiaaGreatDoorK3
import Derived.Test.YthoebpnbhgmoiaaGreatDoorRaw
import Derived.Test.YthoebpnbhgmoiaaGreatDoorBrief
import Derived.Lib.AppendZerosOnto
import Derived.Lib.SliceRun
import Derived.Lib.Walk
import Derived.Test.YthoebpnbhgmoiaaGreatDoorIw1
set_option linter.unusedVariables false
set_option linter.unusedSimpArgs false
set_option linter.unusedSectionVars false
open Int renaming ofNat_lt→JH,reduceEq→JI
open List renaming take_length→JJ,take_left→JK,length→JL,getElem?_eq_getElem→JM,map_append→JO,getElem?_append_right→JP,take_of_length_le→JQ,length_append→JR,take_add_one→JS,sum_append→JT,length_map→JU,take→JV
open Nat renaming reduceEqDiff→JW,reduceBEq→JX,reduceLT→JY,reduceLeDiff→JZ,reduceAdd→J0,le_refl→J1,sub_self→J2,zero_le→J3
open Ne renaming symm→J4
namespace Go.Proofs.YthoebpnbhgmoiaaGreatDoor
open Go.RowKit
abbrev vu7(u:List Bool):V:=.agg (u.map az)
def kvK:List (Key×V):=[(.i 1,vu7 [true,false,false,false,false,false,false]),(.i 2,vu7 [true,false,false,false,false,false,false]),(.i 3,vu7 [false,true,false,true,false,false,false]),
 (.i 4,vu7 [true,false,false,false,true,true,false]),(.i 5,vu7 [false,true,true,false,true,false,false]),(.i 6,vu7 [false,false,false,false,false,false,true])]
theorem pe(σ:List (List V)):Fun G 102 [] σ (fun o σ'=>o=.ret (.mp σ.length)∧σ'=σ++[[.mapc false kvK]]):=by
 refine ao Tryz.func102 Jd rfl fun hb hw=>?_;delta Ey oM oV kI kS kT kF;simp -dsimp -implicitDefEqProofs only[aw,aj,V.copy,V.cells,over,bc,JZ,eq_self,reduceIte,reduceCtorEq,JX,JY,JW,J0];exact⟨_,_,.refl _ _ _,.mp σ.length,rfl,(σ++[[V.mapc false kvK]]).length,by simp,by show ay _ (JV _ (σ++[[V.mapc false kvK]]))=true;rw[JJ];exact an hb rfl,by simp[V.under],by show Out.ret _=_∧JV _ (σ++[[V.mapc false kvK]])=_;rw[JJ];exact⟨rfl,rfl⟩⟩
theorem Tryz.under_strs:Tryz.prog.underlying 43=some (.slice 9):=by kernel_rfl
theorem Tryz.under_int:Tryz.prog.underlying 3=some (.int .i64):=by kernel_rfl
theorem uV(w:World):Calls Tryz.prog 134 #[.slice none 0 0,.int .i64 0] w fun e w'=>e=.returned (.slice none 0 0)∧w'=w:=by
 have h2:wrap64 ((0:Int)-(0:Int))=0:=by unfold wrap64;omega
 go_enter Tryz.func134,Tryz.ntmps134;go_wp2_with fail;go_ret;exact⟨rfl,rfl⟩
set_option maxHeartbeats 2000000 in
theorem yR(n:Nat)(h0:0<n)(hn:n≤1000000)(w:World):Calls Tryz.prog 134 #[.slice none 0 0,.int .i64 n] w fun e w'=>
 e=.returned (.slice (some ⟨w.heap.size,0,none⟩) 0 (grownCap w n 0 9))∧
  w'=w.drew.alloc (.cells (Builtin.zeroCells #[.string ⟨#[]⟩] n++Builtin.zeroCells #[.string ⟨#[]⟩] (grownCap w n 0 9-n)) 9):=by
 obtain⟨i0,hi0,hz0,hs0,hb0⟩:∃i0,Tryz.prog.info? 9=some i0∧i0.zero=some (.string ⟨#[]⟩)∧i0.size=1∧i0.bytes=16:=by
  have h:=Tryz.infoS;cases hi:Tryz.prog.info? 9 with
  | none=>rw[hi]at h;cases h
  | some i0=>rw[hi]at h;simp only[Option.map_some,Option.some.injEq,Prod.mk.injEq]at h;exact⟨i0,rfl,h.1,h.2.1,h.2.2⟩
 have h1:¬((n:Int)<0):=by omega
 have h2:wrap64 ((0:Int)-(0:Int))=0:=by unfold wrap64;omega
 have h3:wrap64 ((n:Int)-0)=n:=by unfold wrap64;omega
 have h4:(n:Int)>0:=by omega
 have hold:(Builtin.firstCells i0.size 0 (.slice none 0 0)).run Tryz.prog w.drew=.ok (#[]:Array Value) w.drew:=run_firstCells_none w.drew i0.size 0 0 0
 have hrz:∀ty,(Builtin.append_ #[43,3] ty #[.slice none 0 0,.int .i64 (n:Int)]).run Tryz.prog w=
  .ok (.slice (some ⟨w.heap.size,0,none⟩) n (grownCap w n 0 9)) (w.drew.alloc (.cells (Builtin.zeroCells #[.string ⟨#[]⟩] n++Builtin.zeroCells #[.string ⟨#[]⟩] (grownCap w n 0 9-n)) 9)):=fun ty=>by
  have h:=Lib.run_append_grow_zeros w 43 3 ty 9 i0 _ .i64 .i64 Tryz.under_strs Tryz.under_int hi0 hz0 none 0 0 [] hold n (by omega) (by omega) (by omega) (by omega) (by rw[hb0];omega)
   (growslice_fits (by omega) (by rw[hb0];omega))
  simp only[Nat.zero_add]at h;rw[h];simp[Value.cells]
 have hGn:n≤grownCap w n 0 9:=grownCap_ge w _ _ _;obtain⟨G,hG⟩:∃G,G=grownCap w n 0 9:=⟨_,rfl⟩
 rw[←hG]at hrz hGn ⊢
 have hG63:G≤9223372036854775807:=by
  have:=grownCap_le_maxLen w n 0 9 (by unfold maxLen;omega);rw[←hG]at this;unfold maxLen at this;omega
 clear hold hG;go_enter Tryz.func134,Tryz.ntmps134;go_wp2_with (at_builtin;refine Lib.wpList_append_run _ rfl _ _ _ _ rfl _ _ rfl rfl _ _ (hrz _) ?_);all_goals (go_ret;exact⟨rfl,rfl⟩)
theorem yf(n:Nat)(hn:n≤1000000)(σ:List (List V)):Fun G 134 [.nil,.d (ah n)] σ (aO (.own 9 1 []) σ):=
 kD (l:=[]) Tryz.func134 (by kernel_rfl) (by kernel_rfl) fun M bm w vs hG hM hl hr=>match vs,hl with
  | [v,u],_=>by
   refine⟨by simp,?_⟩;have h1:Rep M bm .nil v:=hr 0 (by simp) (by simp);have h2:Rep M bm (.d (ah n)) u:=hr 1 (by simp) (by simp);cases h1 with
   | nil=>cases h2 with
    | d h2=>cases h2 with
     | lit _ _=>
      by_cases h0:n=0
      ·subst h0;refine(uV w).mono fun e w' ⟨h3,h4⟩=>?_;subst h4;exact⟨_,h3,⟨rfl,.inl ⟨rfl,rfl⟩⟩,(fun k hk=>by cases hk),Ext.refl _⟩
      ·refine(yR n (by omega) hn w).mono fun e w' ⟨h3,h4⟩=>?_;subst h4;have hGn:n≤grownCap w n 0 9:=grownCap_ge w _ _ _;have hGm:=grownCap_le_maxLen w n 0 9 (by unfold maxLen;omega);refine⟨_,h3,⟨rfl,.inr ⟨w.heap.size,_,_,rfl,J3 _,heap_alloc_new w.drew _,J3 _,hGm,?_,rfl⟩⟩,fun k hk=>?_,((Ext.refl w).drew).alloc _⟩
       ·simp only[Array.size_append,size_zeroCells,List.size_toArray,List.length_cons,List.length_nil];omega
       ·simp only[Value.ownBlock,Option.some.injEq]at hk;omega
theorem mS(ls:List (List ByteArray))(hs:(ls.map JL).sum≤1000000)(hn:ls.length≤1000000)(σ:List (List V)):
 Fun G 99 [.d (.sl (ls.map fun l=>[D.sl (l.map fun s=>[al s])]))] σ (aO (.own 9 1 (ls.flatten.map fun s=>[al s])) σ):=by
 refine ao Tryz.func99 k99 rfl fun hb hw=>?_;delta c99 oM oV kI kS kT kF;generalize hrows:(ls.map fun l=>[D.sl (l.map fun s=>[al s])])=rows;have hrl:rows.length=ls.length:=by rw[←hrows,JU]
 have hre:∀j (h:j<ls.length),rows[j]? = some [D.sl (ls[j].map fun s=>[al s])]:=fun j h=>by rw[←hrows,List.getElem?_map,JM h];rfl
 have hle:∀j,((ls.take j).map JL).sum≤(ls.map JL).sum:=fun j=>by
  conv=>rhs;rw[←List.take_append_drop j ls]
  rw[JO,JT];omega
 simp -dsimp -implicitDefEqProofs only[aw,aj,V.copy,eq_self,reduceIte,reduceCtorEq,JX,JY,JW,hrl];refine cU [0,3,9,10,11] (R:=fun(j:Nat) ρ σ'=>ρ=[(0,.d (.sl rows)),(3,aL .i64 (((ls.take j).map JL).sum:Nat)),(9,.d (.sl rows)),(10,aL .i64 ls.length),(11,aL .i64 j)]∧σ'=σ) ls.length ⟨rfl,rfl⟩ ?_ _;rintro j ρ' σ' hj ⟨rfl,rfl⟩;by_cases hlt:j<ls.length
 ·have ht:((ls.take (j+1)).map JL).sum=((ls.take j).map JL).sum+ls[j].length:=by
   rw[JS,JM hlt,JO,JT];show _+(ls[j].length+0)=_;omega
  have h1:=hle (j+1);have hw1:IntKind.i64.wrap ((((ls.take j).map JL).sum:Nat)+(ls[j].length:Int))=(((ls.take (j+1)).map JL).sum:Nat):=by rw[wrap_i64 (by omega) (by omega),ht];omega
  have hng:¬((((ls.take (j+1)).map JL).sum:Nat):Int)<0:=by omega
  simp -dsimp -implicitDefEqProofs only[aw,V.copy,JZ,eq_self,reduceIte,reduceCtorEq,JX,JY,JW,JH,hlt,decide_true,hre j hlt,hw1,decide_eq_false hng,aH hlt (show ls.length≤9223372036854775807 by omega)];exact Nxt.same (J1 _) hb rfl ⟨rfl,rfl⟩
 ·simp -dsimp -implicitDefEqProofs only[aw,V.copy,eq_self,reduceIte,reduceCtorEq,JX,JY,JW,JH,hlt,decide_false];rw[JQ (show ls.length≤j by omega)];refine ae (yf _ hs _) ?_;simp -dsimp -implicitDefEqProofs only[aw,V.copy,eq_self,reduceIte,reduceCtorEq,JX,JY,JW,hrl];refine cU [6,25,26,27] (R:=fun(j:Nat) ρ σ''=>ρ=[(6,.own 9 1 ((ls.take j).flatten.map fun s=>[al s])),(25,.d (.sl rows)),(26,aL .i64 ls.length),(27,aL .i64 j)]∧σ''=σ') ls.length ⟨rfl,rfl⟩ ?_ _;rintro j ρ' σ'' hj ⟨rfl,rfl⟩;by_cases hlt:j<ls.length
  ·have ht:(ls.take (j+1)).flatten=(ls.take j).flatten++ls[j]:=by
    rw[JS,JM hlt,List.flatten_append];simp
   have h1:=hle (j+1);have h2:((ls.take j).flatten++ls[j]).length=((ls.take (j+1)).map JL).sum:=by rw[←ht,List.length_flatten]
   rw[JR]at h2;have hal:(ls[j].map fun s=>[al s]).all (fun r=>r.length==1)=true:=by rw[List.all_map];exact List.all_eq_true.2 fun _ _=>rfl
   simp -dsimp -implicitDefEqProofs only[aw,V.copy,JZ,eq_self,reduceIte,JX,JY,JW,JH,hlt,decide_true,hre j hlt,hal];refine bt (by first|omega|(simp only[JU];omega)) ?_;simp -dsimp -implicitDefEqProofs only[aw,V.copy,eq_self,reduceIte,JX,JY,JW,aH hlt (show ls.length≤9223372036854775807 by omega)];refine⟨hlt,Nxt.same (J1 _) hb rfl ⟨?_,rfl⟩⟩;rw[ht,JO]
  ·simp -dsimp -implicitDefEqProofs only[aw,eq_self,reduceIte,JX,JY,JW,JH,hlt,decide_false];rw[JQ (show ls.length≤j by omega)];first|exact ac hb rfl rfl JJ ⟨rfl,rfl⟩|exact ac hb rfl rfl JK ⟨rfl,rfl⟩
theorem ro(k:Int):lf true (.agg F7) (fW (.i k) kvK)=.tup [.agg ((if 1≤k∧k≤6 then jg k else[false,false,false,false,false,false,false]).map az),az (decide (1≤k∧k≤6))]:=by
 by_cases h:1≤k∧k≤6
 ·rw[if_pos h,decide_eq_true h];have h6:k=1∨k=2∨k=3∨k=4∨k=5∨k=6:=by omega
  rcases h6 with rfl|rfl|rfl|rfl|rfl|rfl<;>rfl
 ·rw[if_neg h,decide_eq_false h]
  have:fW (.i k) kvK=none:=by
   have n1:¬k=1:=by omega
   have n2:¬k=2:=by omega
   have n3:¬k=3:=by omega
   have n4:¬k=4:=by omega
   have n5:¬k=5:=by omega
   have n6:¬k=6:=by omega
   simp[fW,kvK,J4 n1,J4 n2,J4 n3,J4 n4,J4 n5,J4 n6]
  rw[this];rfl
theorem oT(l:List ByteArray){j:Nat}(h:j<l.length):(l.drop j).all bv=(bv l[j]&&(l.drop (j+1)).all bv):=by rw[List.drop_eq_getElem_cons h,List.all_cons]
theorem CC{C:Cx}{n0:Nat}{l:List O}{es:List (List Nat)}{keep:List Nat}{ρ:ai}{σ:List (List V)}{Q:dG}{t:Tag Q}(h:ui C n0 l es ρ σ fun e ρ' σ'=>Q e (aN keep ρ') σ'):ep C n0 (.raw l es keep) ρ σ Q t:=h
theorem Bj(k:Int):∃b1 b2 b3 b4 b5 b6 b7,jg k=[b1,b2,b3,b4,b5,b6,b7]:=by
 unfold jg;repeat' split
 all_goals exact⟨_,_,_,_,_,_,_,rfl⟩
theorem qL(x:It):fY x=if wE x.ws≠0 then wE x.ws else if bv x.name=true then 0 else 7:=by
 unfold fY wE;repeat' split
 all_goals simp_all
set_option maxHeartbeats 4000000 in
theorem uQ(x:It)(d:Nat)(bd:List ByteArray)(hbig:eO x≤1000000)(σ:List (List V)):Fun G 63 [vit x,mu d bd] σ (aO (.d (ah (bp x d))) σ):=by
 have hb0:=bI x;refine ao Tryz.func63 k63 (by simp only[aK];rfl) fun hb hw=>?_;delta c63 oM oV kI kS kT kF;simp -dsimp -implicitDefEqProofs only[aw,aj,V.copy,V.cells,V.boxable,eq_self,reduceIte,reduceCtorEq,JX,JY,JW,aK];by_cases hk:1≤x.kind∧x.kind≤6
 case neg=>
  have hm:=ro x.kind;rw[if_neg hk,decide_eq_false hk]at hm;have hs:bp x d=1:=by unfold bp;rw[if_pos (.inl hk)]
  rw[hs];refine CC (mM (bx:=σ.length) (kd:=x.kind) (by simp) pe rfl (by rw[JP (J1 _),J2];rfl) rfl hm (an hb rfl) (by simp[get,V.under]) ?_);simp -dsimp -implicitDefEqProofs only[aw,V.copy,eq_self,reduceIte,JX,JY,JW,J0];first|exact ac hb rfl rfl JJ ⟨rfl,rfl⟩|exact ac hb rfl rfl JK ⟨rfl,rfl⟩
 have hm:=ro x.kind;rw[if_pos hk,decide_eq_true hk]at hm;have hpl:=fun σ=>wS x hbig hk σ;obtain⟨b1,b2,b3,b4,b5,b6,b7,hu⟩:=Bj x.kind;rw[hu]at hm hpl;simp only[aK]at hpl;refine CC (mM (bx:=σ.length) (kd:=x.kind) (by simp) pe rfl (by rw[JP (J1 _),J2];rfl) rfl hm (an hb rfl) (by simp[get,V.under]) ?_);simp -dsimp -implicitDefEqProofs only[aw,V.copy,V.lend,V.lend1,JZ,eq_self,reduceIte,JX,JY,JW,J0];refine ae (hpl _) ?_;cases hp:bE x with
 | false=>
  have hs:bp x d=1:=by unfold bp;rw[if_pos (.inr (.inl hp))]
  rw[hs];simp -dsimp -implicitDefEqProofs only[aw,V.copy,cond_false,eq_self,reduceIte,JX,JY,JW];first|exact ac hb rfl rfl JJ ⟨rfl,rfl⟩|exact ac hb rfl rfl JK ⟨rfl,rfl⟩
 | true=>
 by_cases h4:4<d
 ·have hs:bp x d=1:=by unfold bp;rw[if_pos (.inr (.inr (.inl h4)))]
  have h4':(4:Int)<(d:Int):=by omega
  rw[hs];simp -dsimp -implicitDefEqProofs only[aw,V.copy,JZ,cond_false,eq_self,reduceIte,JX,JY,JW,J0,decide_eq_true h4'];first|exact ac hb rfl rfl JJ ⟨rfl,rfl⟩|exact ac hb rfl rfl JK ⟨rfl,rfl⟩
 have h4':¬(4:Int)<(d:Int):=by omega
 by_cases hd:0<d∧(x.kind=3∨x.kind=6)
 ·have hs:bp x d=1:=by unfold bp;rw[if_pos (.inr (.inr (.inr hd)))]
  have h0:(0:Int)<(d:Int):=by omega
  rw[hs];rcases hd.2 with k|k
  all_goals
   simp -dsimp -implicitDefEqProofs only[aw,V.copy,JZ,cond_true,cond_false,eq_self,reduceIte,JX,JY,JW,J0,decide_eq_false h4',decide_eq_true h0,k,JI,decide_true,decide_false];first|exact ac hb rfl rfl JJ ⟨rfl,rfl⟩|exact ac hb rfl rfl JK ⟨rfl,rfl⟩
 have hs:bp x d=if x.kind=3 then fY x else if x.kind=6 then iK x else if x.kind=5 then oY x else aX x.ex:=by
  unfold bp;rw[if_neg];rintro(h|h|h|h)
  ·exact h hk
  ·rw[hp]at h;cases h
  ·exact h4 h
  ·exact hd h
 rw[hs];have hv:=fun σ=>gD x.ex (by omega) (by have:=dO x.ex;omega) σ;simp only[am]at hv;by_cases k3:x.kind=3
 ·have h0:¬(0:Int)<(d:Int):=by have:¬0<d:=fun h=>hd ⟨h,.inl k3⟩;omega
  rw[if_pos k3,qL];simp -dsimp -implicitDefEqProofs only[aw,V.copy,V.lend,JZ,cond_false,eq_self,ne_eq,reduceIte,JX,JY,JW,J0,decide_eq_false h4',decide_eq_false h0,k3,decide_true];refine ae (qz x.ws (by omega) _) ?_;by_cases hw0:wE x.ws=0
  ·rw[if_neg (by simp[hw0])];simp -dsimp -implicitDefEqProofs only[aw,V.copy,V.lend,JZ,eq_self,reduceIte,JX,JY,JW,J0,hw0,decide_true];refine ae (oS x.name _) ?_;cases hi:bv x.name with
   | true=>simp -dsimp -implicitDefEqProofs only[aw,V.copy,eq_self,reduceIte,JX,JY,JW]
           first|exact ac hb rfl rfl JJ ⟨rfl,rfl⟩|exact ac hb rfl rfl JK ⟨rfl,rfl⟩
   | false=>simp -dsimp -implicitDefEqProofs only[aw,V.copy,eq_self,reduceIte,JX,JY,JW]
            first|exact ac hb rfl rfl JJ ⟨rfl,rfl⟩|exact ac hb rfl rfl JK ⟨rfl,rfl⟩
  ·rw[if_pos hw0];simp -dsimp -implicitDefEqProofs only[aw,V.copy,eq_self,reduceIte,JX,JY,JW,decide_eq_false hw0];first|exact ac hb rfl rfl JJ ⟨rfl,rfl⟩|exact ac hb rfl rfl JK ⟨rfl,rfl⟩
 by_cases k6:x.kind=6
 ·have h0:¬(0:Int)<(d:Int):=by have:¬0<d:=fun h=>hd ⟨h,.inr k6⟩;omega
  rw[if_neg k3,if_pos k6];unfold iK;by_cases hB:x.bef=[]
  ·have e:decide (((x.bef.length:Nat):Int)=0)=true:=by simp[hB]
   rw[if_pos (.inl hB)];simp -dsimp -implicitDefEqProofs only[aw,V.copy,JZ,cond_false,eq_self,reduceIte,JX,JY,JW,J0,decide_eq_false h4',decide_eq_false h0,k6,JI,decide_true,decide_false,e];first|exact ac hb rfl rfl JJ ⟨rfl,rfl⟩|exact ac hb rfl rfl JK ⟨rfl,rfl⟩
  have eB:decide (((x.bef.length:Nat):Int)=0)=false:=by have:=List.length_pos_iff.2 hB;simp;omega
  by_cases hA:x.aft=[]
  ·have e:decide (((x.aft.length:Nat):Int)=0)=true:=by simp[hA]
   rw[if_pos (.inr hA)];simp -dsimp -implicitDefEqProofs only[aw,V.copy,JZ,cond_false,eq_self,reduceIte,JX,JY,JW,J0,decide_eq_false h4',decide_eq_false h0,k6,JI,decide_true,decide_false,eB,e];first|exact ac hb rfl rfl JJ ⟨rfl,rfl⟩|exact ac hb rfl rfl JK ⟨rfl,rfl⟩
  have eA:decide (((x.aft.length:Nat):Int)=0)=false:=by have:=List.length_pos_iff.2 hA;simp;omega
  rw[if_neg (fun h=>h.elim hB hA)];simp -dsimp -implicitDefEqProofs only[aw,V.copy,V.lend,V.cells,aC,aF,V.plain,JZ,cond_false,eq_self,reduceIte,JX,JY,JW,J0,decide_eq_false h4',decide_eq_false h0,k6,JI,decide_true,decide_false,eB,eA];have hcc:=fun σ=>mS [x.bef,x.aft] (by simp;omega) (by simp) σ;have e2:[x.bef,x.aft].flatten=x.bef++x.aft:=by simp
  rw[e2]at hcc;simp only[List.map_cons,List.map_nil]at hcc;refine ae (hcc _) ?_;have hL:(x.bef++x.aft).length≤1000000:=by rw[JR];omega
  generalize x.bef++x.aft=L at hL;simp -dsimp -implicitDefEqProofs only[aw,V.copy,eq_self,reduceIte,JX,JY,JW]
  refine cU [79,80,81] (R:=fun(j:Nat) ρ σ'=>ρ=[(79,.own 9 1 (L.map fun s=>[al s])),(80,aL .i64 L.length),(81,aL .i64 j)]∧L.all bv=(L.drop j).all bv∧
   σ'=σ++[[.d (ah 6),.d (ah x.ex.op),.d (ah x.ex.num),.d (al x.ex.name),.d (.sl (x.ex.args.map dex)),.d (al x.name),.d (al x.idx),.d (.sl (x.ws.map dwt)),.d (.sl (x.items.map dit)),.d (.sl (x.els.map dit)),.d (.sl (x.bef.map fun s=>[al s])),.d (.sl (x.aft.map fun s=>[al s]))],[.d (ah d),.d (.sl (bd.map fun s=>[al s]))],[az b1,az b2,az b3,az b4,az b5,az b6,az b7]]) L.length ⟨rfl,rfl,rfl⟩ ?_ _
  rintro j ρ' σ' hj ⟨rfl,hr,rfl⟩;by_cases hlt:j<L.length
  ·rw[oT L hlt]at hr;simp -dsimp -implicitDefEqProofs only[aw,V.copy,V.lend,JZ,eq_self,reduceIte,JX,JY,JW,JH,hlt,decide_true,JM hlt];refine ae (oS L[j] _) ?_;cases hi:bv L[j]with
   | true=>
    simp -dsimp -implicitDefEqProofs only[aw,V.copy,eq_self,reduceIte,JX,JY,JW,aH hlt (show L.length≤9223372036854775807 by omega)];exact⟨hlt,Nxt.same (by simp) (an hb rfl) (by simp[aq,V.under]) ⟨rfl,by rw[hr,hi,Bool.true_and],rfl⟩⟩
   | false=>
    rw[hr,hi,Bool.false_and,if_neg Bool.false_ne_true];simp -dsimp -implicitDefEqProofs only[aw,V.copy,eq_self,reduceIte,JX,JY,JW];first|exact ac hb rfl rfl JJ ⟨rfl,rfl⟩|exact ac hb rfl rfl JK ⟨rfl,rfl⟩
  ·rw[List.drop_eq_nil_of_le (by omega)]at hr;rw[hr,List.all_nil,if_pos rfl];simp -dsimp -implicitDefEqProofs only[aw,V.copy,eq_self,reduceIte,reduceCtorEq,JX,JY,JW,JH,hlt,decide_false];first|exact ac hb rfl rfl JJ ⟨rfl,rfl⟩|exact ac hb rfl rfl JK ⟨rfl,rfl⟩
 rw[if_neg k3,if_neg k6];by_cases k5:x.kind=5
 ·rw[if_pos k5];unfold oY;by_cases h0:(0:Int)<(d:Int)
  all_goals
   simp -dsimp -implicitDefEqProofs only[aw,V.copy,V.lend,JZ,cond_true,cond_false,eq_self,reduceIte,JX,JY,JW,J0,decide_eq_false h4',h0,k5,JI,decide_true,decide_false];refine ae (ow x.name _) ?_;cases hn:bH x.name with
   | false=>
    rw[if_neg (by simp)];simp -dsimp -implicitDefEqProofs only[aw,V.copy,eq_self,reduceIte,JX,JY,JW];first|exact ac hb rfl rfl JJ ⟨rfl,rfl⟩|exact ac hb rfl rfl JK ⟨rfl,rfl⟩
   | true=>
    simp -dsimp -implicitDefEqProofs only[aw,V.copy,V.lend,JZ,eq_self,reduceIte,JY,JW,J0];refine ae (ow x.idx _) ?_;cases hx:bH x.idx with
    | false=>
     rw[if_neg (by simp)];simp -dsimp -implicitDefEqProofs only[aw,V.copy,cond_false,eq_self,reduceIte,JX,JY,JW];first|exact ac hb rfl rfl JJ ⟨rfl,rfl⟩|exact ac hb rfl rfl JK ⟨rfl,rfl⟩
    | true=>
     rw[if_pos ⟨rfl,rfl⟩];simp -dsimp -implicitDefEqProofs only[aw,V.copy,cond_false,eq_self,reduceIte,JX,JY,JW];first|exact ac hb rfl rfl JJ ⟨rfl,rfl⟩|exact ac hb rfl rfl JK ⟨rfl,rfl⟩
 rw[if_neg k5];by_cases h0:(0:Int)<(d:Int)
 all_goals
  simp -dsimp -implicitDefEqProofs only[aw,V.copy,V.lend,V.lend1,JZ,cond_true,cond_false,eq_self,reduceIte,JX,JY,JW,J0,decide_eq_false h4',h0,decide_eq_false k3,decide_eq_false k5,decide_eq_false k6,decide_true,decide_false];refine ae (hv _) ?_;simp -dsimp -implicitDefEqProofs only[aw,V.copy,eq_self,reduceIte,JX,JY,JW];first|exact ac hb rfl rfl JJ ⟨rfl,rfl⟩|exact ac hb rfl rfl JK ⟨rfl,rfl⟩
end Go.Proofs.YthoebpnbhgmoiaaGreatDoor
