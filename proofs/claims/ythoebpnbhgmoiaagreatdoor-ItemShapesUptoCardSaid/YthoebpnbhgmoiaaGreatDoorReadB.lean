import Derived.Test.YthoebpnbhgmoiaaGreatDoorIr14
import Derived.Test.YthoebpnbhgmoiaaGreatDoorIr11
import Derived.Test.YthoebpnbhgmoiaaGreatDoorIr15
import Derived.Test.YthoebpnbhgmoiaaGreatDoorIt6
import Derived.Test.YthoebpnbhgmoiaaGreatDoorIe1
import Derived.Test.YthoebpnbhgmoiaaGreatDoorData
import Derived.Test.YthoebpnbhgmoiaaGreatDoorElem
import Derived.LaidLaws
import Derived.Test.YthoebpnbhgmoiaaGreatDoorEval
set_option linter.unusedVariables false
set_option linter.unusedSimpArgs false
set_option linter.unusedSectionVars false
open List renaming getElem?_eq_getElem→JH,take_length→JI,take_left→JJ,range→JK,length_map→JL
open Nat renaming reduceEqDiff→JM,reduceLT→JO,reduceBEq→JP,reduceLeDiff→JQ,reduceAdd→JR
namespace Go.Proofs.YthoebpnbhgmoiaaGreatDoor
open Go.RowKit
theorem sn(l:List It):(jo l).length≤bu l:=by
 unfold jo;have h1:=uy (ff l []) [];have h2:=mQ l [];simp only[List.length_nil]at h1;omega
set_option maxHeartbeats 2000000 in
theorem nv(l:List It)(hl:bu l≤1048576)(σ:List (List V)):Fun G 8 [.d (de l)] σ (aO (az true) σ):=by
 refine ao Tryz.func8 k8 rfl fun hb hw=>?_;delta c8 oM oV kI kS kT kF;simp -dsimp -implicitDefEqProofs only[aw,aj,V.copy,V.lend,eq_self,reduceIte,reduceCtorEq,JP,JO];refine ae (uA l hl _) ?_;cases hf:yO l with
 | false=>
  simp -dsimp -implicitDefEqProofs only[aw,V.copy,V.lend,eq_self,reduceIte,reduceCtorEq,JP,JO,JM];refine ae (cB _) ?_;simp -dsimp -implicitDefEqProofs only[aw,V.copy,V.lend,eq_self,reduceIte,reduceCtorEq,JP,JO,JM];first|exact ac hb rfl rfl JI ⟨rfl,rfl⟩|exact ac hb rfl rfl JJ ⟨rfl,rfl⟩
 | true=>
 have hb4:=ux hf;have hz:=jX l;have hn:=sn l;have h1:=fun σ=>so l (by omega) σ;have h2:=fun σ=>rT l (by omega) σ;generalize jo l=L at hn h1 h2;have h3:=fun σ=>sV L L (by omega) (by omega) σ;rw[decide_eq_true rfl]at h3;simp -dsimp -implicitDefEqProofs only[aw,V.copy,V.lend,eq_self,reduceIte,reduceCtorEq,JP,JO,JM];refine ae (ld l (by omega) _) ?_;simp -dsimp -implicitDefEqProofs only[aw,V.copy,V.lend,eq_self,reduceIte,reduceCtorEq,JO,JM];refine ae (ng l (by omega) _) ?_;simp -dsimp -implicitDefEqProofs only[aw,V.copy,V.lend,eq_self,reduceIte,reduceCtorEq,JO,JM,decide_true];refine ae (h1 _) ?_;simp -dsimp -implicitDefEqProofs only[aw,V.copy,V.lend,eq_self,reduceIte,reduceCtorEq,JO,JM];refine ae (h2 _) ?_
 simp -dsimp -implicitDefEqProofs only[aw,V.lend,eq_self,reduceIte,reduceCtorEq,JO,JM];refine ae (h3 _) ?_;simp -dsimp -implicitDefEqProofs only[aw,V.copy,V.lend,cond_true,eq_self,reduceIte,reduceCtorEq,JO,JM];refine ae (nP l (by omega) _) ?_;simp -dsimp -implicitDefEqProofs only[aw,V.copy,V.lend,eq_self,reduceIte,reduceCtorEq,JO,JM];refine ae (lK l (by omega) _) ?_;simp -dsimp -implicitDefEqProofs only[aw,V.copy,V.lend,cond_true,eq_self,reduceIte,reduceCtorEq,JO,JM,decide_true];refine ae (cB _) ?_;simp -dsimp -implicitDefEqProofs only[aw,V.copy,cond_true,eq_self,reduceIte,reduceCtorEq,JP,JO,JM];first|exact ac hb rfl rfl JI ⟨rfl,rfl⟩|exact ac hb rfl rfl JJ ⟨rfl,rfl⟩
set_option maxHeartbeats 2000000 in
theorem mC(l:List It)(c:Cl)(hl:bu l≤1048576)(hc:c.fields.length≤1048576)(σ:List (List V)):Fun G 3 [.d (de l),vcl c] σ (aO (az true) σ):=by
 refine ao Tryz.func3 k3 rfl fun hb hw=>?_;delta c3 oM oV kI kS kT kF;simp -dsimp -implicitDefEqProofs only[aw,aj,V.copy,V.lend,V.cells,V.boxable,eq_self,reduceIte,reduceCtorEq,JP,JO,JM];refine ae (uA l hl _) ?_;cases hf:yO l with
 | false=>
  simp -dsimp -implicitDefEqProofs only[aw,V.copy,V.lend,eq_self,reduceIte,reduceCtorEq,JP,JO,JM];refine ae (cB _) ?_;simp -dsimp -implicitDefEqProofs only[aw,V.copy,eq_self,reduceIte,reduceCtorEq,JP,JO,JM];first|exact ac hb rfl rfl JI ⟨rfl,rfl⟩|exact ac hb rfl rfl JJ ⟨rfl,rfl⟩
 | true=>
 have hb4:=ux hf;simp -dsimp -implicitDefEqProofs only[aw,V.copy,V.lend,V.lend1,JQ,eq_self,reduceIte,reduceCtorEq,JO,JM,JR];refine ae (li c hc _) ?_;cases hsm:smB c with
 | false=>
  simp -dsimp -implicitDefEqProofs only[aw,V.copy,V.lend,cond_false,eq_self,reduceIte,reduceCtorEq,JP,JO,JM];refine ae (cB _) ?_;simp -dsimp -implicitDefEqProofs only[aw,V.copy,eq_self,reduceIte,reduceCtorEq,JP,JO,JM];first|exact ac hb rfl rfl JI ⟨rfl,rfl⟩|exact ac hb rfl rfl JJ ⟨rfl,rfl⟩
 | true=>
 obtain⟨hc20,hs⟩:=qw hsm;simp -dsimp -implicitDefEqProofs only[aw,V.copy,V.lend,V.lend1,JQ,cond_false,eq_self,reduceIte,reduceCtorEq,JP,JO,JM,JR];refine aZ (jr l c (by omega) hs (by omega) _) ?_;simp -dsimp -implicitDefEqProofs only[aw,V.copy,V.lend,V.lend1,JQ,eq_self,reduceIte,reduceCtorEq,JO,JM,JR];refine aZ (qS l c (by omega) (by omega) _) ?_;simp -dsimp -implicitDefEqProofs only[aw,V.copy,V.lend,eq_self,reduceIte,reduceCtorEq,JO,JM,decide_true];refine aZ (cB _) ?_;simp -dsimp -implicitDefEqProofs only[aw,V.copy,cond_true,eq_self,reduceIte,reduceCtorEq,JP,JO,JM];first|exact ac hb rfl rfl JI ⟨rfl,rfl⟩|exact ac hb rfl rfl JJ ⟨rfl,rfl⟩
theorem qg(e:Ex)(c:Cl):aA (be aM (au c) e).1≤400:=by
 have hz:aA cI≤400:=by unfold cI;simp[aA,aG]
 unfold be;split
 ·exact hz
 ·split
  ·exact hz
  ·split
   ·exact hz
   ·rename_i h;exact(gU (by simpa using h)).1
set_option maxHeartbeats 4000000 in
theorem lW(e:Ex)(c:Cl)(hl:5*aA e≤1048576)(hc:c.fields.length≤1048576)(σ:List (List V)):Fun G 5 [vex e,vcl c] σ (aO (az true) σ):=by
 refine ao Tryz.func5 k5 (by simp only[am];rfl) fun hb hw=>?_;delta c5 oM oV kI kS kT kF;have hfw:=fun σ=>pD e 60 (by omega) (by omega) σ;simp only[am]at hfw;simp -dsimp -implicitDefEqProofs only[aw,aj,V.copy,V.lend,V.lend1,V.cells,V.boxable,JQ,eq_self,reduceIte,reduceCtorEq,JP,JO,JM,JR,am];refine ae (hfw _) ?_;by_cases t1:cnt e 60≤60
 case neg=>
  simp -dsimp -implicitDefEqProofs only[aw,V.copy,V.lend,eq_self,reduceIte,JP,JO,JM,decide_eq_false t1];refine ae (cB _) ?_;simp -dsimp -implicitDefEqProofs only[aw,V.copy,eq_self,reduceIte,JP,JO,JM];first|exact ac hb rfl rfl JI ⟨rfl,rfl⟩|exact ac hb rfl rfl JJ ⟨rfl,rfl⟩
 simp -dsimp -implicitDefEqProofs only[aw,V.copy,V.lend,V.lend1,JQ,eq_self,reduceIte,JO,JM,JR,decide_eq_true t1];refine ae (li c hc _) ?_;cases hsm:smB c with
 | false=>
  simp -dsimp -implicitDefEqProofs only[aw,V.lend,cond_false,eq_self,reduceIte,JP,JO,JM];refine ae (cB _) ?_;simp -dsimp -implicitDefEqProofs only[aw,V.copy,eq_self,reduceIte,JP,JO,JM];first|exact ac hb rfl rfl JI ⟨rfl,rfl⟩|exact ac hb rfl rfl JJ ⟨rfl,rfl⟩
 | true=>
 obtain⟨hc20,hs⟩:=qw hsm;have h1:=fun σ=>iQ e c (by omega) hs (by omega) σ;have h2:=fun σ=>qa e c (by omega) hs (by omega) σ;have hx:=qg e c;have har:=fun h=>og aM (au c) (e:=e) (fun s=>(hs.le s).2) h;generalize be aM (au c) e=r at h1 h2 hx har;obtain⟨X,f⟩:=r;have hx:aA X≤400:=hx;have har:f=0→eC [3,24] X=[]:=har;have h3:=fun σ=>oI X X σ;rw[sW]at h3;have h4:=fun σ=>rv X (by omega) (by have:=dO X;omega) σ;simp only[am]at h1 h2 h3 h4;simp -dsimp -implicitDefEqProofs only[aw,V.copy,V.lend,V.lend1,JQ,cond_false,eq_self,reduceIte,JP,JO,JM,JR];refine ae (h1 _) ?_
 simp -dsimp -implicitDefEqProofs only[aw,V.copy,V.lend,V.lend1,V.cells,V.boxable,over,JQ,eq_self,reduceIte,JP,JO,JM,JR];refine ae (h2 _) ?_;simp -dsimp -implicitDefEqProofs only[aw,V.copy,V.lend,V.lend1,V.cells,V.boxable,over,JQ,eq_self,reduceIte,JP,JO,JM,JR,decide_true];refine ae (h3 _) ?_;by_cases h0:f=0
 ·rw[har h0]at h4;simp -dsimp -implicitDefEqProofs only[aw,V.copy,V.lend,V.lend1,JQ,cond_true,eq_self,reduceIte,JO,JM,JR,decide_eq_true h0];refine ae (h4 _) ?_;have z0:((0:Nat):Int)=0:=rfl;simp -dsimp -implicitDefEqProofs only[aw,V.copy,V.lend,cond_true,cond_false,eq_self,reduceIte,JO,JM,aQ,decide_eq_true z0];refine ae (cB _) ?_;simp -dsimp -implicitDefEqProofs only[aw,V.copy,cond_true,eq_self,reduceIte,JP,JO,JM];first|exact ac hb rfl rfl JI ⟨rfl,rfl⟩|exact ac hb rfl rfl JJ ⟨rfl,rfl⟩
 ·simp -dsimp -implicitDefEqProofs only[aw,V.copy,V.lend,cond_true,eq_self,reduceIte,JO,JM,decide_eq_false h0];refine ae (cB _) ?_;simp -dsimp -implicitDefEqProofs only[aw,V.copy,cond_true,eq_self,reduceIte,JP,JO,JM];first|exact ac hb rfl rfl JI ⟨rfl,rfl⟩|exact ac hb rfl rfl JJ ⟨rfl,rfl⟩
set_option maxHeartbeats 4000000 in
theorem oc(e:Ex)(c:Cl)(u:List Int)(hl:5*aA e≤1048576)(hc:c.fields.length≤1048576)(hu:u.length≤1048576)(σ:List (List V)):Fun G 7 [vex e,vcl c,.d (Bd u)] σ (aO (az true) σ):=by
 refine ao Tryz.func7 k7 (by simp only[am];rfl) fun hb hw=>?_;delta c7 oM oV kI kS kT kF;have hfw:=fun σ=>pD e 60 (by omega) (by omega) σ;simp only[am]at hfw;simp -dsimp -implicitDefEqProofs only[aw,aj,V.copy,V.lend,V.lend1,V.cells,V.boxable,JQ,eq_self,reduceIte,reduceCtorEq,JP,JO,JM,JR,am];refine ae (hfw _) ?_;by_cases t1:cnt e 60≤60
 case neg=>
  simp -dsimp -implicitDefEqProofs only[aw,V.copy,V.lend,eq_self,reduceIte,JP,JO,JM,decide_eq_false t1];refine ae (cB _) ?_;simp -dsimp -implicitDefEqProofs only[aw,V.copy,eq_self,reduceIte,JP,JO,JM];first|exact ac hb rfl rfl JI ⟨rfl,rfl⟩|exact ac hb rfl rfl JJ ⟨rfl,rfl⟩
 simp -dsimp -implicitDefEqProofs only[aw,V.copy,V.lend,V.lend1,JQ,eq_self,reduceIte,JO,JM,JR,decide_eq_true t1];refine ae (li c hc _) ?_;cases hsm:smB c with
 | false=>
  simp -dsimp -implicitDefEqProofs only[aw,V.lend,cond_false,eq_self,reduceIte,JP,JO,JM];refine ae (cB _) ?_;simp -dsimp -implicitDefEqProofs only[aw,V.copy,eq_self,reduceIte,JP,JO,JM];first|exact ac hb rfl rfl JI ⟨rfl,rfl⟩|exact ac hb rfl rfl JJ ⟨rfl,rfl⟩
 | true=>
 obtain⟨hc20,hs⟩:=qw hsm;have h1:=fun σ=>iQ e c (by omega) hs (by omega) σ
 have hx:aA (be aM (au c) e).1≤400:=by
  have hz:aA cI≤400:=by unfold cI;simp[aA,aG]
  unfold be;split
  ·exact hz
  ·split
   ·exact hz
   ·split
    ·exact hz
    ·rename_i h;exact(gU (by simpa using h)).1
 have hkp:=fun h=>ql aM (au c) (e:=e) (CS Aq hs u) (fun s=>(hs.le s).2) h;generalize be aM (au c) e=r at h1 hx hkp;obtain⟨X,f⟩:=r;have hx:aA X≤400:=hx;have hkp:f=0→ii e (fj (eq (au c)) u 0)=(cJ (fj (eq (au c)) u 0) e,0)∧ii X (fj (eq (au c)) u 0)=(cJ (fj (eq (au c)) u 0) e,0):=hkp;have henv:=fun σ=>A6 c u hs hc20 hu σ;generalize fj (eq (au c)) u 0=env at henv hkp;have h2:=fun σ=>oR e env (by omega) (by have:=dO e;omega) σ;have h3:=fun σ=>oR X env (by omega) (by have:=dO X;omega) σ;simp only[am]at h1 h2 h3;simp -dsimp -implicitDefEqProofs only[aw,V.copy,V.lend,V.lend1,JQ,cond_false,eq_self,reduceIte,JP,JO,JM,JR];refine ae (h1 _) ?_;by_cases h0:f=0
 case neg=>
  simp -dsimp -implicitDefEqProofs only[aw,V.copy,V.lend,V.cells,V.boxable,over,JQ,eq_self,reduceIte,JP,JO,JM,JR,decide_eq_false h0];refine ae (cB _) ?_;simp -dsimp -implicitDefEqProofs only[aw,V.copy,eq_self,reduceIte,JP,JO,JM];first|exact ac hb rfl rfl JI ⟨rfl,rfl⟩|exact ac hb rfl rfl JJ ⟨rfl,rfl⟩
 obtain⟨k1,k2⟩:=hkp h0;rw[k1]at h2;rw[k2]at h3;simp -dsimp -implicitDefEqProofs only[aw,V.copy,V.lend,V.lend1,V.cells,V.boxable,over,JQ,eq_self,reduceIte,JP,JO,JM,JR,decide_eq_true h0];refine ae (henv _) ?_;simp -dsimp -implicitDefEqProofs only[aw,V.copy,V.lend,V.lend1,JQ,eq_self,reduceIte,JP,JO,JM,JR];refine ae (h2 _) ?_;simp -dsimp -implicitDefEqProofs only[aw,V.copy,V.lend,V.lend1,JQ,eq_self,reduceIte,JP,JO,JM,JR];refine ae (h3 _) ?_;simp -dsimp -implicitDefEqProofs only[aw,V.copy,V.lend,cond_true,eq_self,reduceIte,JP,JO,JM,decide_true];refine ae (cB _) ?_
 simp -dsimp -implicitDefEqProofs only[aw,V.copy,cond_true,eq_self,reduceIte,JP,JO,JM];first|exact ac hb rfl rfl JI ⟨rfl,rfl⟩|exact ac hb rfl rfl JJ ⟨rfl,rfl⟩
theorem kwG:Tryz.prog.globalNamed "testbench/lexer.keywords" = some 0:=by kernel_rfl
theorem kwT:(Tryz.prog.globals[0]?).map (·.type)=some 43:=by kernel_rfl
theorem kwD:Rows.laid_testbench_lexer_keywords (H:=Unit)=.slice (cD.map fun s=>.lit (.string s.data.toList)) []:=by kernel_rfl
theorem fw{W:World}(h:laidMet Tryz.prog [("testbench/lexer.keywords",Rows.laid_testbench_lexer_keywords)] W):jf W:=by
 obtain⟨ps,⟨g',t',cs,fuel,p,q,hg',ht',hvar,hd,-,-⟩,-⟩:=h;obtain rfl:=Option.some.inj (kwG.symm.trans hg');obtain rfl:=Option.some.inj (kwT.symm.trans ht');rw[kwD]at hd;rcases DataW.trod_slice Tryz.underlying43 hd with⟨-,hx⟩|⟨ad,len,cap,elems,rest,n',hn',g3,hx,hb,hl,hm,hlen2,hel,-,-⟩
 ·simp at hx
 ·simp only[Prod.mk.injEq,DataW.slice.injEq]at hx;obtain⟨⟨hx1,-⟩,-⟩:=hx;have hlen:len=cD.length:=by have h9:=congrArg List.length hx1;rw[JL,JL]at h9;rw[←hlen2,h9]
  have hc0:=World.var?_cell kwG hvar 0;have hv:cs.toList[0]? = some (.slice (some ad) len cap):=by rw[g3];rfl
  refine⟨.slice (some ad) len cap,by rw[hc0];simpa using hv,?_⟩
  have hcell:∀i (hi:i<len),∃s:ByteArray,W.cell? (ad.add i)=some (.string s)∧cD[i]? = some s:=by
   intro i hi;have h1:=hel i hi;rw[Tryz.cellsS,JH (by omega)]at h1;obtain⟨cs',hc,ht⟩:=Option.bind_eq_some_iff.1 h1;obtain⟨-,hcl,hcc⟩:=World.cells?_some hc;obtain⟨s,rfl,hs,-⟩:=DataW.trod_string Tryz.underlying9 ht;have h2:=hcc 0 (by omega);refine⟨s,by simpa[Addr.add]using h2,?_⟩;have h3:=congrArg (·[i]?) hx1;simp only[List.getElem?_map,JH (show i<elems.length by omega),Option.map_some,hs]at h3;rw[Option.map_eq_some_iff]at h3;obtain⟨s',h4,h5⟩:=h3;rw[h4];simp only[DataW.lit.injEq,Lit.string.injEq]at h5;congr 1;cases s';cases s;simp at h5;simp[h5]
  have hsp:ad.spot=none:=by
   obtain⟨s,h1,-⟩:=hcell 0 (by rw[hlen];decide);have:=wu h1;simpa[Addr.add]using this
  rw[hlen];refine⟨some ad,cap,rfl,by omega,hm,fun i s hi=>⟨ad.block,ad.off,by cases ad;simp_all,?_⟩⟩;obtain⟨s',h1,h2⟩:=hcell i (by rw[hlen];exact(List.getElem?_eq_some_iff.1 hi).1);rw[hi]at h2;cases h2
  have ha:ad.add i=⟨ad.block,ad.off+i,none⟩:=by
   cases ad;simp only at hsp;subst hsp;unfold Addr.add;by_cases h:i=0
   ·subst h;simp
   ·simp[h]
  rw[ha]at h1;exact h1
section
variable {H : Type} {enc : TypeId × Value → H} {P : Program} {W : World} {base : Nat} {spare : Nat → Bool} {held : Bool} {fuel : Nat} {t : TypeId} {cs : List Value} {x : DataW H × List MemPlace}
theorem cM{e:TypeId}{k:Nat}(hu:P.underlying t=some (.slice e))(hk:P.cellsOf e=k)(hk0:0<k){α:Type}[Inhabited α](dr:α→List D)(hdr:∀a,(dr a).length=k)(Q:α→DataW H→Prop)
 (h:DataW.trod enc P W base spare held fuel t cs=some x)(he:∀n,n<fuel→∀cs' y,DataW.trod enc P W base spare held n e cs'=some y→∃a,dM (mem W) (dr a) cs'∧Q a y.1):
 ∃(l:List α) (v:Value),cs=[v]∧DRep (mem W) (.sl (l.map dr)) v∧((x.1=.nil∧l=[])∨∃elems rest:List (DataW H),x.1=.slice elems rest∧elems.length=l.length∧∀i (h:i<l.length) (h':i<elems.length),Q l[i] elems[i]):=by
 rcases DataW.trod_slice hu h with⟨rfl,hx⟩|⟨ad,len,cap,elems,rest,n',hn',rfl,hx,hb,hl,hm,hlen2,hel,-,-⟩
 ·exact⟨[],_,rfl,DRep.nil _,.inl ⟨by rw[hx],rfl⟩⟩
 ·have hsp:0<len→ad.spot=none:=by
   intro hi;have h1:=hel 0 hi;rw[hk,JH (by omega)]at h1;obtain⟨cs',hc,ht⟩:=Option.bind_eq_some_iff.1 h1;obtain⟨-,hcl,hcc⟩:=World.cells?_some hc;have h2:=hcc 0 hk0;rw[JH (by omega)]at h2;have h3:=kG h2;simpa[Addr.add]using h3
  have hall:∀i,i<len→∃q:α×List Value,ad.spot=none∧(∀j,j<k→mem W ad.block (ad.off+i*k+j)=some (q.2[j]?.getD .nilIface))∧q.2.length=k∧dM (mem W) (dr q.1) q.2∧∀y,elems[i]? = some y→Q q.1 y.1:=by
   intro i hi;have h1:=hel i hi;rw[hk,JH (by omega)]at h1;obtain⟨cs',hc,ht⟩:=Option.bind_eq_some_iff.1 h1;obtain⟨a,ha,hq⟩:=he n' (by omega) cs' _ ht;obtain⟨-,hcl,hcc⟩:=World.cells?_some hc;have hs0:=hsp (by omega);refine⟨(a,cs'),hs0,fun j hj=>?_,hcl,ha,fun y hy=>by rw[JH (by omega)]at hy;cases hy;exact hq⟩;have h2:=hcc j hj;rw[JH (by omega)]at h2
   have ha:(ad.add (i*k)).add j=⟨ad.block,ad.off+i*k+j,none⟩:=by
    cases ad;simp only at hs0;subst hs0;unfold Addr.add;by_cases h1:i*k=0
    ·by_cases h2:j=0
     ·subst h2;simp[h1]
     ·simp[h1,h2]
    ·by_cases h2:j=0
     ·subst h2;simp[h1]
     ·simp[h1,h2]
   rw[ha]at h2;show mem W _ _=some (cs'[j]?.getD .nilIface);rw[JH (by omega),Option.getD_some];exact h2
  obtain⟨f,hfx⟩:=Go.Deep.choose_lt hall;refine⟨(JK len).map fun i=>(f i).1,_,rfl,?_,.inr ⟨_,_,by rw[hx],by simp[hlen2],fun i h1 h2=>?_⟩⟩
  ·have hlen:(((JK len).map fun i=>(f i).1).map dr).length=len:=by simp
   generalize hrs:((JK len).map fun i=>(f i).1).map dr=rows at hlen;have hri:∀i (h:i<rows.length),rows[i]=dr (f i).1:=fun i h=>by subst hrs;simp
   subst hlen;refine .sl rows k (some ad) cap (fun i j=>(f i).2[j]?.getD .nilIface) (fun r hr=>?_) (fun i j hi hj=>?_) (fun i hi=>?_) hl hm
   ·obtain⟨i,hi,rfl⟩:=List.getElem_of_mem hr;rw[hri i hi];exact hdr _
   ·obtain⟨k1,k2,k3,k4,-⟩:=hfx i hi;have hjk:j<k:=by rw[hri i hi,hdr]at hj;exact hj
    simp only[hri i hi];rw[JH (by omega:j<(f i).2.length),Option.getD_some];exact k4.2 j (by rw[hdr];exact hjk) (by omega)
   ·obtain⟨k1,k2,k3,k4,-⟩:=hfx i hi;exact⟨ad.block,ad.off,by cases ad;simp_all,fun j hj=>k2 j hj⟩
  ·have hi:i<len:=by simpa using h1
   obtain⟨-,-,-,-,hq⟩:=hfx i hi;simp only[List.getElem_map,List.getElem_range];exact hq _ (JH (by omega))
end
end Go.Proofs.YthoebpnbhgmoiaaGreatDoor
