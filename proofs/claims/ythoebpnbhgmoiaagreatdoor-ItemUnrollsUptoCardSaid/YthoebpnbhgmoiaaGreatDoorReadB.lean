import Derived.Test.YthoebpnbhgmoiaaGreatDoorIr13
import Derived.Test.YthoebpnbhgmoiaaGreatDoorIt10
import Derived.Test.YthoebpnbhgmoiaaGreatDoorIr11
import Derived.Test.YthoebpnbhgmoiaaGreatDoorIr15
import Derived.Test.YthoebpnbhgmoiaaGreatDoorIt6
import Derived.Test.YthoebpnbhgmoiaaGreatDoorIe1
import Derived.Test.YthoebpnbhgmoiaaGreatDoorData
import Derived.Test.YthoebpnbhgmoiaaGreatDoorNames
import Derived.LaidLaws
import Derived.Test.YthoebpnbhgmoiaaGreatDoorEval
set_option linter.unusedVariables false
set_option linter.unusedSimpArgs false
set_option linter.unusedSectionVars false
namespace Go.Proofs.YthoebpnbhgmoiaaGreatDoor
open Go.RowKit
set_option maxHeartbeats 4000000 in
theorem rexpand_item(l:List It)(c:Cl)(hl:ibigs l≤900000)(hs:SmallF (fldS c))(hc:c.fields.length≤1000000)(σ:List (List V)):Fun G 15 [.d (ditl l),vcl c] σ (RetV (.tup [.d (ditl (expandI splE (fldS c) l).1),.d (dint (expandI splE (fldS c) l).2)]) σ):=by
 refine fun_code Tryz.func15 k15 rfl fun hb hw=>?_;delta c15 oM oV kI kS kT kF
 have hout:∀(X:List It) (e:Int) S v0,expandI splE (fldS c) l=(X,e)→S=σ++[clsC c]→(v0=.nil∧X=[]∨v0=.d (ditl X))→fin σ.length rs15 (RetV (.tup [.d (ditl (expandI splE (fldS c) l).1),.d (dint (expandI splE (fldS c) l).2)]) σ) .ret [(4,v0),(5,.d (dint e))] S:=fun X e S v0 e1 e2 e3=>by
  subst e2;rw[e1];rcases e3 with⟨rfl,rfl⟩|rfl
  ·exact fin_ret (v:=.tup [.d (ditl []),.d (dint e)]) hb (by simp[rs15,resV,resL,res1,aw,V.lend,eq_self,reduceIte,Nat.reduceEqDiff]) rfl List.take_left ⟨rfl,rfl⟩
  ·exact fin_ret (v:=.tup [.d (ditl X),.d (dint e)]) hb (by simp[rs15,resV,resL,res1,aw,V.lend,eq_self,reduceIte,Nat.reduceEqDiff]) rfl List.take_left ⟨rfl,rfl⟩
 simp -dsimp -implicitDefEqProofs only[aw,slots0,V.copy,V.lend,V.lend1,V.cells,V.boxable,Nat.reduceLeDiff,eq_self,reduceIte,reduceCtorEq,Nat.reduceBEq,Nat.reduceLT,Nat.reduceEqDiff,Nat.reduceAdd];refine fun_ret (rcheck_item l c hl hc _) ?_;by_cases h0:checkI splE (fldS c) l=0
 case neg=>
  have hres:expandI splE (fldS c) l=([],checkI splE (fldS c) l):=by unfold expandI;rw[if_pos h0]
  simp -dsimp -implicitDefEqProofs only[aw,V.copy,eq_self,reduceIte,reduceCtorEq,Nat.reduceBEq,Nat.reduceLT,Nat.reduceEqDiff,decide_eq_false h0];exact hout _ _ _ _ hres rfl (.inl ⟨rfl,rfl⟩)
 have hv:rvl l 0=0∧iszs l≤64:=by
  unfold checkI at h0;by_cases hv:validI l=0
  ·unfold validI at hv;split at hv
   ·cases hv
   ·exact⟨hv,by omega⟩
  ·rw[if_pos hv]at h0;exact absurd h0 hv
 have hfr:=frm_valid l 0 hv.1;have hX:=allX_valid l 0 hv.1;have hsz:=exps_sz (fldS c) (iszs l) l 0 none hfr (by omega) hX (.none 0);have hlk:=rexp_lk (fldS c) (iszs l) l 0 none hfr;have htop:=exps_top (fldS c) (iszs l) l none hv.1;have hre:=fun σ=>rexpand_fun c hc hs (iszs l) l 0 none (Nat.le_refl _) hv.2 hfr (by omega) (by omega) σ;simp only[vq,Option.toList_none,List.map_nil]at hre;have hres:expandI splE (fldS c) l=if 400<(exps (fldS c) (iszs l) l none).length then([],2)else if(exps (fldS c) (iszs l) l none).all vldB=true then(exps (fldS c) (iszs l) l none,0)else([],2):=by unfold expandI;rw[if_neg (by simp[h0])]
 generalize exps (fldS c) (iszs l) l none=X at hres hsz hlk htop;generalize rexp (fldS c) (iszs l) l none=Y at hre hlk;simp -dsimp -implicitDefEqProofs only[aw,V.copy,V.lend,V.lend1,Nat.reduceLeDiff,eq_self,reduceIte,reduceCtorEq,Nat.reduceBEq,Nat.reduceLT,Nat.reduceEqDiff,Nat.reduceAdd,h0,decide_true];refine fun_ret (hre _) ?_;by_cases h4:400<X.length
 ·have hY:=hlk.big h4;have h4':(400:Int)<(Y.length:Int):=by omega
  rw[if_pos h4]at hres;simp -dsimp -implicitDefEqProofs only[aw,V.copy,eq_self,reduceIte,reduceCtorEq,Nat.reduceBEq,Nat.reduceLT,Nat.reduceEqDiff,decide_eq_true h4'];exact hout _ _ _ _ hres rfl (.inl ⟨rfl,rfl⟩)
 have hY:=hlk.eq (by omega);subst hY;have h4':¬(400:Int)<(Y.length:Int):=by omega
 rw[if_neg h4]at hres;simp -dsimp -implicitDefEqProofs only[aw,V.copy,eq_self,reduceIte,reduceCtorEq,Nat.reduceBEq,Nat.reduceLT,Nat.reduceEqDiff,decide_eq_false h4'];refine awp_for (R:=fun(j:Nat) ρ σ'=>ρ=[(7,.d (ditl Y)),(8,vint .i64 j)]∧σ'=σ++[clsC c]∧Y.all vldB=(Y.drop j).all vldB) Y.length ⟨rfl,rfl,rfl⟩ ?_ _;rintro j ρ' σ' hj ⟨rfl,rfl,hr⟩;by_cases hlt:j<Y.length
 ·rw[List.drop_eq_getElem_cons hlt,List.all_cons]at hr;have hxx:Y[j]? = some Y[j]:=List.getElem?_eq_getElem hlt;have hsx:=hsz _ (List.getElem_mem hlt);have htx:=htop _ (List.getElem_mem hlt);generalize Y[j]=x at hxx hsx htx hr;have wj:=wrap_nat hlt (show Y.length≤9223372036854775807 by omega);have hvx:=fun σ=>fun_rvalid x.ex (by omega) (by have:=depth_le x.ex;omega) σ;simp only[vex_eq]at hvx;have hk:x.kind≠4:=by rcases htx with⟨-,-,h⟩|⟨-,h⟩<;>omega
  have good:vldB x=true→Y.all vldB=(Y.drop (j+1)).all vldB:=fun h=>by rw[hr,h,Bool.true_and]
  simp -dsimp -implicitDefEqProofs only[aw,V.copy,V.lend,Nat.reduceLeDiff,eq_self,reduceIte,Nat.reduceBEq,Nat.reduceLT,Nat.reduceEqDiff,Nat.reduceAdd,Int.ofNat_lt,hlt,decide_true,hxx,dit_eq x];refine fun_ret (r11asks_fun x.kind _) ?_;by_cases k12:x.kind=1∨x.kind=2
  ·have ka:x.kind=1∨x.kind=2∨x.kind=4:=by omega
   simp -dsimp -implicitDefEqProofs only[aw,V.copy,V.lend,V.lend1,Nat.reduceLeDiff,eq_self,reduceIte,Nat.reduceLT,Nat.reduceEqDiff,Nat.reduceAdd,decide_eq_true ka,hxx,dit_eq x];refine fun_ret (hvx _) ?_;by_cases hv0:validE x.ex=0
   ·have hg:=good (by unfold vldB;simp[hv0]);simp -dsimp -implicitDefEqProofs only[aw,V.copy,cond_true,eq_self,reduceIte,Nat.reduceBEq,Nat.reduceLT,Nat.reduceEqDiff,hv0,decide_true,wj];exact⟨hlt,Nxt.same (by simp) (boxesBelow_app hb rfl) (by simp[slotsBelow,V.under]) ⟨rfl,rfl,hg⟩⟩
   ·have hf:Y.all vldB=false:=by rw[hr,show vldB x=false by unfold vldB;rcases k12 with k|k<;>simp[k,hv0],Bool.false_and]
    rw[hf,if_neg Bool.false_ne_true]at hres;simp -dsimp -implicitDefEqProofs only[aw,V.copy,cond_true,eq_self,reduceIte,Nat.reduceBEq,Nat.reduceLT,Nat.reduceEqDiff,decide_eq_false hv0];exact hout _ _ _ _ hres rfl (.inl ⟨rfl,rfl⟩)
  ·have ka:¬(x.kind=1∨x.kind=2∨x.kind=4):=by omega
   have hg:=good (by unfold vldB;have n1:¬x.kind=1:=fun h=>k12 (.inl h);have n2:¬x.kind=2:=fun h=>k12 (.inr h);simp[n1,n2]);simp -dsimp -implicitDefEqProofs only[aw,V.copy,eq_self,reduceIte,Nat.reduceBEq,Nat.reduceLT,Nat.reduceEqDiff,decide_eq_false ka,wj];exact⟨hlt,Nxt.same (by simp) (boxesBelow_app hb rfl) (by simp[slotsBelow,V.under]) ⟨rfl,rfl,hg⟩⟩
 ·rw[List.drop_eq_nil_of_le (by omega),List.all_nil]at hr;rw[hr,if_pos rfl]at hres;simp -dsimp -implicitDefEqProofs only[aw,V.copy,eq_self,reduceIte,Nat.reduceBEq,Nat.reduceLT,Nat.reduceEqDiff,Int.ofNat_lt,hlt,decide_false];exact hout _ _ _ _ hres rfl (.inr rfl)
theorem expandI_big(l:List It)(c:Cl)(hb:ibigs l≤14000):(expandI splE (fldS c) l).1.length≤1000000∧∀x,x∈(expandI splE (fldS c) l).1→ibig x≤1000000:=by
 by_cases h:(expandI splE (fldS c) l).2=0
 ·have hu:=unr_of splE (fldS c) h;have h2:=hu.len;refine⟨by omega,fun a ha=>?_⟩;rcases hu.top a ha with⟨e,he,hk⟩|⟨hl,-⟩
  ·have hv:=(valid_size (hu.valid ha hk)).1
   have:ibig a=1+esize a.ex:=by
    rw[ibig_eq];rw[he];simp[itE,It.ws,It.bef,It.aft,It.items,It.els,ibigs]
   omega
  ·have:=ibigs_mem hl;omega
 ·have h0:(expandI splE (fldS c) l).1=[]:=by
   unfold expandI at h ⊢;split
   ·rfl
   ·split
    ·rfl
    ·split
     ·rename_i h1 h2 h3;rw[if_neg h1,if_neg h2,if_pos h3]at h;exact absurd rfl h
     ·rfl
  rw[h0];exact⟨by simp,fun x hx=>by cases hx⟩
set_option maxHeartbeats 2000000 in
theorem itemUnrolls_fun(l:List It)(c:Cl)(hl:ibigs l≤1048576)(hc:c.fields.length≤1048576)(σ:List (List V)):Fun G 4 [.d (ditl l),vcl c] σ (RetV (vbool true) σ):=by
 refine fun_code Tryz.func4 k4 rfl fun hb hw=>?_;delta c4 oM oV kI kS kT kF;simp -dsimp -implicitDefEqProofs only[aw,slots0,V.copy,V.lend,V.cells,V.boxable,eq_self,reduceIte,reduceCtorEq,Nat.reduceBEq,Nat.reduceLT,Nat.reduceEqDiff];refine fun_ret (few_fun l hl _) ?_;cases hf:fewI l with
 | false=>
  simp -dsimp -implicitDefEqProofs only[aw,V.copy,V.lend,eq_self,reduceIte,reduceCtorEq,Nat.reduceBEq,Nat.reduceLT,Nat.reduceEqDiff];refine fun_ret (awake_fun _) ?_;simp -dsimp -implicitDefEqProofs only[aw,V.copy,eq_self,reduceIte,reduceCtorEq,Nat.reduceBEq,Nat.reduceLT,Nat.reduceEqDiff];first|exact fin_ret hb rfl rfl List.take_length ⟨rfl,rfl⟩|exact fin_ret hb rfl rfl List.take_left ⟨rfl,rfl⟩
 | true=>
 have hb4:=few_big hf;simp -dsimp -implicitDefEqProofs only[aw,V.copy,V.lend,V.lend1,Nat.reduceLeDiff,eq_self,reduceIte,reduceCtorEq,Nat.reduceLT,Nat.reduceEqDiff,Nat.reduceAdd];refine fun_ret (small_fun c hc _) ?_;cases hsm:smB c with
 | false=>
  simp -dsimp -implicitDefEqProofs only[aw,V.copy,V.lend,cond_false,eq_self,reduceIte,reduceCtorEq,Nat.reduceBEq,Nat.reduceLT,Nat.reduceEqDiff];refine fun_ret (awake_fun _) ?_;simp -dsimp -implicitDefEqProofs only[aw,V.copy,eq_self,reduceIte,reduceCtorEq,Nat.reduceBEq,Nat.reduceLT,Nat.reduceEqDiff];first|exact fin_ret hb rfl rfl List.take_length ⟨rfl,rfl⟩|exact fin_ret hb rfl rfl List.take_left ⟨rfl,rfl⟩
 | true=>
 obtain⟨hc20,hs⟩:=smB_ok hsm;have h1:=fun σ=>expand_item l c (by omega) hs (by omega) σ;have h2:=fun σ=>rexpand_item l c (by omega) hs (by omega) σ;have hx:=expandI_big l c hb4;generalize expandI splE (fldS c) l=r at h1 h2 hx;obtain⟨X,e⟩:=r;have hx:X.length≤1000000∧∀x,x∈X→ibig x≤1000000:=hx;have h3:=fun σ=>rsame_item X hx σ;simp -dsimp -implicitDefEqProofs only[aw,V.copy,V.lend,V.lend1,Nat.reduceLeDiff,cond_false,eq_self,reduceIte,reduceCtorEq,Nat.reduceBEq,Nat.reduceLT,Nat.reduceEqDiff,Nat.reduceAdd];refine fun_ret (h1 _) ?_;simp -dsimp -implicitDefEqProofs only[aw,V.copy,V.lend,V.lend1,Nat.reduceLeDiff,eq_self,reduceIte,reduceCtorEq,Nat.reduceBEq,Nat.reduceLT,Nat.reduceEqDiff,Nat.reduceAdd];refine fun_ret (h2 _) ?_;simp -dsimp -implicitDefEqProofs only[aw,V.copy,V.lend,eq_self,reduceIte,reduceCtorEq,Nat.reduceBEq,Nat.reduceLT,Nat.reduceEqDiff,decide_true];refine fun_ret (h3 _) ?_
 simp -dsimp -implicitDefEqProofs only[aw,V.copy,V.lend,cond_true,eq_self,reduceIte,Nat.reduceLT,Nat.reduceEqDiff];refine fun_ret (awake_fun _) ?_;simp -dsimp -implicitDefEqProofs only[aw,V.copy,cond_true,eq_self,reduceIte,Nat.reduceBEq,Nat.reduceLT,Nat.reduceEqDiff];first|exact fin_ret hb rfl rfl List.take_length ⟨rfl,rfl⟩|exact fin_ret hb rfl rfl List.take_left ⟨rfl,rfl⟩
theorem kwG:Tryz.prog.globalNamed "testbench/lexer.keywords" = some 0:=by kernel_rfl
theorem kwT:(Tryz.prog.globals[0]?).map (·.type)=some 43:=by kernel_rfl
theorem kwD:Rows.laid_testbench_lexer_keywords (H:=Unit)=.slice (kwList.map fun s=>.lit (.string s.data.toList)) []:=by kernel_rfl
theorem keys_of_laid{W:World}(h:laidMet Tryz.prog [("testbench/lexer.keywords",Rows.laid_testbench_lexer_keywords)] W):Keys W:=by
 obtain⟨ps,⟨g',t',cs,fuel,p,q,hg',ht',hvar,hd,-,-⟩,-⟩:=h;obtain rfl:=Option.some.inj (kwG.symm.trans hg');obtain rfl:=Option.some.inj (kwT.symm.trans ht');rw[kwD]at hd;rcases DataW.trod_slice Tryz.underlying43 hd with⟨-,hx⟩|⟨ad,len,cap,elems,rest,n',hn',g3,hx,hb,hl,hm,hlen2,hel,-,-⟩
 ·simp at hx
 ·simp only[Prod.mk.injEq,DataW.slice.injEq]at hx;obtain⟨⟨hx1,-⟩,-⟩:=hx;have hlen:len=kwList.length:=by have h9:=congrArg List.length hx1;rw[List.length_map,List.length_map]at h9;rw[←hlen2,h9]
  have hc0:=World.var?_cell kwG hvar 0;have hv:cs.toList[0]? = some (.slice (some ad) len cap):=by rw[g3];rfl
  refine⟨.slice (some ad) len cap,by rw[hc0];simpa using hv,?_⟩
  have hcell:∀i (hi:i<len),∃s:ByteArray,W.cell? (ad.add i)=some (.string s)∧kwList[i]? = some s:=by
   intro i hi;have h1:=hel i hi;rw[Tryz.cellsS,List.getElem?_eq_getElem (by omega)]at h1;obtain⟨cs',hc,ht⟩:=Option.bind_eq_some_iff.1 h1;obtain⟨-,hcl,hcc⟩:=World.cells?_some hc;obtain⟨s,rfl,hs,-⟩:=DataW.trod_string Tryz.underlying9 ht;have h2:=hcc 0 (by omega);refine⟨s,by simpa[Addr.add]using h2,?_⟩;have h3:=congrArg (·[i]?) hx1;simp only[List.getElem?_map,List.getElem?_eq_getElem (show i<elems.length by omega),Option.map_some,hs]at h3;rw[Option.map_eq_some_iff]at h3;obtain⟨s',h4,h5⟩:=h3;rw[h4];simp only[DataW.lit.injEq,Lit.string.injEq]at h5;congr 1;cases s';cases s;simp at h5;simp[h5]
  have hsp:ad.spot=none:=by
   obtain⟨s,h1,-⟩:=hcell 0 (by rw[hlen];decide);have:=cell_spot h1;simpa[Addr.add]using this
  rw[hlen];refine⟨some ad,cap,rfl,by omega,hm,fun i s hi=>⟨ad.block,ad.off,by cases ad;simp_all,?_⟩⟩;obtain⟨s',h1,h2⟩:=hcell i (by rw[hlen];exact(List.getElem?_eq_some_iff.1 hi).1);rw[hi]at h2;cases h2
  have ha:ad.add i=⟨ad.block,ad.off+i,none⟩:=by
   cases ad;simp only at hsp;subst hsp;unfold Addr.add;by_cases h:i=0
   ·subst h;simp
   ·simp[h]
  rw[ha]at h1;exact h1
section
variable {H : Type} {enc : TypeId × Value → H} {P : Program} {W : World} {base : Nat} {spare : Nat → Bool} {held : Bool} {fuel : Nat} {t : TypeId} {cs : List Value} {x : DataW H × List MemPlace}
theorem slice_readsQ{e:TypeId}{k:Nat}(hu:P.underlying t=some (.slice e))(hk:P.cellsOf e=k)(hk0:0<k){α:Type}[Inhabited α](dr:α→List D)(hdr:∀a,(dr a).length=k)(Q:α→DataW H→Prop)
 (h:DataW.trod enc P W base spare held fuel t cs=some x)(he:∀n,n<fuel→∀cs' y,DataW.trod enc P W base spare held n e cs'=some y→∃a,DReps (mem W) (dr a) cs'∧Q a y.1):
 ∃(l:List α) (v:Value),cs=[v]∧DRep (mem W) (.sl (l.map dr)) v∧((x.1=.nil∧l=[])∨∃elems rest:List (DataW H),x.1=.slice elems rest∧elems.length=l.length∧∀i (h:i<l.length) (h':i<elems.length),Q l[i] elems[i]):=by
 rcases DataW.trod_slice hu h with⟨rfl,hx⟩|⟨ad,len,cap,elems,rest,n',hn',rfl,hx,hb,hl,hm,hlen2,hel,-,-⟩
 ·exact⟨[],_,rfl,DRep.nil _,.inl ⟨by rw[hx],rfl⟩⟩
 ·have hsp:0<len→ad.spot=none:=by
   intro hi;have h1:=hel 0 hi;rw[hk,List.getElem?_eq_getElem (by omega)]at h1;obtain⟨cs',hc,ht⟩:=Option.bind_eq_some_iff.1 h1;obtain⟨-,hcl,hcc⟩:=World.cells?_some hc;have h2:=hcc 0 hk0;rw[List.getElem?_eq_getElem (by omega)]at h2;have h3:=spot_of_cell h2;simpa[Addr.add]using h3
  have hall:∀i,i<len→∃q:α×List Value,ad.spot=none∧(∀j,j<k→mem W ad.block (ad.off+i*k+j)=some (q.2[j]?.getD .nilIface))∧q.2.length=k∧DReps (mem W) (dr q.1) q.2∧∀y,elems[i]? = some y→Q q.1 y.1:=by
   intro i hi;have h1:=hel i hi;rw[hk,List.getElem?_eq_getElem (by omega)]at h1;obtain⟨cs',hc,ht⟩:=Option.bind_eq_some_iff.1 h1;obtain⟨a,ha,hq⟩:=he n' (by omega) cs' _ ht;obtain⟨-,hcl,hcc⟩:=World.cells?_some hc;have hs0:=hsp (by omega);refine⟨(a,cs'),hs0,fun j hj=>?_,hcl,ha,fun y hy=>by rw[List.getElem?_eq_getElem (by omega)]at hy;cases hy;exact hq⟩;have h2:=hcc j hj;rw[List.getElem?_eq_getElem (by omega)]at h2
   have ha:(ad.add (i*k)).add j=⟨ad.block,ad.off+i*k+j,none⟩:=by
    cases ad;simp only at hs0;subst hs0;unfold Addr.add;by_cases h1:i*k=0
    ·by_cases h2:j=0
     ·subst h2;simp[h1]
     ·simp[h1,h2]
    ·by_cases h2:j=0
     ·subst h2;simp[h1]
     ·simp[h1,h2]
   rw[ha]at h2;show mem W _ _=some (cs'[j]?.getD .nilIface);rw[List.getElem?_eq_getElem (by omega),Option.getD_some];exact h2
  obtain⟨f,hfx⟩:=Go.Deep.choose_lt hall;refine⟨(List.range len).map fun i=>(f i).1,_,rfl,?_,.inr ⟨_,_,by rw[hx],by simp[hlen2],fun i h1 h2=>?_⟩⟩
  ·have hlen:(((List.range len).map fun i=>(f i).1).map dr).length=len:=by simp
   generalize hrs:((List.range len).map fun i=>(f i).1).map dr=rows at hlen;have hri:∀i (h:i<rows.length),rows[i]=dr (f i).1:=fun i h=>by subst hrs;simp
   subst hlen;refine .sl rows k (some ad) cap (fun i j=>(f i).2[j]?.getD .nilIface) (fun r hr=>?_) (fun i j hi hj=>?_) (fun i hi=>?_) hl hm
   ·obtain⟨i,hi,rfl⟩:=List.getElem_of_mem hr;rw[hri i hi];exact hdr _
   ·obtain⟨k1,k2,k3,k4,-⟩:=hfx i hi;have hjk:j<k:=by rw[hri i hi,hdr]at hj;exact hj
    simp only[hri i hi];rw[List.getElem?_eq_getElem (by omega:j<(f i).2.length),Option.getD_some];exact k4.2 j (by rw[hdr];exact hjk) (by omega)
   ·obtain⟨k1,k2,k3,k4,-⟩:=hfx i hi;exact⟨ad.block,ad.off,by cases ad;simp_all,fun j hj=>k2 j hj⟩
  ·have hi:i<len:=by simpa using h1
   obtain⟨-,-,-,-,hq⟩:=hfx i hi;simp only[List.getElem_map,List.getElem_range];exact hq _ (List.getElem?_eq_getElem (by omega))
end
end Go.Proofs.YthoebpnbhgmoiaaGreatDoor
