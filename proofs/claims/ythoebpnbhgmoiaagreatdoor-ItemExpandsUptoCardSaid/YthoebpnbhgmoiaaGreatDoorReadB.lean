import Derived.Test.YthoebpnbhgmoiaaGreatDoorIl3
import Derived.Test.YthoebpnbhgmoiaaGreatDoorWord2
import Derived.Test.YthoebpnbhgmoiaaGreatDoorIr14
import Derived.Test.YthoebpnbhgmoiaaGreatDoorIr15
import Derived.Test.YthoebpnbhgmoiaaGreatDoorReplE
import Derived.Test.YthoebpnbhgmoiaaGreatDoorIe1
import Derived.Test.YthoebpnbhgmoiaaGreatDoorData
import Derived.Test.YthoebpnbhgmoiaaGreatDoorNames
import Derived.LaidLaws
import Derived.Test.YthoebpnbhgmoiaaGreatDoorEnv
set_option linter.unusedVariables false
set_option linter.unusedSimpArgs false
set_option linter.unusedSectionVars false
namespace Go.Proofs.YthoebpnbhgmoiaaGreatDoor
open Go.RowKit
theorem hard_cons(v:Ex→Int)(x:It)(l:List It):hard v (x::l)=((!decide (x.kind=1) || !decide (v x.ex=0))&&hard v l):=rfl
set_option maxHeartbeats 4000000 in
theorem itemExpands_fun(l:List It)(c:Cl)(u:List Int)(hl:ibigs l≤1048576)(hc:c.fields.length≤1048576)(hu:u.length≤1048576)(σ:List (List V)):Fun G 6 [.d (ditl l),vcl c,.d (dnum u)] σ (RetV (vbool true) σ):=by
 refine fun_code Tryz.func6 k6 rfl fun hb hw=>?_;delta c6 oM oV kI kS kT kF;simp -dsimp -implicitDefEqProofs only[aw,slots0,V.copy,V.lend,V.cells,V.boxable,eq_self,reduceIte,reduceCtorEq,Nat.reduceBEq,Nat.reduceLT,Nat.reduceEqDiff,Nat.reduceAdd];refine fun_ret (few_fun l hl _) ?_;cases hf:fewI l with
 | false=>
  simp -dsimp -implicitDefEqProofs only[aw,V.copy,V.lend,eq_self,reduceIte,reduceCtorEq,Nat.reduceBEq,Nat.reduceLT,Nat.reduceEqDiff];refine fun_ret (awake_fun _) ?_;simp -dsimp -implicitDefEqProofs only[aw,V.copy,eq_self,reduceIte,reduceCtorEq,Nat.reduceBEq,Nat.reduceLT,Nat.reduceEqDiff];first|exact fin_ret hb rfl rfl List.take_length ⟨rfl,rfl⟩|exact fin_ret hb rfl rfl List.take_left ⟨rfl,rfl⟩
 | true=>
 have hb4:=few_big hf;have hz:=isz_big l;simp -dsimp -implicitDefEqProofs only[aw,V.copy,V.lend,V.lend1,Nat.reduceLeDiff,eq_self,reduceIte,reduceCtorEq,Nat.reduceLT,Nat.reduceEqDiff,Nat.reduceAdd];refine fun_ret (small_fun c hc _) ?_;cases hsm:smB c with
 | false=>
  simp -dsimp -implicitDefEqProofs only[aw,V.copy,V.lend,cond_false,eq_self,reduceIte,reduceCtorEq,Nat.reduceBEq,Nat.reduceLT,Nat.reduceEqDiff];refine fun_ret (awake_fun _) ?_;simp -dsimp -implicitDefEqProofs only[aw,V.copy,eq_self,reduceIte,reduceCtorEq,Nat.reduceBEq,Nat.reduceLT,Nat.reduceEqDiff];first|exact fin_ret hb rfl rfl List.take_length ⟨rfl,rfl⟩|exact fin_ret hb rfl rfl List.take_left ⟨rfl,rfl⟩
 | true=>
 obtain⟨hc20,hs⟩:=smB_ok hsm;have h1:=fun σ=>expand_item l c (by omega) hs (by omega) σ;have hun:=fun h=>unr_of splE (fldS c) (l:=l) h;generalize expandI splE (fldS c) l=r at h1 hun;obtain⟨X,e⟩:=r;have hun:e=0→Unr splE (fldS c) l X:=hun;simp -dsimp -implicitDefEqProofs only[aw,V.copy,V.lend,V.lend1,Nat.reduceLeDiff,cond_false,eq_self,reduceIte,reduceCtorEq,Nat.reduceBEq,Nat.reduceLT,Nat.reduceEqDiff,Nat.reduceAdd];refine fun_ret (h1 _) ?_;by_cases h0:e=0
 case neg=>
  simp -dsimp -implicitDefEqProofs only[aw,V.copy,V.lend,eq_self,reduceIte,reduceCtorEq,Nat.reduceBEq,Nat.reduceLT,Nat.reduceEqDiff,decide_eq_false h0];refine fun_ret (awake_fun _) ?_;simp -dsimp -implicitDefEqProofs only[aw,V.copy,eq_self,reduceIte,reduceCtorEq,Nat.reduceBEq,Nat.reduceLT,Nat.reduceEqDiff];first|exact fin_ret hb rfl rfl List.take_length ⟨rfl,rfl⟩|exact fin_ret hb rfl rfl List.take_left ⟨rfl,rfl⟩
 have hU:=hun h0;have hev:=env_ok spl_elem hs u;have hold:=hU.hold hs.leN hev.ok;have henv:=fun σ=>env_fun c u hs hc20 hu σ;have hel:=envF_len u (varsF (fldS c)) 0;have hvl:=varsF_le (fldS c) (fun f hf=>(hs.sz f hf).2.1);have hfl:(fldS c).length=c.fields.length:=by unfold fldS;rw[List.length_map]
 generalize envF (varsF (fldS c)) u 0=env at henv hold hel;have hho:=fun σ=>holds_fun c hs (by omega) (iszs l) l env (Nat.le_refl _) (by omega) (by omega) σ;rw[←hold]at hho;simp -dsimp -implicitDefEqProofs only[aw,V.copy,V.lend,V.lend1,Nat.reduceLeDiff,eq_self,reduceIte,reduceCtorEq,Nat.reduceBEq,Nat.reduceLT,Nat.reduceEqDiff,Nat.reduceAdd,decide_eq_true h0];refine fun_ret (henv _) ?_;have hXl:=hU.len;simp -dsimp -implicitDefEqProofs only[aw,V.copy,eq_self,reduceIte,reduceCtorEq,Nat.reduceBEq,Nat.reduceLT,Nat.reduceEqDiff];refine awp_for (R:=fun(j:Nat) ρ σ'=>∃b:Bool,ρ=[(0,.d (ditl l)),(4,.ptr σ.length 0),(7,.d (ditl X)),(9,.d (dsigs env)),(10,vbool b),(11,vint .i64 j)]∧σ'=σ++[clsC c]∧hard (vE env) X=(b&&hard (vE env) (X.drop j))) X.length ⟨true,rfl,rfl,rfl⟩ ?_ _;rintro j ρ' σ' hj ⟨b,rfl,rfl,hr⟩;by_cases hlt:j<X.length
 ·rw[List.drop_eq_getElem_cons hlt,hard_cons]at hr;have hxx:X[j]? = some X[j]:=List.getElem?_eq_getElem hlt;have hk:=hU.kind _ (List.getElem_mem hlt);have hvx:X[j].kind=1→esize X[j].ex≤400:=fun h=>(valid_size (hU.valid (List.getElem_mem hlt) (.inl h))).1;generalize X[j]=x at hxx hr hk hvx;have wj:=wrap_nat hlt (show X.length≤9223372036854775807 by omega);cases b with
  | false=>
   rw[Bool.false_and]at hr;rcases hk with k|k|k|k
   all_goals
    simp -dsimp -implicitDefEqProofs only[aw,V.copy,Nat.reduceLeDiff,cond_true,eq_self,reduceIte,reduceCtorEq,Nat.reduceBEq,Nat.reduceLT,Nat.reduceEqDiff,Nat.reduceAdd,Int.ofNat_lt,hlt,decide_true,hxx,dit_eq x,k,Int.reduceEq,decide_false,wj];exact Nxt.same (by simp) (boxesBelow_app hb rfl) (by simp[slotsBelow,V.under]) ⟨false,rfl,rfl,by rw[hr,Bool.false_and]⟩
  | true=>
   rw[Bool.true_and]at hr;by_cases k1:x.kind=1
   ·have hva:=fun σ=>rvalue_fun x.ex env (by have:=hvx k1;omega) σ;simp only[vex_eq]at hva;rw[decide_eq_true k1,Bool.not_true,Bool.false_or]at hr;simp -dsimp -implicitDefEqProofs only[aw,V.copy,V.lend,V.lend1,Nat.reduceLeDiff,eq_self,reduceIte,reduceCtorEq,Nat.reduceBEq,Nat.reduceLT,Nat.reduceEqDiff,Nat.reduceAdd,Int.ofNat_lt,hlt,decide_true,hxx,dit_eq x,k1];refine fun_ret (hva _) ?_;by_cases v0:vE env x.ex=0
    ·rw[decide_eq_true v0]at hr;simp -dsimp -implicitDefEqProofs only[aw,V.copy,cond_true,cond_false,eq_self,reduceIte,reduceCtorEq,Nat.reduceBEq,Nat.reduceLT,Nat.reduceEqDiff,decide_eq_true v0,wj];exact⟨hlt,Nxt.same (by simp) (boxesBelow_app hb rfl) (by simp[slotsBelow,V.under]) ⟨false,rfl,rfl,hr⟩⟩
    ·rw[decide_eq_false v0]at hr;simp -dsimp -implicitDefEqProofs only[aw,V.copy,cond_true,cond_false,eq_self,reduceIte,reduceCtorEq,Nat.reduceBEq,Nat.reduceLT,Nat.reduceEqDiff,decide_eq_false v0,wj];exact⟨hlt,Nxt.same (by simp) (boxesBelow_app hb rfl) (by simp[slotsBelow,V.under]) ⟨true,rfl,rfl,hr⟩⟩
   ·rw[decide_eq_false k1,Bool.not_false,Bool.true_or,Bool.true_and]at hr;rcases hk with k|k|k|k
    ·exact absurd k k1
    all_goals
     simp -dsimp -implicitDefEqProofs only[aw,V.copy,Nat.reduceLeDiff,cond_true,eq_self,reduceIte,reduceCtorEq,Nat.reduceBEq,Nat.reduceLT,Nat.reduceEqDiff,Nat.reduceAdd,Int.ofNat_lt,hlt,decide_true,hxx,dit_eq x,k,Int.reduceEq,decide_false,wj];exact Nxt.same (by simp) (boxesBelow_app hb rfl) (by simp[slotsBelow,V.under]) ⟨true,rfl,rfl,by rw[hr];rfl⟩
 ·rw[List.drop_eq_nil_of_le (by omega)]at hr;have hb0:hard (vE env) X=b:=by rw[hr];show(b&&true)=b;rw[Bool.and_true]
  rw[hb0]at hho;simp -dsimp -implicitDefEqProofs only[aw,V.copy,V.lend,V.lend1,Nat.reduceLeDiff,eq_self,reduceIte,reduceCtorEq,Nat.reduceBEq,Nat.reduceLT,Nat.reduceEqDiff,Nat.reduceAdd,Int.ofNat_lt,hlt,decide_false];refine fun_ret (hho _) ?_;have hbb:(b==b)=true:=by cases b<;>rfl
  simp -dsimp -implicitDefEqProofs only[aw,V.copy,V.lend,eq_self,reduceIte,reduceCtorEq,Nat.reduceLT,Nat.reduceEqDiff,hbb];refine fun_ret (awake_fun _) ?_;simp -dsimp -implicitDefEqProofs only[aw,V.copy,cond_true,eq_self,reduceIte,reduceCtorEq,Nat.reduceBEq,Nat.reduceLT,Nat.reduceEqDiff];first|exact fin_ret hb rfl rfl List.take_length ⟨rfl,rfl⟩|exact fin_ret hb rfl rfl List.take_left ⟨rfl,rfl⟩
theorem kwG:Tryz.prog.globalNamed "testbench/lexer.keywords" = some 0:=by kernel_rfl
theorem kwT:(Tryz.prog.globals[0]?).map (·.type)=some 43:=by kernel_rfl
theorem kwD:Rows.laid_testbench_lexer_keywords (H:=Unit)=.slice (kwList.map fun s=>.lit (.string s.data.toList)) []:=by kernel_rfl
theorem keys_of_laid{W:World}(h:laidMet Tryz.prog [("testbench/lexer.keywords",Rows.laid_testbench_lexer_keywords)] W):Keys W:=by
 obtain⟨ps,⟨g',t',cs,fuel,p,q,hg',ht',hvar,hd,-,-⟩,-⟩:=h;obtain rfl:=Option.some.inj (kwG.symm.trans hg');obtain rfl:=Option.some.inj (kwT.symm.trans ht');rw[kwD]at hd;rcases DataW.trod_slice Tryz.underlying43 hd with⟨-,hx⟩|⟨ad,len,cap,elems,rest,n',hn',g3,hx,hb,hl,hm,hlen2,hel,-,-⟩
 ·simp at hx
 ·simp only[Prod.mk.injEq,DataW.slice.injEq]at hx;obtain⟨⟨hx1,-⟩,-⟩:=hx;have hlen:len=kwList.length:=by have h9:=congrArg List.length hx1;rw[List.length_map,List.length_map]at h9;rw[←hlen2,h9]
  have hc0:=World.var?_cell kwG hvar 0;have hv:cs.toList[0]? = some (.slice (some ad) len cap):=by rw[g3];rfl
  refine⟨.slice (some ad) len cap,by rw[hc0];simpa using hv,?_⟩
  have hcell:∀i (hi:i<len),∃s:ByteArray,W.cell? (ad.add i)=some (.string s)∧kwList[i]? = some s:=by
   intro i hi;have h1:=hel i hi;rw[Tryz.cellsS,List.getElem?_eq_getElem (by omega)]at h1;obtain⟨cs',hc,ht⟩:=Option.bind_eq_some_iff.1 h1;obtain⟨-,hcl,hcc⟩:=World.cells?_some hc;obtain⟨s,rfl,hs,-⟩:=DataW.trod_string Tryz.underlying9 ht;have h2:=hcc 0 (by omega);refine⟨s,by simpa[Addr.add]using h2,?_⟩;have h3:=congrArg (·[i]?) hx1;simp only[List.getElem?_map,List.getElem?_eq_getElem (show i<elems.length by omega),Option.map_some,hs]at h3;rw[Option.map_eq_some_iff]at h3;obtain⟨s',h4,h5⟩:=h3;rw[h4];simp only[DataW.lit.injEq,Lit.string.injEq]at h5;congr 1;cases s';cases s;simp at h5;simp[h5]
  have hsp:ad.spot=none:=by
   obtain⟨s,h1,-⟩:=hcell 0 (by rw[hlen];decide);have:=cell_spot h1;simpa[Addr.add]using this
  rw[hlen];refine⟨some ad,cap,rfl,by omega,hm,fun i s hi=>⟨ad.block,ad.off,by cases ad;simp_all,?_⟩⟩;obtain⟨s',h1,h2⟩:=hcell i (by rw[hlen];exact(List.getElem?_eq_some_iff.1 hi).1);rw[hi]at h2;cases h2
  have ha:ad.add i=⟨ad.block,ad.off+i,none⟩:=by
   cases ad;simp only at hsp;subst hsp;unfold Addr.add;by_cases h:i=0
   ·subst h;simp
   ·simp[h]
  rw[ha]at h1;exact h1
section
variable {H : Type} {enc : TypeId × Value → H} {P : Program} {W : World} {base : Nat} {spare : Nat → Bool} {held : Bool} {fuel : Nat} {t : TypeId} {cs : List Value} {x : DataW H × List MemPlace}
theorem slice_readsQ{e:TypeId}{k:Nat}(hu:P.underlying t=some (.slice e))(hk:P.cellsOf e=k)(hk0:0<k){α:Type}[Inhabited α](dr:α→List D)(hdr:∀a,(dr a).length=k)(Q:α→DataW H→Prop)
 (h:DataW.trod enc P W base spare held fuel t cs=some x)(he:∀n,n<fuel→∀cs' y,DataW.trod enc P W base spare held n e cs'=some y→∃a,DReps (mem W) (dr a) cs'∧Q a y.1):
 ∃(l:List α) (v:Value),cs=[v]∧DRep (mem W) (.sl (l.map dr)) v∧((x.1=.nil∧l=[])∨∃elems rest:List (DataW H),x.1=.slice elems rest∧elems.length=l.length∧∀i (h:i<l.length) (h':i<elems.length),Q l[i] elems[i]):=by
 rcases DataW.trod_slice hu h with⟨rfl,hx⟩|⟨ad,len,cap,elems,rest,n',hn',rfl,hx,hb,hl,hm,hlen2,hel,-,-⟩
 ·exact⟨[],_,rfl,DRep.nil _,.inl ⟨by rw[hx],rfl⟩⟩
 ·have hsp:0<len→ad.spot=none:=by
   intro hi;have h1:=hel 0 hi;rw[hk,List.getElem?_eq_getElem (by omega)]at h1;obtain⟨cs',hc,ht⟩:=Option.bind_eq_some_iff.1 h1;obtain⟨-,hcl,hcc⟩:=World.cells?_some hc;have h2:=hcc 0 hk0;rw[List.getElem?_eq_getElem (by omega)]at h2;have h3:=spot_of_cell h2;simpa[Addr.add]using h3
  have hall:∀i,i<len→∃q:α×List Value,ad.spot=none∧(∀j,j<k→mem W ad.block (ad.off+i*k+j)=some (q.2[j]?.getD .nilIface))∧q.2.length=k∧DReps (mem W) (dr q.1) q.2∧∀y,elems[i]? = some y→Q q.1 y.1:=by
   intro i hi;have h1:=hel i hi;rw[hk,List.getElem?_eq_getElem (by omega)]at h1;obtain⟨cs',hc,ht⟩:=Option.bind_eq_some_iff.1 h1;obtain⟨a,ha,hq⟩:=he n' (by omega) cs' _ ht;obtain⟨-,hcl,hcc⟩:=World.cells?_some hc;have hs0:=hsp (by omega);refine⟨(a,cs'),hs0,fun j hj=>?_,hcl,ha,fun y hy=>by rw[List.getElem?_eq_getElem (by omega)]at hy;cases hy;exact hq⟩;have h2:=hcc j hj;rw[List.getElem?_eq_getElem (by omega)]at h2
   have ha:(ad.add (i*k)).add j=⟨ad.block,ad.off+i*k+j,none⟩:=by
    cases ad;simp only at hs0;subst hs0;unfold Addr.add;by_cases h1:i*k=0
    ·by_cases h2:j=0
     ·subst h2;simp[h1]
     ·simp[h1,h2]
    ·by_cases h2:j=0
     ·subst h2;simp[h1]
     ·simp[h1,h2]
   rw[ha]at h2;show mem W _ _=some (cs'[j]?.getD .nilIface);rw[List.getElem?_eq_getElem (by omega),Option.getD_some];exact h2
  obtain⟨f,hfx⟩:=Go.Deep.choose_lt hall;refine⟨(List.range len).map fun i=>(f i).1,_,rfl,?_,.inr ⟨_,_,by rw[hx],by simp[hlen2],fun i h1 h2=>?_⟩⟩
  ·have hlen:(((List.range len).map fun i=>(f i).1).map dr).length=len:=by simp
   generalize hrs:((List.range len).map fun i=>(f i).1).map dr=rows at hlen;have hri:∀i (h:i<rows.length),rows[i]=dr (f i).1:=fun i h=>by subst hrs;simp
   subst hlen;refine .sl rows k (some ad) cap (fun i j=>(f i).2[j]?.getD .nilIface) (fun r hr=>?_) (fun i j hi hj=>?_) (fun i hi=>?_) hl hm
   ·obtain⟨i,hi,rfl⟩:=List.getElem_of_mem hr;rw[hri i hi];exact hdr _
   ·obtain⟨k1,k2,k3,k4,-⟩:=hfx i hi;have hjk:j<k:=by rw[hri i hi,hdr]at hj;exact hj
    simp only[hri i hi];rw[List.getElem?_eq_getElem (by omega:j<(f i).2.length),Option.getD_some];exact k4.2 j (by rw[hdr];exact hjk) (by omega)
   ·obtain⟨k1,k2,k3,k4,-⟩:=hfx i hi;exact⟨ad.block,ad.off,by cases ad;simp_all,fun j hj=>k2 j hj⟩
  ·have hi:i<len:=by simpa using h1
   obtain⟨-,-,-,-,hq⟩:=hfx i hi;simp only[List.getElem_map,List.getElem_range];exact hq _ (List.getElem?_eq_getElem (by omega))
end
end Go.Proofs.YthoebpnbhgmoiaaGreatDoor
