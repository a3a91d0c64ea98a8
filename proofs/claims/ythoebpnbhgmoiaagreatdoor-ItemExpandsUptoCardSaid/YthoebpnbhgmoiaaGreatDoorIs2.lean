import Derived.Test.YthoebpnbhgmoiaaGreatDoorIs1
set_option linter.unusedVariables false
set_option linter.unusedSimpArgs false
set_option linter.unusedSectionVars false
namespace Go.Proofs.YthoebpnbhgmoiaaGreatDoor
open Go.RowKit
def NN(e:Ex):Prop:=∀n,n∈nodesE e→n.op=1→0≤n.num
theorem NN.arg{e a:Ex}(h:NN e)(ha:a∈e.args):NN a:=fun n hn ho=>by
 refine h n ?_ ho;rw[nodesE_eq];exact List.mem_cons_of_mem _ (nodesL_mem.2 ⟨a,ha,hn⟩)
theorem cst_nn(fs:List (ByteArray×Int))(e:Ex):NN e→∀i,cstE fs e=some i→0≤i:=by
 induction e using Ex.ind3 with
 | h e ih=>
 intro hn i hc;rw[cstE_eq]at hc;split at hc
 ·rename_i o1;cases hc;exact hn e (by rw[nodesE_eq];simp) o1
 ·split at hc
  ·split at hc
   ·split at hc
    ·cases hc;omega
    ·cases hc
   ·cases hc
  ·cases hc
theorem sc_num{fs:List (ByteArray×Int)}{e:Ex}(hS:SOk fs e)(hn:NN e)(h1:(scE fs e).op=1):0≤(scE fs e).num:=by
 obtain⟨c1,c2⟩:=cst_sc fs e hS;cases hc:cstE fs e with
 | none=>exact absurd h1 (c2 hc)
 | some i=>rw[c1 i hc];exact cst_nn fs e hn i hc
theorem all_sok(fs:List (ByteArray×Int))(e:Ex):SOk fs e→allN [2] (fun s=>s≠⟨#[]⟩) e:=by
 induction e using Ex.ind with
 | h o n s l ih=>
 intro h;rw[SOk]at h;obtain⟨h1,h2,h3,h4,h5,h6⟩:=h;rw[allN_op];exact⟨fun ho=>h5 (by simpa using ho),fun a ha=>ih a ha ((SOkL_mem fs).1 h6 a ha)⟩
theorem okN_all(e:Ex):allN [2] (fun s=>s≠⟨#[]⟩) e→okN e=true:=by
 induction e using Ex.ind with
 | h o n s l ih=>
 intro h;rw[allN_op]at h;rw[okN,Bool.and_eq_true,okNs_mem];refine⟨?_,fun a ha=>ih a ha (h.2 a ha)⟩;by_cases ho:o=2
 ·simp[ho,h.1 (by simp[ho])]
 ·simp[ho]
theorem elem_ne(a:ByteArray)(k:Nat):elemName a k≠⟨#[]⟩:=fun h=>by
 have:(elemName a k).data.toList=[]:=by rw[h]
 unfold elemName at this;simp at this
theorem okN_sc{fs:List (ByteArray×Int)}{e:Ex}(hS:SOk fs e)(hn:NN e):okN (scE fs e)=true:=
 okN_all _ (sc_names fs (fun s=>s≠⟨#[]⟩) (fun a k _=>elem_ne a k) e hS (all_sok fs e hS) hn).1
theorem Nxt.drop4{n0:Nat}{R:Slots→List (List V)→Prop}{ρ:Slots}{σ:List (List V)}{a b c d:List V}(hn:n0≤σ.length)(hb:boxesBelow (σ++[a,b,c]).length (σ++[a,b,c])=true)(hs:slotsBelow (σ++[a,b,c]).length ρ=true)(hR:R ρ (σ++[a,b,c])):Nxt n0 R ρ (σ++[a,b,c,d]) .mk:=by
 have e:σ++[a,b,c,d]=(σ++[a,b,c])++[d]:=by simp
 rw[e];exact Nxt.drop (by rw[List.length_append];omega) hb hs hR
theorem wrap_dec{n j:Nat}(hn:n≤8)(h:j<n):IntKind.i64.wrap (((n-(j+1):Nat):Int)-1)=(n:Int)-1-((j+1:Nat):Int):=by rw[wrap_i64 (by omega) (by omega)];omega
set_option maxHeartbeats 4000000 in
theorem choice_fun(i:Nat)(fs:List (ByteArray×Int))(a:ByteArray)(ix:Ex)(h1:1≤fszI fs a)(h8:fszI fs a≤8)(ha:nameB a=true)(hok:okN ix=true)(hsz:esize ix≤1000000)(hnn:ix.op=1→0≤ix.num)(σ:List (List V))(h:FB σ i fs):
 Fun G 87 [.mp i,.d (dstr a),vex ix] σ (RetV (vex (elmX fs a ix)) σ):=by
 have hn:=fszN_I fs h1;have has:a.size≤1000:=by have:=nameB_size ha;omega
 refine fun_code Tryz.func87 k87 (by simp only[vex_eq];rfl) fun hb hw=>?_;delta c87 oM oV kI kS kT kF;have hel:=fun k hk σ=>element_fun a k hk has σ;have vel:∀k,vex (elE a k)=.agg [.d (dint 2),.d (dint 0),.d (dstr (elemName a k)),.d (.sl [])]:=fun k=>by rw[vex_eq];rfl
 simp only[vel]at hel;have vcz:vex (constE 0)=.agg [.d (dint 1),.d (dint 0),.d (dstr ⟨#[]⟩),.d (.sl [])]:=by rw[vex_eq];rfl
 by_cases o1:ix.op=1
 ·have hnum:=hnn o1;by_cases hlt:ix.num<fszI fs a
  ·have hres:elmX fs a ix=elE a ix.num.toNat:=by unfold elmX;rw[if_pos o1,if_pos hlt]
   rw[hres,vel];simp -dsimp -implicitDefEqProofs only[aw,slots0,V.copy,V.lend,V.cells,V.boxable,over,bldV,Nat.reduceLeDiff,eq_self,reduceIte,reduceCtorEq,Nat.reduceBEq,Nat.reduceLT,Nat.reduceEqDiff,Nat.reduceAdd,vex_eq,o1,decide_true,h.at2,mget_kvF,mres_fsz,decide_eq_true hlt];have hk:=hel ix.num.toNat (by omega);rw[show((ix.num.toNat:Nat):Int)=ix.num by omega]at hk;refine fun_ret (hk _) ?_;simp -dsimp -implicitDefEqProofs only[aw,V.copy,V.cells,V.boxable,over,bldV,Nat.reduceLeDiff,eq_self,reduceIte,Nat.reduceBEq,Nat.reduceLT,Nat.reduceEqDiff,Nat.reduceAdd];exact fin_ret (v:=.agg [.d (dint 2),.d (dint 0),.d (dstr (elemName a ix.num.toNat)),.d (.sl [])]) hb (by simp[rs87,resV,res1,aw,V.copy,V.lend,V.lend1,eq_self,reduceIte,Nat.reduceAdd]) rfl List.take_left ⟨rfl,rfl⟩
  ·have hres:elmX fs a ix=constE 0:=by unfold elmX;rw[if_pos o1,if_neg hlt]
   rw[hres,vcz];simp -dsimp -implicitDefEqProofs only[aw,slots0,V.copy,V.cells,V.boxable,over,bldV,Nat.reduceLeDiff,eq_self,reduceIte,reduceCtorEq,Nat.reduceBEq,Nat.reduceLT,Nat.reduceEqDiff,Nat.reduceAdd,vex_eq,o1,decide_true,h.at2,mget_kvF,mres_fsz,decide_eq_false hlt];exact fin_ret (v:=.agg [.d (dint 1),.d (dint 0),.d (dstr ⟨#[]⟩),.d (.sl [])]) hb (by simp[rs87,resV,res1,aw,V.copy,V.lend,V.lend1,eq_self,reduceIte,Nat.reduceAdd]) rfl List.take_left ⟨rfl,rfl⟩
 have hres:elmX fs a ix=chX a (fszN fs a) ix (fszN fs a):=by unfold elmX;rw[if_neg o1]
 rw[hres];have hcp:=fun σ=>copied_fun ix hok hsz σ;simp only[vex_eq]at hcp;have hd:decide (ix.op=1)=false:=decide_eq_false o1;generalize hN:fszN fs a=n at hn ⊢;rw[←hn]at h1 h8;have w0:IntKind.i64.wrap ((n:Int)-1)=(n:Int)-1:=wrap_i64 (by omega) (by omega);simp -dsimp -implicitDefEqProofs only[aw,slots0,V.copy,V.cells,V.boxable,over,bldV,Nat.reduceLeDiff,eq_self,reduceIte,reduceCtorEq,Nat.reduceBEq,Nat.reduceLT,Nat.reduceEqDiff,Nat.reduceAdd,vex_eq,hd,h.at2,mget_kvF,mres_fsz,←hn,w0];have ez:(n:Int)-1=(n:Int)-1-((0:Nat):Int):=by omega
 rw[ez];refine awp_for (R:=fun(j:Nat) ρ σ'=>∃l,(l=.d (.sl ((chX a n ix j).args.map dex))∨l=.nil∧j=0)∧ρ=[(1,.d (dstr a)),(5,.ptr σ.length 0),(6,.ptr (σ.length+1) 0),(7,.ptr (σ.length+2) 0),(8,vint .i64 ((n:Int)-1-(j:Int)))]∧σ'=σ++[[.d (dint ix.op),.d (dint ix.num),.d (dstr ix.name),.d (.sl (ix.args.map dex))],[.d (dint 0),.d (dint 0),.d (dstr ⟨#[]⟩),.nil],[.d (dint (chX a n ix j).op),.d (dint (chX a n ix j).num),.d (dstr (chX a n ix j).name),l]]) n ⟨.nil,.inr ⟨rfl,rfl⟩,rfl,rfl⟩ ?_ _;rintro j ρ' σ' hj ⟨l,hl,rfl,rfl⟩;by_cases hlt:j<n
 ·have ek:(n:Int)-1-(j:Int)=((n-(j+1):Nat):Int):=by omega
  have hge:(0:Int)≤((n-(j+1):Nat):Int):=by omega
  rw[ek];have hk:=hel (n-(j+1)) (by omega);have wd:=wrap_dec (n:=n) (j:=j) (by omega) hlt;have hch:chX a n ix (j+1)=.mk 22 0 ⟨#[]⟩ [.mk 15 0 ⟨#[]⟩ [ix,constE ((n-(j+1):Nat):Int)],elE a (n-(j+1)),chX a n ix j]:=rfl;have hC:j=0→(chX a n ix j).args=[]:=by rintro rfl;rfl
  generalize chX a n ix j=C at hch hl hC ⊢;generalize n-(j+1)=k at ek hge hk wd hch ⊢;simp -dsimp -implicitDefEqProofs only[aw,V.copy,V.lend,V.lend1,Nat.reduceLeDiff,eq_self,reduceIte,Nat.reduceBEq,Nat.reduceLT,Nat.reduceEqDiff,Nat.reduceAdd,decide_eq_true hge];refine fun_ret (hcp _) ?_;simp -dsimp -implicitDefEqProofs only[aw,V.copy,V.lend,V.cells,V.boxable,over,bldV,rowsOf,plains,V.plain,Nat.reduceLeDiff,eq_self,reduceIte,Nat.reduceBEq,Nat.reduceLT,Nat.reduceEqDiff,Nat.reduceAdd];refine calm_ret (hk _) ?_
  have hl2:(chX a n ix (j+1)).args.map dex=[[dint 15,dint 0,dstr ⟨#[]⟩,.sl [[dint ix.op,dint ix.num,dstr ix.name,.sl (ix.args.map dex)],[dint 1,dint k,dstr ⟨#[]⟩,.sl []]]],[dint 2,dint 0,dstr (elemName a k),.sl []],[dint C.op,dint C.num,dstr C.name,.sl (C.args.map dex)]]:=by
   rw[hch];simp only[Ex.args,List.map_cons,List.map_nil,dex_eq,constE,elE,Ex.op,Ex.num,Ex.name]
  rcases hl with rfl|⟨rfl,rfl⟩
  ·simp -dsimp -implicitDefEqProofs only[aw,V.copy,V.cells,V.boxable,over,bldV,rowsOf,plains,V.plain,Nat.reduceLeDiff,eq_self,reduceIte,Nat.reduceBEq,Nat.reduceLT,Nat.reduceEqDiff,Nat.reduceAdd,wd];exact⟨hlt,Nxt.drop4 (Nat.le_refl _) (boxesBelow_app hb rfl) (by simp[slotsBelow,V.under]) ⟨_,.inl rfl,rfl,by rw[hl2,hch];rfl⟩⟩
  ·have hC:=hC rfl;rw[hC]at hl2;simp -dsimp -implicitDefEqProofs only[aw,V.copy,V.cells,V.boxable,over,bldV,rowsOf,plains,V.plain,Nat.reduceLeDiff,eq_self,reduceIte,Nat.reduceBEq,Nat.reduceLT,Nat.reduceEqDiff,Nat.reduceAdd,wd];exact⟨hlt,Nxt.drop4 (Nat.le_refl _) (boxesBelow_app hb rfl) (by simp[slotsBelow,V.under]) ⟨_,.inl rfl,rfl,by rw[hl2,hch];rfl⟩⟩
 ·have hge:¬(0:Int)≤(n:Int)-1-(j:Int):=by omega
  have:j=n:=by omega
  subst this;obtain rfl:l=.d (.sl ((chX a j ix j).args.map dex)):=hl.resolve_right (by omega);simp -dsimp -implicitDefEqProofs only[aw,V.copy,V.cells,V.boxable,over,Nat.reduceLeDiff,eq_self,reduceIte,Nat.reduceBEq,Nat.reduceLT,Nat.reduceEqDiff,Nat.reduceAdd,decide_eq_false hge];rw[vex_eq];exact fin_ret (v:=.agg [.d (dint (chX a j ix j).op),.d (dint (chX a j ix j).num),.d (dstr (chX a j ix j).name),.d (.sl ((chX a j ix j).args.map dex))]) hb (by simp[rs87,resV,res1,aw,V.copy,V.lend,V.lend1,eq_self,reduceIte,Nat.reduceLT,Nat.reduceAdd]) rfl List.take_left ⟨rfl,rfl⟩
theorem scE_eq(fs:List (ByteArray×Int))(e:Ex):scE fs e=if e.op=24 then sumX e.name (fszN fs e.name-1)else if e.op=3 then(match scL fs e.args with|a::_=>elmX fs e.name a | []=>constE 0)else .mk e.op e.num e.name (scL fs e.args):=by cases e;rw[scE];rfl
theorem tE_eq(fs:List (ByteArray×Int))(e:Ex):tE fs e=if e.op=24 then 2*fszN fs e.name-1 else if e.op=3 then(if(cstL fs e.args).isSome=true then 1 else fszN fs e.name*(tL fs e.args+4)+1)else tL fs e.args+1:=by cases e;rw[tE];rfl
theorem tL_mem(fs:List (ByteArray×Int)){l:List Ex}{a:Ex}(h:a∈l):tE fs a≤tL fs l:=by
 induction l with
 | nil=>cases h
 | cons b r ih=>
  rw[tL];rcases List.mem_cons.1 h with rfl|h
  ·omega
  ·have:=ih h;omega
theorem tE_arg{fs:List (ByteArray×Int)}{e a:Ex}(hS:SOk fs e)(ha:a∈e.args)(h:tE fs e≤400):tE fs a≤400:=by
 have hS':=hS;rw[SOk_eq]at hS';have hSa:=(SOkL_mem fs).1 hS'.2.2.2.2.2 a ha;have hm:=tL_mem fs ha;rw[tE_eq]at h;by_cases o24:e.op=24
 ·rw[hS'.2.2.1 (.inr o24)]at ha;cases ha
 rw[if_neg o24]at h;by_cases o3:e.op=3
 ·rw[if_pos o3]at h;obtain⟨b,hb⟩:=hS'.2.1 o3;rw[hb]at ha;simp only[List.mem_singleton]at ha;subst ha;have hcl:cstL fs e.args=cstE fs a:=by rw[hb,cstL]
  rw[hcl]at h;cases hc:cstE fs a with
  | some c=>
   have h1:=sc_size fs a hSa;rw[(cst_sc fs a hSa).1 c hc]at h1;rw[←h1];unfold constE;simp[esize,esizes]
  | none=>
   rw[hc,if_neg (by simp)]at h;obtain⟨g1,g2,-⟩:=hS'.1 (.inl o3);have hn:=fszN_I fs g1;have:1*(tL fs e.args+4)≤fszN fs e.name*(tL fs e.args+4):=Nat.mul_le_mul_right _ (by omega);omega
 ·rw[if_neg o3]at h;omega
end Go.Proofs.YthoebpnbhgmoiaaGreatDoor
