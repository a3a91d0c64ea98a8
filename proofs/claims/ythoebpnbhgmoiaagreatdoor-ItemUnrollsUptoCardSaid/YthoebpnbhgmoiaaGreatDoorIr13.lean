import Derived.Test.YthoebpnbhgmoiaaGreatDoorIr10
import Derived.Test.YthoebpnbhgmoiaaGreatDoorIt10
set_option linter.unusedVariables false
set_option linter.unusedSimpArgs false
set_option linter.unusedSectionVars false
namespace Go.Proofs.YthoebpnbhgmoiaaGreatDoor
open Go.RowKit
abbrev oit(l:List It):V:=.own 51 12 (l.map dit)
theorem rex1_len(fs:List (ByteArray×Int))(hz:∀s,fszN fs s≤8)(k:Nat)(x:It)(d:Nat)(q:Option Ex)(hf:frm1 x d)(hd:d≤5)(hs:isz x≤64):(rex1 fs k q x).length≤2097152:=by
 have hf1:frm [x] d:=by rw[frm];exact⟨hf,by rw[frm];trivial⟩
 have h1:=(rexp_lk fs (k+1) [x] d q hf1).le;have h2:=exps_len fs hz (k+1) [x] d q hf1 hd;have e:rexp fs (k+1) [x] q=rex1 fs k q x:=by rw[rexp_eq,lop,lop,List.nil_append];rfl
 rw[e]at h1;have hp:8^(5-d)≤8^5:=Nat.pow_le_pow_right (by omega) (by omega);have h3:iszs [x]*8^(5-d)≤64*8^5:=Nat.mul_le_mul (by rw[iszs,iszs];omega) hp;omega
theorem flat_pre(f:Nat→List It){j n:Nat}(h:j≤n):((List.range j).flatMap f).length≤((List.range n).flatMap f).length:=by
 obtain⟨m,rfl⟩:∃m,n=j+m:=⟨n-j,by omega⟩
 rw[List.range_add,List.flatMap_append,List.length_append];omega
theorem itE_dit(k:Int)(e:Ex):dit (itE k e)=[dint k,dint e.op,dint e.num,dstr e.name,.sl (e.args.map dex),dstr ⟨#[]⟩,dstr ⟨#[]⟩,.sl [],.sl [],.sl [],.sl [],.sl []]:=by rw[dit_eq];rfl
theorem oit_app(O X:List It):(O++X).map dit=O.map dit++X.map dit:=List.map_append
theorem dit_rows(X:List It):(X.map dit).all (fun r=>r.length==12)=true:=by rw[List.all_map];exact List.all_eq_true.2 fun a _=>by simp[dit_len]
def RF(c:Cl)(k:Nat):Prop:=∀(l:List It) (d:Nat) (q:Option Ex),iszs l≤k→iszs l≤64→frm l d→d≤5→ibigs l≤1000000→∀(σ:List (List V)),Fun G 42 [.d (ditl l),vcl c,vq q] σ (RetV (.d (ditl (rexp (fldS c) k l q))) σ)
set_option maxHeartbeats 8000000 in
theorem rexpand_fun(c:Cl)(hc:c.fields.length≤1000000)(hs:SmallF (fldS c)):∀k,RF c k:=by
 have hz:=hs.leN;intro k
 induction k with
 | zero=>
  intro l d q hk _ _ _ _ σ
  have hl:l=[]:=by
   cases l with
   | nil=>rfl
   | cons a r=>rw[iszs]at hk;have:=isz_pos a;omega
  subst hl;refine fun_code Tryz.func42 k42 rfl fun hb hw=>?_;delta c42 oM oV kI kS kT kF;simp -dsimp -implicitDefEqProofs only[aw,slots0,V.copy,V.cells,V.boxable,eq_self,reduceIte,reduceCtorEq,Nat.reduceBEq,Nat.reduceLT,Nat.reduceEqDiff,Nat.reduceAdd];refine awp_for (R:=fun(j:Nat) ρ σ'=>ρ=[(0,.d (ditl [])),(2,vq q),(4,.ptr σ.length 0),(7,oit []),(8,vint .i64 0)]∧σ'=σ++[clsC c]) 0 ⟨rfl,rfl⟩ ?_ _;rintro j ρ' σ' hj ⟨rfl,rfl⟩;have z0:decide ((0:Int)<((0:Nat):Int))=false:=rfl;simp -dsimp -implicitDefEqProofs only[aw,V.copy,eq_self,reduceIte,reduceCtorEq,Nat.reduceBEq,Nat.reduceLT,Nat.reduceEqDiff,z0];exact fin_ret (v:=.d (ditl [])) hb (by simp[rs42,resV,res1,aw,V.lend,eq_self,reduceIte]) rfl List.take_left ⟨rfl,rfl⟩
 | succ k ih=>
  intro l d q hk h64 hf hd hbg σ;have hln:=ibigs_len l;refine fun_code Tryz.func42 k42 rfl fun hb hw=>?_;delta c42 oM oV kI kS kT kF
  have hend:∀(out:List It) ρ S,rexp (fldS c) (k+1) l q=out→ρ=[(6,V.d (ditl out))]→S=σ++[clsC c]→fin σ.length rs42 (RetV (.d (ditl (rexp (fldS c) (k+1) l q))) σ) .ret ρ S:=fun out ρ S e1 e2 e3=>by
   subst e2 e3;rw[e1];exact fin_ret (v:=.d (ditl out)) hb (by simp[rs42,resV,res1,aw,V.lend,eq_self,reduceIte]) rfl List.take_left ⟨rfl,rfl⟩
  simp -dsimp -implicitDefEqProofs only[aw,slots0,V.copy,V.cells,V.boxable,eq_self,reduceIte,reduceCtorEq,Nat.reduceBEq,Nat.reduceLT,Nat.reduceEqDiff,Nat.reduceAdd];refine awp_for (R:=fun(j:Nat) ρ σ'=>∃out:List It,out.length≤3000000∧rexp (fldS c) (k+1) l q=lop (rex1 (fldS c) k q) (l.drop j) out∧ρ=[(0,.d (ditl l)),(2,vq q),(4,.ptr σ.length 0),(7,oit out),(8,vint .i64 j)]∧σ'=σ++[clsC c]) l.length ⟨[],by simp,rexp_eq _ _ _ _,rfl,rfl⟩ ?_ _;rintro j ρ' σ' hj ⟨out,ho,hr,rfl,rfl⟩;by_cases hlt:j<l.length
  case neg=>
   rw[List.drop_eq_nil_of_le (by omega),lop]at hr;simp -dsimp -implicitDefEqProofs only[aw,V.copy,eq_self,reduceIte,reduceCtorEq,Nat.reduceBEq,Nat.reduceLT,Nat.reduceEqDiff,Int.ofNat_lt,hlt,decide_false];exact hend out _ _ hr rfl rfl
  by_cases h4:out.length≤400
  case neg=>
   rw[List.drop_eq_getElem_cons hlt,lop,if_neg h4]at hr;have h4':¬((out.length:Nat):Int)≤400:=by omega
   simp -dsimp -implicitDefEqProofs only[aw,V.copy,cond_true,eq_self,reduceIte,reduceCtorEq,Nat.reduceBEq,Nat.reduceLT,Nat.reduceEqDiff,Int.ofNat_lt,hlt,decide_true,decide_eq_false h4'];exact hend out _ _ hr rfl rfl
  rw[List.drop_eq_getElem_cons hlt,lop,if_pos h4]at hr;have h4':((out.length:Nat):Int)≤400:=by omega
  have hm:=ibigs_mem (List.getElem_mem hlt);have hmz:=iszs_mem (List.getElem_mem hlt);have hfx:=frm_mem hf (List.getElem_mem hlt);have hxx:l[j]? = some l[j]:=List.getElem?_eq_getElem hlt;have wj:=wrap_nat hlt (show l.length≤9223372036854775807 by omega);generalize l[j]=x at hr hm hmz hfx hxx;have hbx:=ibig_eq x;have hzx:=isz_eq x;have hlen:=rex1_len (fldS c) hz k x d q hfx hd (by omega);obtain⟨hk6,-,hd4,hf1,hf2⟩:=(frm1_eq x d).1 hfx;have e1:∀a:List V,σ++[clsC c,a]=(σ++[clsC c])++[a]:=fun a=>by simp
  have e2:∀a b:List V,σ++[clsC c,a,b]=(σ++[clsC c])++[a,b]:=fun a b=>by simp
  by_cases k12:x.kind=1∨x.kind=2
  ·have hx1:rex1 (fldS c) k q x=[itE x.kind (underE 21 q x.ex)]:=by unfold rex1;rw[if_pos k12]
   have hun:=fun σ=>runder_fun 21 q x.ex σ;rw[hx1]at hr;generalize underE 21 q x.ex=E at hr hun;simp only[vex_eq]at hun;have ha:(out++[itE x.kind E]).map dit=out.map dit++[[dint x.kind,dint E.op,dint E.num,dstr E.name,.sl (E.args.map dex),dstr ⟨#[]⟩,dstr ⟨#[]⟩,.sl [],.sl [],.sl [],.sl [],.sl []]]:=by rw[oit_app,List.map_cons,List.map_nil,itE_dit]
   rcases k12 with k1|k1
   all_goals
    rw[k1]at ha;simp -dsimp -implicitDefEqProofs only[aw,V.copy,V.lend,V.lend1,V.cells,V.boxable,over,Nat.reduceLeDiff,cond_true,eq_self,reduceIte,reduceCtorEq,Nat.reduceBEq,Nat.reduceLT,Nat.reduceEqDiff,Nat.reduceAdd,Nat.reduceSub,Int.ofNat_lt,hlt,decide_true,h4',hxx,dit_eq x,k1,Int.reduceEq,decide_false];refine calm_ret (hun _) ?_;simp -dsimp -implicitDefEqProofs only[aw,V.copy,V.cells,over,bldV,rowsOf,plains,V.plain,Nat.reduceLeDiff,eq_self,reduceIte,reduceCtorEq,Nat.reduceBEq,Nat.reduceLT,Nat.reduceEqDiff,Nat.reduceAdd,Nat.reduceSub];refine onT_intro (by first|omega|(simp only[List.length_map]at *;omega)) ?_;simp -dsimp -implicitDefEqProofs only[aw,V.copy,eq_self,reduceIte,reduceCtorEq,Nat.reduceBEq,Nat.reduceLT,Nat.reduceEqDiff,wj];rw[e1]
    exact⟨hlt,Nxt.drop (by simp) (boxesBelow_app hb rfl) (by simp[slotsBelow,V.under]) ⟨_,by rw[List.length_append];simp;omega,hr,by rw[k1];simp only[oit];rw[ha],rfl⟩⟩
  by_cases k4:x.kind=4
  ·have hx1:rex1 (fldS c) k q x=rexp (fldS c) k x.items (some (underE 19 q x.ex))++rexp (fldS c) k x.els (some (underE 19 q (notE x.ex))):=by unfold rex1;rw[if_neg k12,if_pos k4]
   have hu1:=fun σ=>runder_fun 19 q x.ex σ;have hu2:=fun σ=>runder_fun 19 q (notE x.ex) σ;have vn:vex (notE x.ex)=.agg [.d (dint 4),.d (dint 0),.d (dstr ⟨#[]⟩),.d (.sl [[dint x.ex.op,dint x.ex.num,dstr x.ex.name,.sl (x.ex.args.map dex)]])]:=by rw[←dex_eq x.ex,vex_eq];rfl
   rw[vn]at hu2;rw[hx1]at hr hlen;generalize underE 19 q x.ex=c1 at hr hu1 hlen;generalize underE 19 q (notE x.ex)=c2 at hr hu2 hlen;have hA:=fun σ=>ih x.items (d+1) (some c1) (by omega) (by omega) hf1 (by omega) (by omega) σ;have hB:=fun σ=>ih x.els (d+1) (some c2) (by omega) (by omega) hf2 (by omega) (by omega) σ;simp only[vq,Option.toList_some,List.map_cons,List.map_nil,dex_eq c1,dex_eq c2]at hA hB;generalize rexp (fldS c) k x.items (some c1)=A at hr hA hlen;generalize rexp (fldS c) k x.els (some c2)=B at hr hB hlen;rw[List.length_append]at hlen;have rA:=dit_rows A;have rB:=dit_rows B;simp only[vex_eq]at hu1 hu2
   simp -dsimp -implicitDefEqProofs only[aw,V.copy,V.lend,V.lend1,V.cells,V.boxable,over,Nat.reduceLeDiff,cond_true,eq_self,reduceIte,reduceCtorEq,Nat.reduceBEq,Nat.reduceLT,Nat.reduceEqDiff,Nat.reduceAdd,Nat.reduceSub,Int.ofNat_lt,hlt,decide_true,h4',hxx,dit_eq x,k4,Int.reduceEq,decide_false];refine calm_ret (hu1 _) ?_;simp -dsimp -implicitDefEqProofs only[aw,V.copy,V.lend,V.lend1,V.cells,rowsOf,plains,V.plain,eq_self,reduceIte,reduceCtorEq,Nat.reduceBEq,Nat.reduceLT,Nat.reduceEqDiff,Nat.reduceAdd,Nat.reduceSub];refine calm_ret (hA _) ?_;simp -dsimp -implicitDefEqProofs only[aw,eq_self,reduceIte,reduceCtorEq,Nat.reduceLT,Nat.reduceEqDiff,Nat.reduceSub,rA];refine onT_intro (by first|omega|(simp only[List.length_map]at *;omega)) ?_
   simp -dsimp -implicitDefEqProofs only[aw,V.copy,V.lend,V.lend1,V.cells,V.boxable,over,bldV,rowsOf,plains,V.plain,Nat.reduceLeDiff,eq_self,reduceIte,reduceCtorEq,Nat.reduceBEq,Nat.reduceLT,Nat.reduceEqDiff,Nat.reduceAdd,Nat.reduceSub];refine calm_ret (hu2 _) ?_;simp -dsimp -implicitDefEqProofs only[aw,V.copy,V.lend,V.lend1,V.cells,rowsOf,plains,V.plain,eq_self,reduceIte,reduceCtorEq,Nat.reduceBEq,Nat.reduceLT,Nat.reduceEqDiff,Nat.reduceAdd,Nat.reduceSub];refine calm_ret (hB _) ?_;simp -dsimp -implicitDefEqProofs only[aw,eq_self,reduceIte,reduceCtorEq,Nat.reduceLT,Nat.reduceEqDiff,Nat.reduceSub,rB];refine onT_intro (by first|omega|(simp only[List.length_map,List.length_append]at *;omega)) ?_;simp -dsimp -implicitDefEqProofs only[aw,V.copy,eq_self,reduceIte,reduceCtorEq,Nat.reduceBEq,Nat.reduceLT,Nat.reduceEqDiff,wj];rw[e2]
   exact⟨hlt,Nxt.drop (by simp) (boxesBelow_app hb rfl) (by simp[slotsBelow,V.under]) ⟨_,by rw[List.length_append,List.length_append];omega,hr,by simp only[oit,List.map_append],rfl⟩⟩
  by_cases k5:x.kind=5
  ·have hx1:rex1 (fldS c) k q x=(List.range (fszN (fldS c) x.name)).flatMap fun(j:Nat)=>rexp (fldS c) k (subIs x.idx (constE (j:Int)) x.items) q:=by unfold rex1;rw[if_neg k12,if_neg k4,if_pos k5]
   have hle:=hs.le x.name;have hn:∃n:Nat,n≤8∧(fsz (fldS c) x.name).getD 0=(n:Int)∧fszN (fldS c) x.name=n:=⟨fszN (fldS c) x.name,hz _,by unfold fszN;unfold fszI at hle;omega,rfl⟩
   obtain⟨n,hn8,hn1,hn2⟩:=hn;rw[hx1,hn2]at hr hlen;simp -dsimp -implicitDefEqProofs only[aw,V.copy,V.lend,V.lend1,V.cells,V.boxable,over,Nat.reduceLeDiff,cond_true,eq_self,reduceIte,reduceCtorEq,Nat.reduceBEq,Nat.reduceLT,Nat.reduceEqDiff,Nat.reduceAdd,Int.ofNat_lt,hlt,decide_true,h4',hxx,dit_eq x,k5,Int.reduceEq,decide_false];refine fun_ret (field_fun c x.name hc _) ?_;simp -dsimp -implicitDefEqProofs only[aw,V.copy,eq_self,reduceIte,reduceCtorEq,Nat.reduceBEq,Nat.reduceLT,Nat.reduceEqDiff,hn1]
   refine awp_for (R:=fun(i:Nat) ρ σ'=>ρ=[(0,.d (ditl l)),(2,vq q),(4,.ptr σ.length 0),(7,oit (out++(List.range i).flatMap fun(j:Nat)=>rexp (fldS c) k (subIs x.idx (constE (j:Int)) x.items) q)),(8,vint .i64 j),(9,.ptr (σ.length+1) 0),(11,.d (dint n)),(13,vint .i64 i)]∧
    σ'=σ++[clsC c,[.d (dint 5),.d (dint x.ex.op),.d (dint x.ex.num),.d (dstr x.ex.name),.d (.sl (x.ex.args.map dex)),.d (dstr x.name),.d (dstr x.idx),.d (.sl (x.ws.map dwt)),.d (.sl (x.items.map dit)),.d (.sl (x.els.map dit)),.d (.sl (x.bef.map fun s=>[dstr s])),.d (.sl (x.aft.map fun s=>[dstr s]))]]) n ⟨by simp,rfl⟩ ?_ _
   rintro i ρ' σ' hi ⟨rfl,rfl⟩;by_cases hit:i<n
   ·have hpre:=flat_pre (fun(j:Nat)=>rexp (fldS c) k (subIs x.idx (constE (j:Int)) x.items) q) (show i+1≤n by omega)
    have hst:(List.range (i+1)).flatMap (fun(j:Nat)=>rexp (fldS c) k (subIs x.idx (constE (j:Int)) x.items) q)=(List.range i).flatMap (fun(j:Nat)=>rexp (fldS c) k (subIs x.idx (constE (j:Int)) x.items) q)++rexp (fldS c) k (subIs x.idx (constE (i:Int)) x.items) q:=by
     rw[List.range_succ,List.flatMap_append,List.flatMap_cons,List.flatMap_nil,List.append_nil]
    have hib:=ibigs_sub x.idx (i:Int) x.items;have hcn:=fun σ=>const_fun (i:Int) σ;have hrp:=fun σ=>replaced_fun x.idx (constE (i:Int)) x.items (by omega) (d+1) hf1 σ;have hA:=fun σ=>ih (subIs x.idx (constE (i:Int)) x.items) (d+1) q (by rw[subIs_size];omega) (by rw[subIs_size];omega) (frm_sub _ _ _ _ hf1) (by omega) (by omega) σ;rw[hst,List.length_append]at hpre;generalize rexp (fldS c) k (subIs x.idx (constE (i:Int)) x.items) q=A at hpre hst hA;generalize (List.range i).flatMap (fun(j:Nat)=>rexp (fldS c) k (subIs x.idx (constE (j:Int)) x.items) q)=P at hpre hst ⊢;generalize subIs x.idx (constE (i:Int)) x.items=Y at hrp hA;generalize constE (i:Int)=C at hcn hrp;have rA:=dit_rows A;have wi:=wrap_nat hit (show n≤9223372036854775807 by omega);simp only[vex_eq]at hcn hrp
    simp -dsimp -implicitDefEqProofs only[aw,V.copy,V.lend,Nat.reduceLeDiff,eq_self,reduceIte,reduceCtorEq,Nat.reduceBEq,Nat.reduceLT,Nat.reduceEqDiff,Nat.reduceAdd,Nat.reduceSub,Int.ofNat_lt,hit,decide_true];refine calm_ret (hcn _) ?_;simp -dsimp -implicitDefEqProofs only[aw,V.lend,V.lend1,eq_self,reduceIte,reduceCtorEq,Nat.reduceLT,Nat.reduceEqDiff,Nat.reduceSub];refine calm_ret (hrp _) ?_;simp -dsimp -implicitDefEqProofs only[aw,V.copy,V.lend,V.lend1,Nat.reduceLeDiff,eq_self,reduceIte,reduceCtorEq,Nat.reduceLT,Nat.reduceEqDiff,Nat.reduceAdd,Nat.reduceSub];refine calm_ret (hA _) ?_;simp -dsimp -implicitDefEqProofs only[aw,eq_self,reduceIte,reduceCtorEq,Nat.reduceLT,Nat.reduceEqDiff,Nat.reduceSub,rA];refine onT_intro (by first|omega|(simp only[List.length_map,List.length_append]at *;omega)) ?_
    simp -dsimp -implicitDefEqProofs only[aw,V.copy,eq_self,reduceIte,reduceCtorEq,Nat.reduceBEq,Nat.reduceLT,Nat.reduceEqDiff,wi];exact⟨hit,Nxt.same (by simp) (boxesBelow_app hb rfl) (by simp[slotsBelow,V.under]) ⟨by rw[hst];simp only[oit,List.map_append,List.append_assoc],rfl⟩⟩
   ·have hin:i=n:=by omega
    subst hin;generalize (List.range i).flatMap (fun(j:Nat)=>rexp (fldS c) k (subIs x.idx (constE (j:Int)) x.items) q)=P at hr hlen ⊢;simp -dsimp -implicitDefEqProofs only[aw,V.copy,eq_self,reduceIte,reduceCtorEq,Nat.reduceBEq,Nat.reduceLT,Nat.reduceEqDiff,Int.ofNat_lt,hit,decide_false,wj];rw[e1];exact⟨hlt,Nxt.drop (by simp) (boxesBelow_app hb rfl) (by simp[slotsBelow,V.under]) ⟨_,by rw[List.length_append];omega,hr,rfl,rfl⟩⟩
  ·have hx1:rex1 (fldS c) k q x=[x]:=by unfold rex1;rw[if_neg k12,if_neg k4,if_neg k5]
   rw[hx1]at hr;have n1:¬x.kind=1:=fun h=>k12 (.inl h);have n2:¬x.kind=2:=fun h=>k12 (.inr h);have ha:(out++[x]).map dit=out.map dit++[dit x]:=by rw[oit_app];rfl
   rw[dit_eq x]at ha;simp -dsimp -implicitDefEqProofs only[aw,V.copy,V.cells,V.boxable,over,rowsOf,plains,V.plain,Nat.reduceLeDiff,cond_true,eq_self,reduceIte,reduceCtorEq,Nat.reduceBEq,Nat.reduceLT,Nat.reduceEqDiff,Nat.reduceAdd,Int.ofNat_lt,hlt,decide_true,h4',hxx,dit_eq x,decide_eq_false n1,decide_eq_false n2,decide_eq_false k4,decide_eq_false k5];refine onT_intro (by first|omega|(simp only[List.length_map]at *;omega)) ?_;simp -dsimp -implicitDefEqProofs only[aw,V.copy,eq_self,reduceIte,reduceCtorEq,Nat.reduceBEq,Nat.reduceLT,Nat.reduceEqDiff,wj];rw[e1];exact⟨hlt,Nxt.drop (by simp) (boxesBelow_app hb rfl) (by simp[slotsBelow,V.under]) ⟨_,by rw[List.length_append];simp;omega,hr,by simp only[oit];rw[ha],rfl⟩⟩
end Go.Proofs.YthoebpnbhgmoiaaGreatDoor
