import Derived.Test.YthoebpnbhgmoiaaGreatDoorIf1
set_option linter.unusedVariables false
set_option linter.unusedSimpArgs false
set_option linter.unusedSectionVars false
namespace Go.Proofs.YthoebpnbhgmoiaaGreatDoor
open Go.RowKit
theorem Nxt.drop1{n0:Nat}{R:Slots→List (List V)→Prop}{ρ:Slots}{σ:List (List V)}{a b:List V}(hn:n0≤σ.length)(hb:boxesBelow (σ++[a]).length (σ++[a])=true)(hs:slotsBelow (σ++[a]).length ρ=true)(hR:R ρ (σ++[a])):Nxt n0 R ρ (σ++[a,b]) .mk:=by
 have e:σ++[a,b]=(σ++[a])++[b]:=by simp
 rw[e];exact Nxt.drop (by rw[List.length_append];omega) hb hs hR
mutual
theorem nodesE_len:∀e:Ex,(nodesE e).length=esize e
 | .mk o n s l=>by rw[nodesE,esize,List.length_cons,nodesL_len l]
theorem nodesL_len:∀l:List Ex,(nodesL l).length=esizes l
 | []=>rfl
 | a::r=>by rw[nodesL,esizes,List.length_append,nodesE_len a,nodesL_len r]
end
theorem nodesL_take(l:List Ex){j:Nat}(h:j<l.length):nodesL (l.take (j+1))=nodesL (l.take j)++nodesE l[j]:=by
 induction l generalizing j with
 | nil=>simp at h
 | cons a r ih=>
  cases j with
  | zero=>simp[nodesL]
  | succ j=>simp only[List.take_succ_cons,nodesL,List.getElem_cons_succ];rw[ih (by simpa using h),List.append_assoc]
theorem nodesL_take_le(l:List Ex)(j:Nat):(nodesL (l.take j)).length≤esizes l:=by
 rw[nodesL_len]
 induction l generalizing j with
 | nil=>simp
 | cons a r ih=>cases j with
  | zero=>simp[esizes]
  | succ j=>rw[List.take_succ_cons,esizes,esizes];have:=ih j;omega
theorem nodesE_eq(e:Ex):nodesE e=e::nodesL e.args:=by cases e;rw[nodesE];rfl
theorem esize_eq(e:Ex):esize e=esizes e.args+1:=by cases e;rfl
theorem dex_all(l:List Ex):(l.map dex).all (fun r=>r.length==4)=true:=by
 rw[List.all_map];exact List.all_eq_true.2 fun a _=>by simp[Function.comp,dex_eq a]
theorem nodes_fun(e:Ex):esize e≤1000000→∀σ,Fun G 83 [vex e] σ (RetV (.d (.sl ((nodesE e).map dex))) σ):=by
 induction e using Ex.ind3 with
 | h e ih=>
 intro hs σ;have he:=esize_eq e;have hln:=len_le e.args;refine fun_code Tryz.func83 k83 (by simp only[vex_eq];rfl) fun hb hw=>?_;delta c83 oM oV kI kS kT kF;simp -dsimp -implicitDefEqProofs only[aw,slots0,V.copy,V.cells,V.boxable,rowsOf,plains,V.plain,Nat.reduceLeDiff,eq_self,reduceIte,reduceCtorEq,Nat.reduceBEq,Nat.reduceLT,Nat.reduceEqDiff,Nat.reduceAdd,vex_eq];refine awp_forK [3,9,10,11] (R:=fun(j:Nat) ρ σ'=>ρ=[(3,.own 38 4 ((e::nodesL (e.args.take j)).map dex)),(9,.d (.sl (e.args.map dex))),(10,vint .i64 e.args.length),(11,vint .i64 j)]∧σ'=σ++[[.d (dint e.op),.d (dint e.num),.d (dstr e.name),.d (.sl (e.args.map dex))]]) e.args.length ⟨by simp only[List.take_zero,nodesL,List.map_cons,List.map_nil,dex_eq e];rfl,rfl⟩ ?_ _;rintro j ρ' σ' hj ⟨rfl,rfl⟩;by_cases hlt:j<e.args.length
 ·have ht:=nodesL_take e.args hlt;have hle:=nodesL_take_le e.args (j+1);have hel:=args_size (List.getElem_mem hlt);rw[ht,List.length_append,nodesE_len]at hle;simp -dsimp -implicitDefEqProofs only[aw,V.copy,V.lend,V.lend1,V.cells,V.boxable,over,Nat.reduceLeDiff,eq_self,reduceIte,Nat.reduceBEq,Nat.reduceLT,Nat.reduceEqDiff,Nat.reduceAdd,Int.ofNat_lt,hlt,decide_true,List.getElem?_eq_getElem hlt,dex_eq e.args[j]];refine fun_ret (by simpa only[vex_eq]using ih _ (List.getElem_mem hlt) (by omega) _) ?_;simp -dsimp -implicitDefEqProofs only[aw,eq_self,reduceIte,Nat.reduceLT,Nat.reduceEqDiff,dex_all];refine onT_intro (by first|omega|(simp only[List.length_cons,nodesE_len]at *;omega)) ?_;simp -dsimp -implicitDefEqProofs only[aw,V.copy,eq_self,reduceIte,Nat.reduceBEq,Nat.reduceLT,Nat.reduceEqDiff,wrap_nat hlt (show e.args.length≤9223372036854775807 by omega)]
  refine⟨hlt,Nxt.drop1 (by simp) (boxesBelow_app hb rfl) (by simp[slotsBelow,V.under]) ⟨?_,rfl⟩⟩;rw[ht];simp only[List.map_cons,List.map_append]
 ·simp -dsimp -implicitDefEqProofs only[aw,V.copy,eq_self,reduceIte,Nat.reduceBEq,Nat.reduceLT,Nat.reduceEqDiff,Int.ofNat_lt,hlt,decide_false];rw[List.take_of_length_le (by omega)];exact fin_ret hb rfl rfl List.take_left ⟨by rw[nodesE_eq];rfl,rfl⟩
theorem copied_fun(e:Ex)(hn:okN e=true)(hs:esize e≤1000000)(σ:List (List V)):Fun G 113 [vex e] σ (RetV (vex e) σ):=by
 refine fun_code Tryz.func113 k113 (by simp only[vex_eq];rfl) fun hb hw=>?_;delta c113 oM oV kI kS kT kF;have h0:=fun σ=>fun_subst e ⟨#[]⟩ zeroE hs (by unfold zeroE;simp[esize,esizes]) σ;rw[sub_id zeroE e hn]at h0;simp only[vex_eq]at h0;simp -dsimp -implicitDefEqProofs only[aw,slots0,V.copy,V.lend,V.lend1,V.cells,V.boxable,bldV,Nat.reduceLeDiff,eq_self,reduceIte,reduceCtorEq,Nat.reduceBEq,Nat.reduceLT,Nat.reduceEqDiff,Nat.reduceAdd,vex_eq];refine fun_ret (h0 _) ?_;simp -dsimp -implicitDefEqProofs only[aw,V.copy,V.cells,V.boxable,over,Nat.reduceLeDiff,eq_self,reduceIte,Nat.reduceBEq,Nat.reduceLT,Nat.reduceEqDiff,Nat.reduceAdd,vex_eq];exact fin_ret (v:=vex e) hb (by rw[vex_eq];simp[rs113,resV,res1,aw,V.copy,V.lend,V.lend1,eq_self,reduceIte,Nat.reduceAdd]) (by rw[vex_eq];rfl) List.take_left ⟨by rw[vex_eq],rfl⟩
theorem under_none(op:Int)(e:Ex)(σ:List (List V)):Fun G 114 [.d (.lit (.pointer none)),.d (dint op),vex e] σ (RetV (vex (underE op none e)) σ):=by
 refine fun_code Tryz.func114 k114 (by simp only[vex_eq];rfl) fun hb hw=>?_;delta c114 oM oV kI kS kT kF;simp -dsimp -implicitDefEqProofs only[aw,slots0,V.copy,V.cells,V.boxable,over,Nat.reduceLeDiff,eq_self,reduceIte,reduceCtorEq,Nat.reduceBEq,Nat.reduceLT,Nat.reduceEqDiff,Nat.reduceAdd,vex_eq];exact fin_ret (v:=vex e) hb (by rw[vex_eq];simp[rs114,resV,res1,aw,V.copy,V.lend,V.lend1,eq_self,reduceIte,Nat.reduceAdd]) (by rw[vex_eq];rfl) List.take_left ⟨by rw[vex_eq];rfl,rfl⟩
def QB(σ:List (List V))(i:Nat)(c:Ex):Prop:=σ[i]? = some [.d (dint c.op),.d (dint c.num),.d (dstr c.name),.d (.sl (c.args.map dex))]
theorem QB.app{σ:List (List V)}{i:Nat}{c:Ex}(h:QB σ i c)(l:List (List V)):(σ++l)[i]? = some [.d (dint c.op),.d (dint c.num),.d (dstr c.name),.d (.sl (c.args.map dex))]:=by
 unfold QB at h;rw[List.getElem?_append_left (List.getElem?_eq_some_iff.1 h).1];exact h
theorem under_some(op:Int)(i:Nat)(c e:Ex)(σ:List (List V))(h:QB σ i c):Fun G 114 [.ptr i 0,.d (dint op),vex e] σ (RetV (vex (underE op (some c) e)) σ):=by
 refine fun_code Tryz.func114 k114 (by simp only[vex_eq];rfl) fun hb hw=>?_;delta c114 oM oV kI kS kT kF;simp -dsimp -implicitDefEqProofs only[aw,slots0,V.copy,V.cells,V.boxable,over,bldV,rowsOf,plains,V.plain,Nat.reduceLeDiff,eq_self,reduceIte,reduceCtorEq,Nat.reduceBEq,Nat.reduceLT,Nat.reduceEqDiff,Nat.reduceAdd,vex_eq,h.app];exact fin_ret (v:=vex (underE op (some c) e)) hb (by rw[vex_eq];simp[rs114,resV,res1,underE,Ex.op,Ex.num,Ex.name,Ex.args,dex_eq,aw,V.copy,V.lend,V.lend1,eq_self,reduceIte,Nat.reduceAdd]) (by rw[vex_eq];rfl) List.take_left ⟨by rw[vex_eq],rfl⟩
theorem subIs_take(nm:ByteArray)(b:Ex)(l:List It){j:Nat}(h:j<l.length):subIs nm b (l.take (j+1))=subIs nm b (l.take j)++[subI nm b l[j]]:=by
 rw[subIs_map,subIs_map,List.take_add_one,List.getElem?_eq_getElem h,List.map_append];rfl
theorem subIs_len(nm:ByteArray)(b:Ex)(l:List It):(subIs nm b l).length=l.length:=by rw[subIs_map,List.length_map]
theorem substituted_fun(nm:ByteArray)(b:Ex)(hb1:esize b≤1000000):∀l:List It,ibigs l≤1000000→∀σ,Fun G 115 [.d (ditl l),.d (dstr nm),vex b] σ (RetV (.d (ditl (subIs nm b l))) σ):=by
 refine its_ind2 fun l ih hs σ=>?_;have hln:=ibigs_len l;refine fun_code Tryz.func115 k115 (by simp only[vex_eq];rfl) fun hb hw=>?_;delta c115 oM oV kI kS kT kF;simp -dsimp -implicitDefEqProofs only[aw,slots0,V.copy,V.cells,V.boxable,eq_self,reduceIte,reduceCtorEq,Nat.reduceBEq,Nat.reduceLT,Nat.reduceEqDiff,Nat.reduceAdd,vex_eq];refine awp_forK [1,5,7,10,11,12] (R:=fun(j:Nat) ρ σ'=>ρ=[(1,.d (dstr nm)),(5,.ptr σ.length 0),(7,.own 51 12 ((subIs nm b (l.take j)).map dit)),(10,.d (ditl l)),(11,vint .i64 l.length),(12,vint .i64 j)]∧σ'=σ++[[.d (dint b.op),.d (dint b.num),.d (dstr b.name),.d (.sl (b.args.map dex))]]) l.length ⟨rfl,rfl⟩ ?_ _;rintro j ρ' σ' hj ⟨rfl,rfl⟩;by_cases hlt:j<l.length
 ·have hbig:=ibig_eq l[j];have hm:=ibigs_mem (List.getElem_mem hlt);obtain⟨i1,i2⟩:=ih _ (List.getElem_mem hlt);have h0:=fun σ=>fun_subst l[j].ex nm b (by omega) hb1 σ;simp only[vex_eq]at h0 i1 i2;simp -dsimp -implicitDefEqProofs only[aw,V.copy,V.lend,V.lend1,V.cells,V.boxable,over,Nat.reduceLeDiff,eq_self,reduceIte,Nat.reduceBEq,Nat.reduceLT,Nat.reduceEqDiff,Nat.reduceAdd,Int.ofNat_lt,hlt,decide_true,List.getElem?_eq_getElem hlt,dit_eq l[j]];refine fun_ret (h0 _) ?_;simp -dsimp -implicitDefEqProofs only[aw,V.copy,V.lend,V.lend1,V.cells,V.boxable,over,Nat.reduceLeDiff,eq_self,reduceIte,Nat.reduceBEq,Nat.reduceLT,Nat.reduceEqDiff,Nat.reduceAdd];refine fun_ret (i1 (by omega) _) ?_;simp -dsimp -implicitDefEqProofs only[aw,V.copy,V.lend,V.lend1,V.cells,V.boxable,over,Nat.reduceLeDiff,eq_self,reduceIte,Nat.reduceBEq,Nat.reduceLT,Nat.reduceEqDiff,Nat.reduceAdd]
  refine fun_ret (i2 (by omega) _) ?_;simp -dsimp -implicitDefEqProofs only[aw,V.copy,V.cells,V.boxable,over,rowsOf,plains,V.plain,Nat.reduceLeDiff,eq_self,reduceIte,Nat.reduceBEq,Nat.reduceLT,Nat.reduceEqDiff,Nat.reduceAdd];refine onT_intro (by first|omega|(simp only[subIs_len,List.length_take]at *;omega)) ?_;simp -dsimp -implicitDefEqProofs only[aw,V.copy,eq_self,reduceIte,Nat.reduceBEq,Nat.reduceLT,Nat.reduceEqDiff,wrap_nat hlt (show l.length≤9223372036854775807 by omega)];refine⟨hlt,Nxt.drop1 (by simp) (boxesBelow_app hb rfl) (by simp[slotsBelow,V.under]) ⟨?_,rfl⟩⟩;rw[subIs_take nm b l hlt,List.map_append];simp only[List.map_cons,List.map_nil,subI_eq,dit_eq (It.mk _ _ _ _ _ _ _ _ _),im_kind,im_ex,im_name,im_idx,im_ws,im_items,im_els,im_bef,im_aft]
 ·simp -dsimp -implicitDefEqProofs only[aw,V.copy,eq_self,reduceIte,Nat.reduceBEq,Nat.reduceLT,Nat.reduceEqDiff,Int.ofNat_lt,hlt,decide_false];rw[List.take_of_length_le (by omega)];first|exact fin_ret hb rfl rfl List.take_length ⟨rfl,rfl⟩|exact fin_ret hb rfl rfl List.take_left ⟨rfl,rfl⟩
theorem element_fun(a:ByteArray)(k:Nat)(hk:k<8)(ha:a.size≤1000)(σ:List (List V)):Fun G 86 [.d (dstr a),.d (dint k)] σ (RetV (vex (elE a k)) σ):=by
 refine fun_code Tryz.func86 k86 rfl fun hb hw=>?_;delta c86 oM oV kI kS kT kF;have w1:IntKind.i64.wrap (48+(k:Int))=((48+k:Nat):Int):=by rw[wrap_i64 (by omega) (by omega)];omega
 have w2:IntKind.u8.wrap ((48+k:Nat):Int)=((48+k:Nat):Int):=by simp[IntKind.wrap,IntKind.bits,IntKind.signed];omega
 simp -dsimp -implicitDefEqProofs only[aw,slots0,V.copy,eq_self,reduceIte,reduceCtorEq,Nat.reduceBEq,Nat.reduceLT,Nat.reduceEqDiff];have e1:(a++⟨#[91]⟩:ByteArray).size=a.size+1:=by rw[ByteArray.size_append];rfl
 have e2:(a++⟨#[91]⟩++⟨#[(48+k).toUInt8]⟩:ByteArray).size=a.size+2:=by rw[ByteArray.size_append,e1];rfl
 have e3:(⟨#[(48+k).toUInt8]⟩:ByteArray).size=1:=rfl;have e4:(⟨#[93]⟩:ByteArray).size=1:=rfl;have e5:(⟨#[91]⟩:ByteArray).size=1:=rfl;have ec:∀σ,cbsV σ (.d (.sl [[.lit (.int .u8 ((48+k:Nat):Int))]]))=some (.d (dstr ⟨#[(48+k).toUInt8]⟩)):=fun σ=>rfl;rw[if_pos (by rw[e5];omega)];simp -dsimp -implicitDefEqProofs only[aw,V.copy,V.cells,rowsOf,plains,V.plain,eq_self,reduceIte,reduceCtorEq,Nat.reduceBEq,Nat.reduceLT,Nat.reduceEqDiff,w1,w2,ec];rw[if_pos (by rw[e1,e3];omega)];simp -dsimp -implicitDefEqProofs only[aw,eq_self,reduceIte,reduceCtorEq,Nat.reduceLT,Nat.reduceEqDiff];rw[if_pos (by rw[e2,e4];omega)];simp -dsimp -implicitDefEqProofs only[aw,V.copy,V.cells,V.boxable,over,bldV,Nat.reduceLeDiff,eq_self,reduceIte,reduceCtorEq,Nat.reduceBEq,Nat.reduceLT,Nat.reduceEqDiff,Nat.reduceAdd]
 have:a++⟨#[91]⟩++⟨#[(48+k).toUInt8]⟩++⟨#[93]⟩=elemName a k:=by
  unfold elemName;apply ByteArray.ext;apply Array.ext';simp
 rw[this];exact fin_ret (v:=vex (elE a k)) hb (by rw[vex_eq];simp[rs86,resV,res1,elE,Ex.op,Ex.num,Ex.name,Ex.args,aw,V.copy,V.lend,V.lend1,eq_self,reduceIte,Nat.reduceAdd]) (by rw[vex_eq];rfl) List.take_left ⟨rfl,rfl⟩
end Go.Proofs.YthoebpnbhgmoiaaGreatDoor
