import Derived.Test.YthoebpnbhgmoiaaGreatDoorIw3
import Derived.Test.YthoebpnbhgmoiaaGreatDoorSha
set_option linter.unusedVariables false
set_option linter.unusedSimpArgs false
set_option linter.unusedSectionVars false
namespace Go.Proofs.YthoebpnbhgmoiaaGreatDoor
open Go.RowKit
def PV(x:It)(d:Nat)(_:List ByteArray):Prop:=ibig x≤1000000∧shapeE x d=0∧rvl x.items (d+1)=0∧rvl x.els (d+1)=0
theorem pv_mem{l:List It}{d:Nat}(bd:List ByteArray)(h:rvl l d=0)(hb:ibigs l≤1000000):∀x,x∈l→PV x d bd:=fun x hx=>by
 obtain⟨h1,h2,h3⟩:=vldX_mem h hx;exact⟨by have:=ibigs_mem hx;omega,h1,h2,h3⟩
theorem pv_here:Here PV:=by
 intro x d bd ⟨h0,h1,h2,h3⟩;have hb:=ibig_eq x;by_cases hk:x.kind=4∨x.kind=5
 ·have hd:dep x d=d+1:=if_pos hk;rw[hd];exact⟨pv_mem _ h2 (by omega),pv_mem _ h3 (by omega)⟩
 ·obtain⟨-,hp,-⟩:=shape_zero h1;obtain⟨g1,g2⟩:=plain_leaf hp hk;rw[g1,g2];exact⟨fun y hy=>(by cases hy),fun y hy=>(by cases hy)⟩
theorem here_big:Here fun x _ _=>ibig x≤1000000:=by
 intro x d bd h;have hb:=ibig_eq x;exact⟨fun y hy=>by have:=ibigs_mem hy;omega,fun y hy=>by have:=ibigs_mem hy;omega⟩
theorem shape_vst(σ:List (List V))(hb:boxesBelow σ.length σ=true):Vst (fun(_:Unit) x d bd=>(shapeW x d bd,())) (fun x _ _=>ibig x≤1000000) (.fn 63 []) (fun _ τ=>τ=σ) σ.length where
 len:=fun s τ h=>by rw[h]
 bb:=fun s τ h=>by rw[h];exact hb
 und:=rfl
 val:=.inl ⟨_,_,rfl⟩
 call:=fun s τ x d bd h hp l=>by
  subst h;exact(shape_fun x d bd hp (τ++l)).mono fun o σ' ⟨e1,e2⟩=>⟨τ,rfl,e2,e1⟩
theorem valid_item(l:List It)(hl:ibigs l≤900000)(σ:List (List V)):Fun G 31 [.d (ditl l)] σ (RetV (.d (dint (validI l))) σ):=by
 refine fun_code Tryz.func31 k31 rfl fun hb hw=>?_;delta c31 oM oV kI kS kT kF;unfold validI;simp -dsimp -implicitDefEqProofs only[aw,slots0,V.copy,V.lend,eq_self,reduceIte,reduceCtorEq,Nat.reduceBEq,Nat.reduceLT];refine fun_ret (isize_fun l (by have:=isz_big l;omega) _) ?_;by_cases h:64<iszs l
 ·have h':(64:Int)<(iszs l:Int):=by omega
  rw[if_pos h];simp -dsimp -implicitDefEqProofs only[aw,V.copy,V.lend,bldV,eq_self,reduceIte,reduceCtorEq,Nat.reduceBEq,Nat.reduceLT,Nat.reduceEqDiff,decide_eq_true h'];first|exact fin_ret hb rfl rfl List.take_length ⟨rfl,rfl⟩|exact fin_ret hb rfl rfl List.take_left ⟨rfl,rfl⟩
 ·have h':¬(64:Int)<(iszs l:Int):=by omega
  rw[if_neg h];simp -dsimp -implicitDefEqProofs only[aw,V.copy,V.lend,V.lend1,bldV,eq_self,reduceIte,reduceCtorEq,Nat.reduceBEq,Nat.reduceLT,Nat.reduceEqDiff,decide_eq_false h'];have:=walk_fun _ _ here_big _ l (by omega) 0 [] _ _ (shape_vst σ hb) (fun x hx=>by have:=ibigs_mem hx;omega) (by omega) (by simp;omega) () σ rfl;refine fun_mono this ?_;rintro o σ' ⟨τ,rfl,rfl,rfl⟩;rw[retK_ret,List.append_nil];have e:(wks (fun(_:Unit) x d bd=>(shapeW x d bd,())) l 0 [] ()).1=rvl l 0:=valid_same l 0 [];rw[e];simp -dsimp -implicitDefEqProofs only[aw,V.copy,eq_self,reduceIte,reduceCtorEq,Nat.reduceBEq,Nat.reduceLT,Nat.reduceEqDiff];first|exact fin_ret hb rfl rfl List.take_length ⟨rfl,rfl⟩|exact fin_ret hb rfl rfl List.take_left ⟨rfl,rfl⟩
theorem shape_body{x:It}{d:Nat}(h:shapeE x d=0):(if x.kind=3 then distE x else if x.kind=6 then solveE x else if x.kind=5 then eachE x else validE x.ex)=0:=by
 unfold shapeE at h;split at h
 ·cases h
 ·exact h
theorem own_vars{x:It}{d:Nat}(h:shapeE x d=0)(hk:x.kind=3∨x.kind=6)(bd:List ByteArray):∀s,s∈ownN x bd→isVarB s=true:=by
 have hs:=shape_body h;intro s hm;unfold ownN at hm;rcases hk with k|k
 ·rw[if_pos k,distE_eq]at hs;rw[if_neg (by omega),if_pos (.inl k)]at hm;simp only[List.mem_singleton]at hm;subst hm;split at hs
  ·rename_i h1;exact absurd hs h1
  ·split at hs
   ·assumption
   ·cases hs
 ·rw[if_neg (by omega),if_pos k]at hs;rw[if_neg (by omega),if_neg (by omega),if_pos k]at hm;unfold solveE at hs;split at hs
  ·cases hs
  ·split at hs
   ·rename_i h2;exact List.all_eq_true.1 h2 s hm
   ·cases hs
theorem own_len(x:It)(bd:List ByteArray)(hk:x.kind=3∨x.kind=6):(ownN x bd).length≤ibig x:=by
 have:=ibig_eq x;unfold ownN;rcases hk with k|k
 ·rw[if_neg (by omega),if_pos (.inl k)];simp;omega
 ·rw[if_neg (by omega),if_neg (by omega),if_pos k,List.length_append];omega
theorem one_own(spl:ByteArray→Option (ByteArray×Int))(fs:List (ByteArray×Int))(x:It)(d:Nat)(bd:List ByteArray)(hk:x.kind=3∨x.kind=6):oneE spl fs x d bd=if(ownN x bd).all (eithB spl fs)=true then 0 else 7:=by
 rcases hk with k|k
 ·have e:ownN x bd=[x.name]:=by unfold ownN;rw[if_neg (by omega),if_pos (.inl k)]
  unfold oneE;rw[e,if_pos k];simp
 ·have e:ownN x bd=x.bef++x.aft:=by unfold ownN;rw[if_neg (by omega),if_neg (by omega),if_pos k]
  unfold oneE;rw[e,if_neg (by omega),if_pos k]
set_option maxHeartbeats 4000000 in
theorem constraint_fun(i:Nat)(fs:List (ByteArray×Int))(hp:Sz8 fs)(x:It)(d:Nat)(bd:List ByteArray)(hbig:ibig x≤1000000)(hsh:shapeE x d=0)(σ:List (List V))(h:FB σ i fs):
 Fun G 38 [.mp i,vit x,vplc d bd] σ (RetV (.d (dint (oneE splE fs x d bd))) σ):=by
 have hb0:=ibig_eq x;have hil:=h.lt;refine fun_code Tryz.func38 k38 (by simp only[vit_eq];rfl) fun hb hw=>?_;delta c38 oM oV kI kS kT kF;by_cases k36:x.kind=3∨x.kind=6
 ·rw[one_own splE fs x d bd k36];have hv:=own_vars hsh k36 bd;have hlen:=own_len x bd k36;have hmn:=fun σ=>mentioned_fun x d bd hbig σ;simp only[vit_eq,vplc]at hmn;generalize ownN x bd=L at hv hlen hmn ⊢;rcases k36 with k|k
  all_goals
   simp -dsimp -implicitDefEqProofs only[aw,slots0,V.copy,V.lend,V.lend1,V.cells,V.boxable,Nat.reduceLeDiff,eq_self,reduceIte,reduceCtorEq,Nat.reduceBEq,Nat.reduceLT,Nat.reduceEqDiff,Nat.reduceAdd,vit_eq,k,Int.reduceEq,decide_true,decide_false];rw[k]at hmn;refine fun_ret (hmn _) ?_;simp -dsimp -implicitDefEqProofs only[aw,V.copy,eq_self,reduceIte,reduceCtorEq,Nat.reduceBEq,Nat.reduceLT,Nat.reduceEqDiff,dstrs]
   refine awp_forK [0,20,21,22] (R:=fun(j:Nat) ρ σ'=>ρ=[(0,.mp i),(20,.d (.sl (L.map fun s=>[dstr s]))),(21,vint .i64 L.length),(22,vint .i64 j)]∧L.all (eithB splE fs)=(L.drop j).all (eithB splE fs)∧
    σ'=σ++[[.d (dint x.kind),.d (dint x.ex.op),.d (dint x.ex.num),.d (dstr x.ex.name),.d (.sl (x.ex.args.map dex)),.d (dstr x.name),.d (dstr x.idx),.d (.sl (x.ws.map dwt)),.d (.sl (x.items.map dit)),.d (.sl (x.els.map dit)),.d (.sl (x.bef.map fun s=>[dstr s])),.d (.sl (x.aft.map fun s=>[dstr s]))],[.d (dint d),.d (.sl (bd.map fun s=>[dstr s]))]]) L.length ⟨rfl,rfl,by rw[k]⟩ ?_ _
   rintro j ρ' σ' hj ⟨rfl,hr,rfl⟩;by_cases hlt:j<L.length
   ·have ht:(L.drop j).all (eithB splE fs)=(eithB splE fs L[j]&&(L.drop (j+1)).all (eithB splE fs)):=by rw[List.drop_eq_getElem_cons hlt,List.all_cons]
    rw[ht]at hr;have wj:=wrap_nat hlt (show L.length≤9223372036854775807 by omega);simp -dsimp -implicitDefEqProofs only[aw,V.copy,V.lend,Nat.reduceLeDiff,eq_self,reduceIte,reduceCtorEq,Nat.reduceBEq,Nat.reduceLT,Nat.reduceEqDiff,Int.ofNat_lt,hlt,decide_true,List.getElem?_eq_getElem hlt];refine fun_ret (either_fun i fs L[j] (hv _ (List.getElem_mem hlt)) hp _ (h.app _)) ?_;cases he:eithB splE fs L[j]with
    | true=>
     rw[if_pos rfl];simp -dsimp -implicitDefEqProofs only[aw,V.copy,eq_self,reduceIte,reduceCtorEq,Nat.reduceBEq,Nat.reduceLT,Nat.reduceEqDiff,wj,decide_true];exact⟨hlt,Nxt.same (by simp) (boxesBelow_app hb rfl) (by simp[slotsBelow,V.under];omega) ⟨rfl,by rw[hr,he,Bool.true_and],rfl⟩⟩
    | false=>
     rw[if_neg Bool.false_ne_true];rw[hr,he,Bool.false_and,if_neg Bool.false_ne_true];simp -dsimp -implicitDefEqProofs only[aw,V.copy,eq_self,reduceIte,reduceCtorEq,Nat.reduceBEq,Nat.reduceLT,Nat.reduceEqDiff,Int.reduceEq,decide_false];first|exact fin_ret hb rfl rfl List.take_length ⟨rfl,rfl⟩|exact fin_ret hb rfl rfl List.take_left ⟨rfl,rfl⟩
   ·rw[List.drop_eq_nil_of_le (by omega)]at hr;rw[hr,List.all_nil,if_pos rfl];simp -dsimp -implicitDefEqProofs only[aw,V.copy,eq_self,reduceIte,reduceCtorEq,Nat.reduceBEq,Nat.reduceLT,Nat.reduceEqDiff,Int.ofNat_lt,hlt,decide_false];first|exact fin_ret hb rfl rfl List.take_length ⟨rfl,rfl⟩|exact fin_ret hb rfl rfl List.take_left ⟨rfl,rfl⟩
 have n3:¬x.kind=3:=fun hh=>k36 (.inl hh);have n6:¬x.kind=6:=fun hh=>k36 (.inr hh);by_cases k5:x.kind=5
 ·have e1:oneE splE fs x d bd=if arrE fs x.name≠0 then arrE fs x.name else if(fsz fs x.idx).isSome=true∨inB x.idx bd=true then 8 else 0:=by
   unfold oneE;rw[if_neg n3,if_neg n6,if_pos k5]
  rw[e1];simp -dsimp -implicitDefEqProofs only[aw,slots0,V.copy,V.lend,V.cells,V.boxable,Nat.reduceLeDiff,eq_self,ne_eq,reduceIte,reduceCtorEq,Nat.reduceBEq,Nat.reduceLT,Nat.reduceEqDiff,Nat.reduceAdd,vit_eq,k5,Int.reduceEq,decide_true,decide_false];refine fun_ret (array_fun i fs x.name hp _ (h.app _)) ?_;by_cases h0:arrE fs x.name=0
  ·rw[if_neg (by simp[h0])];cases hf:fsz fs x.idx with
   | some n=>
    rw[if_pos (.inl rfl)];simp -dsimp -implicitDefEqProofs only[aw,V.copy,Nat.reduceLeDiff,eq_self,reduceIte,reduceCtorEq,Nat.reduceBEq,Nat.reduceLT,Nat.reduceEqDiff,Nat.reduceAdd,h0,decide_true,h.at2,mget_kvF,hf];first|exact fin_ret hb rfl rfl List.take_length ⟨rfl,rfl⟩|exact fin_ret hb rfl rfl List.take_left ⟨rfl,rfl⟩
   | none=>
    simp -dsimp -implicitDefEqProofs only[aw,V.copy,V.lend,Nat.reduceLeDiff,eq_self,reduceIte,reduceCtorEq,Nat.reduceBEq,Nat.reduceLT,Nat.reduceEqDiff,Nat.reduceAdd,h0,decide_true,h.at2,mget_kvF,hf];refine fun_ret (fun_contains bd x.idx _) ?_;cases hi:inB x.idx bd with
    | true=>
     rw[if_pos (.inr rfl)];simp -dsimp -implicitDefEqProofs only[aw,V.copy,cond_false,eq_self,reduceIte,Nat.reduceBEq,Nat.reduceLT,Nat.reduceEqDiff];first|exact fin_ret hb rfl rfl List.take_length ⟨rfl,rfl⟩|exact fin_ret hb rfl rfl List.take_left ⟨rfl,rfl⟩
    | false=>
     rw[if_neg (by simp)];simp -dsimp -implicitDefEqProofs only[aw,V.copy,cond_false,eq_self,reduceIte,Nat.reduceBEq,Nat.reduceLT,Nat.reduceEqDiff];first|exact fin_ret hb rfl rfl List.take_length ⟨rfl,rfl⟩|exact fin_ret hb rfl rfl List.take_left ⟨rfl,rfl⟩
  ·rw[if_pos h0];simp -dsimp -implicitDefEqProofs only[aw,V.copy,eq_self,reduceIte,reduceCtorEq,Nat.reduceBEq,Nat.reduceLT,Nat.reduceEqDiff,decide_eq_false h0];first|exact fin_ret hb rfl rfl List.take_length ⟨rfl,rfl⟩|exact fin_ret hb rfl rfl List.take_left ⟨rfl,rfl⟩
 have e1:oneE splE fs x d bd=exprC splE fs bd x.ex:=by unfold oneE;rw[if_neg n3,if_neg n6,if_neg k5]
 have hve:validE x.ex=0:=by have:=shape_body hsh;rw[if_neg n3,if_neg n6,if_neg k5]at this;exact this
 rw[e1];have hx:=fun σ h=>expression_fun i fs hp x.ex bd (by omega) (vars_ok _ (validE_err hve)) σ h;simp only[vex_eq,dstrs]at hx;simp -dsimp -implicitDefEqProofs only[aw,slots0,V.copy,V.lend,V.lend1,V.cells,V.boxable,Nat.reduceLeDiff,eq_self,reduceIte,reduceCtorEq,Nat.reduceBEq,Nat.reduceLT,Nat.reduceEqDiff,Nat.reduceAdd,vit_eq,decide_eq_false n3,decide_eq_false n6,decide_eq_false k5];refine fun_ret (hx _ (h.app _)) ?_;simp -dsimp -implicitDefEqProofs only[aw,V.copy,eq_self,reduceIte,reduceCtorEq,Nat.reduceBEq,Nat.reduceLT,Nat.reduceEqDiff];first|exact fin_ret hb rfl rfl List.take_length ⟨rfl,rfl⟩|exact fin_ret hb rfl rfl List.take_left ⟨rfl,rfl⟩
theorem constraint_vst(i:Nat)(fs:List (ByteArray×Int))(hp:Sz8 fs)(σ:List (List V))(hb:boxesBelow σ.length σ=true)(h:FB σ i fs):Vst (fun(_:Unit) x d bd=>(oneE splE fs x d bd,())) PV (.bnd 38 [.mp i]) (fun _ τ=>τ=σ) σ.length where
 len:=fun s τ h=>by rw[h]
 bb:=fun s τ h=>by rw[h];exact hb
 und:=by have:=h.lt;simp[V.under,V.unders,this]
 val:=.inr ⟨_,_,rfl⟩
 call:=fun s τ x d bd ht hpv l=>by
  subst ht;exact(constraint_fun i fs hp x d bd hpv.1 hpv.2.1 (τ++l) (h.app l)).mono fun o σ' ⟨e1,e2⟩=>⟨τ,rfl,e2,e1⟩
theorem sz8_of{fs:List (ByteArray×Int)}(h:SmallF fs):Sz8 fs:=fun s n hn=>by have:=h.sz _ (fsz_mem hn);exact⟨this.1,this.2.1⟩
theorem check_item(l:List It)(c:Cl)(hl:ibigs l≤900000)(hs:SmallF (fldS c))(hc:c.fields.length≤1000000)(σ:List (List V)):Fun G 12 [.d (ditl l),vcl c] σ (RetV (.d (dint (checkI splE (fldS c) l))) σ):=by
 refine fun_code Tryz.func12 k12 rfl fun hb hw=>?_;delta c12 oM oV kI kS kT kF;unfold checkI;simp -dsimp -implicitDefEqProofs only[aw,slots0,V.copy,V.lend,V.cells,V.boxable,eq_self,ne_eq,reduceIte,reduceCtorEq,Nat.reduceBEq,Nat.reduceLT,Nat.reduceEqDiff];refine fun_ret (valid_item l hl _) ?_;by_cases h0:validI l=0
 ·rw[if_neg (by simp[h0])];simp -dsimp -implicitDefEqProofs only[aw,V.copy,V.lend,V.lend1,bldV,Nat.reduceLeDiff,eq_self,reduceIte,reduceCtorEq,Nat.reduceBEq,Nat.reduceLT,Nat.reduceEqDiff,Nat.reduceAdd,h0,decide_true];refine fun_mono (of_fun c hs hc _) ?_;rintro o σ' ⟨rfl,rfl⟩;rw[retK_ret];simp -dsimp -implicitDefEqProofs only[aw,V.lend,V.lend1,eq_self,reduceIte,reduceCtorEq,Nat.reduceLT,Nat.reduceEqDiff]
  have hv:rvl l 0=0:=by
   unfold validI at h0;split at h0
   ·cases h0
   ·exact h0
  have hz:=sz8_of hs
  have hbB:boxesBelow (σ++[[V.d (dstr c.name),V.d (dstr c.par),V.d (D.sl (List.map dfd c.fields)),V.d c.blocks],[V.d (dstr c.name),V.d (dstr c.par),V.d (D.sl (List.map dfd c.fields)),V.d c.blocks],[V.mapc true (kvF (fldS c))]]).length (σ++[[V.d (dstr c.name),V.d (dstr c.par),V.d (D.sl (List.map dfd c.fields)),V.d c.blocks],[V.d (dstr c.name),V.d (dstr c.par),V.d (D.sl (List.map dfd c.fields)),V.d c.blocks],[V.mapc true (kvF (fldS c))]])=true:=by
   have:∀k,V.underkv k (kvF (fldS c))=true:=fun k=>underkv_F _ k;exact boxesBelow_app hb (by simp[V.unders,V.under,this])
  have hFB:FB (σ++[[V.d (dstr c.name),V.d (dstr c.par),V.d (D.sl (List.map dfd c.fields)),V.d c.blocks],[V.d (dstr c.name),V.d (dstr c.par),V.d (D.sl (List.map dfd c.fields)),V.d c.blocks],[V.mapc true (kvF (fldS c))]]) (σ.length+1+1) (fldS c):=by
   unfold FB;rw[List.getElem?_append_right (by omega),show σ.length+1+1-σ.length=2 by omega];rfl
  have:=walk_fun _ _ pv_here _ l (by omega) 0 [] _ _ (constraint_vst (σ.length+1+1) (fldS c) hz _ hbB hFB) (pv_mem _ hv (by omega)) (by omega) (by simp;omega) () _ rfl;refine fun_mono this ?_;rintro o σ' ⟨τ,rfl,rfl,rfl⟩;rw[retK_ret,List.append_nil];have e:(wks (fun(_:Unit) x d bd=>(oneE splE (fldS c) x d bd,())) l 0 [] ()).1=wkE (oneE splE (fldS c)) l 0 []:=rfl;rw[e];simp -dsimp -implicitDefEqProofs only[aw,V.copy,eq_self,reduceIte,reduceCtorEq,Nat.reduceBEq,Nat.reduceLT,Nat.reduceEqDiff];first|exact fin_ret hb rfl rfl List.take_length ⟨rfl,rfl⟩|exact fin_ret hb rfl rfl List.take_left ⟨rfl,rfl⟩
 ·rw[if_pos h0];simp -dsimp -implicitDefEqProofs only[aw,V.copy,bldV,eq_self,reduceIte,reduceCtorEq,Nat.reduceBEq,Nat.reduceLT,Nat.reduceEqDiff,decide_eq_false h0];first|exact fin_ret hb rfl rfl List.take_length ⟨rfl,rfl⟩|exact fin_ret hb rfl rfl List.take_left ⟨rfl,rfl⟩
end Go.Proofs.YthoebpnbhgmoiaaGreatDoor
