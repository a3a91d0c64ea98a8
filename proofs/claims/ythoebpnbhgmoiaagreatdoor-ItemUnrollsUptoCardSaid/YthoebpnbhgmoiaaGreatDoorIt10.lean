import Derived.Test.YthoebpnbhgmoiaaGreatDoorIl1
import Derived.Test.YthoebpnbhgmoiaaGreatDoorIr15
import Derived.Test.YthoebpnbhgmoiaaGreatDoorIr11
import Derived.Test.YthoebpnbhgmoiaaGreatDoorRSubst
import Derived.Test.YthoebpnbhgmoiaaGreatDoorIe2
import Derived.Test.YthoebpnbhgmoiaaGreatDoorIs1
import Derived.Test.YthoebpnbhgmoiaaGreatDoorClo
import Derived.Test.YthoebpnbhgmoiaaGreatDoorIe3
set_option linter.unusedVariables false
set_option linter.unusedSimpArgs false
set_option linter.unusedSectionVars false
namespace Go.Proofs.YthoebpnbhgmoiaaGreatDoor
open Go.RowKit
theorem rep_one{x:It}{d:Nat}(h:frm1 x d)(nm:ByteArray)(b:Ex)(hk:¬(x.kind=1∨x.kind=2∨x.kind=4)):subE nm b x.ex=x.ex:=by
 obtain⟨-,hp,-⟩:=(frm1_eq x d).1 h;unfold plainB at hp;simp only[Bool.and_eq_true,Bool.or_eq_true,decide_eq_true_eq]at hp;have hbk:=hp.1.1.1.1.1.1.resolve_left hk;rw[(blank_sub (nm:=nm) (b:=b) hbk).1,(blank_sub (nm:=nm) (b:=b) hbk).2]
set_option maxHeartbeats 2000000 in
theorem replaced_fun(nm:ByteArray)(b:Ex):∀l:List It,ibigs l≤1000000→∀(d:Nat),frm l d→∀σ,Fun G 81 [.d (ditl l),.d (dstr nm),vex b] σ (RetV (.d (ditl (subIs nm b l))) σ):=by
 refine its_ind2 fun l ih hs d hf σ=>?_;have hln:=ibigs_len l;refine fun_code Tryz.func81 k81 (by simp only[vex_eq];rfl) fun hb hw=>?_;delta c81 oM oV kI kS kT kF;simp -dsimp -implicitDefEqProofs only[aw,slots0,V.copy,V.cells,V.boxable,eq_self,reduceIte,reduceCtorEq,Nat.reduceBEq,Nat.reduceLT,Nat.reduceEqDiff,Nat.reduceAdd,vex_eq];refine awp_for (R:=fun(j:Nat) ρ σ'=>ρ=[(0,.d (ditl l)),(1,.d (dstr nm)),(5,.ptr σ.length 0),(7,.own 51 12 ((subIs nm b (l.take j)).map dit)),(8,vint .i64 j)]∧σ'=σ++[[.d (dint b.op),.d (dint b.num),.d (dstr b.name),.d (.sl (b.args.map dex))]]) l.length ⟨rfl,rfl⟩ ?_ _;rintro j ρ' σ' hj ⟨rfl,rfl⟩;by_cases hlt:j<l.length
 ·have hm:=ibigs_mem (List.getElem_mem hlt);obtain⟨i1,i2⟩:=ih _ (List.getElem_mem hlt);have hfx:=frm_mem hf (List.getElem_mem hlt);have hxx:l[j]? = some l[j]:=List.getElem?_eq_getElem hlt;have ht:=subIs_take nm b l hlt;have hlen:(subIs nm b (l.take j)).length≤l.length:=by rw[subIs_len,List.length_take];omega
  have wj:=wrap_nat hlt (show l.length≤9223372036854775807 by omega);generalize l[j]=x at hm i1 i2 hfx hxx ht;generalize subIs nm b (l.take j)=O at ht hlen ⊢;have hbig:=ibig_eq x;obtain⟨-,-,-,hf1,hf2⟩:=(frm1_eq x d).1 hfx;have h0:=fun σ=>rsubst_fun nm b x.ex (by omega) σ;have h1:=fun σ=>i1 (by omega) (d+1) hf1 σ;have h2:=fun σ=>i2 (by omega) (d+1) hf2 σ;have hxs:=subI_eq nm b x;have hno:=rep_one hfx nm b;generalize subE nm b x.ex=E at h0 hxs hno;generalize subIs nm b x.items=A at h1 hxs;generalize subIs nm b x.els=B at h2 hxs
  have hfin:((subIs nm b (l.take (j+1))).map dit)=O.map dit++[[dint x.kind,dint E.op,dint E.num,dstr E.name,.sl (E.args.map dex),dstr x.name,dstr x.idx,.sl (x.ws.map dwt),.sl (A.map dit),.sl (B.map dit),.sl (x.bef.map fun s=>[dstr s]),.sl (x.aft.map fun s=>[dstr s])]]:=by
   rw[ht,hxs,List.map_append,List.map_cons,List.map_nil,dit_eq];simp only[im_kind,im_ex,im_name,im_idx,im_ws,im_items,im_els,im_bef,im_aft]
  simp only[vex_eq]at h0 h1 h2;simp -dsimp -implicitDefEqProofs only[aw,V.copy,V.lend,V.cells,V.boxable,over,Nat.reduceLeDiff,eq_self,reduceIte,reduceCtorEq,Nat.reduceBEq,Nat.reduceLT,Nat.reduceEqDiff,Nat.reduceAdd,Int.ofNat_lt,hlt,decide_true,hxx,dit_eq x];refine fun_ret (r11asks_fun x.kind _) ?_;by_cases ka:x.kind=1∨x.kind=2∨x.kind=4
  ·simp -dsimp -implicitDefEqProofs only[aw,V.copy,V.lend,V.lend1,Nat.reduceLeDiff,eq_self,reduceIte,reduceCtorEq,Nat.reduceBEq,Nat.reduceLT,Nat.reduceEqDiff,Nat.reduceAdd,decide_eq_true ka];refine fun_ret (h0 _) ?_;simp -dsimp -implicitDefEqProofs only[aw,V.copy,V.lend,V.lend1,V.cells,V.boxable,over,Nat.reduceLeDiff,eq_self,reduceIte,reduceCtorEq,Nat.reduceBEq,Nat.reduceLT,Nat.reduceEqDiff,Nat.reduceAdd];refine fun_ret (h1 _) ?_;simp -dsimp -implicitDefEqProofs only[aw,V.copy,V.lend,V.lend1,V.cells,V.boxable,over,Nat.reduceLeDiff,eq_self,reduceIte,reduceCtorEq,Nat.reduceBEq,Nat.reduceLT,Nat.reduceEqDiff,Nat.reduceAdd];refine fun_ret (h2 _) ?_;simp -dsimp -implicitDefEqProofs only[aw,V.copy,V.cells,V.boxable,over,rowsOf,plains,V.plain,Nat.reduceLeDiff,eq_self,reduceIte,reduceCtorEq,Nat.reduceBEq,Nat.reduceLT,Nat.reduceEqDiff,Nat.reduceAdd]
   refine onT_intro (by first|omega|(simp only[List.length_map];omega)) ?_;simp -dsimp -implicitDefEqProofs only[aw,V.copy,eq_self,reduceIte,reduceCtorEq,Nat.reduceBEq,Nat.reduceLT,Nat.reduceEqDiff,wj];refine⟨hlt,Nxt.drop1 (by simp) (boxesBelow_app hb rfl) (by simp[slotsBelow,V.under]) ⟨by rw[hfin],rfl⟩⟩
  ·have hE:=hno ka;subst hE;simp -dsimp -implicitDefEqProofs only[aw,V.copy,V.lend,V.lend1,Nat.reduceLeDiff,eq_self,reduceIte,reduceCtorEq,Nat.reduceBEq,Nat.reduceLT,Nat.reduceEqDiff,Nat.reduceAdd,decide_eq_false ka];refine fun_ret (h1 _) ?_;simp -dsimp -implicitDefEqProofs only[aw,V.copy,V.lend,V.lend1,V.cells,V.boxable,over,Nat.reduceLeDiff,eq_self,reduceIte,reduceCtorEq,Nat.reduceBEq,Nat.reduceLT,Nat.reduceEqDiff,Nat.reduceAdd];refine fun_ret (h2 _) ?_;simp -dsimp -implicitDefEqProofs only[aw,V.copy,V.cells,V.boxable,over,rowsOf,plains,V.plain,Nat.reduceLeDiff,eq_self,reduceIte,reduceCtorEq,Nat.reduceBEq,Nat.reduceLT,Nat.reduceEqDiff,Nat.reduceAdd];refine onT_intro (by first|omega|(simp only[List.length_map];omega)) ?_;simp -dsimp -implicitDefEqProofs only[aw,V.copy,eq_self,reduceIte,reduceCtorEq,Nat.reduceBEq,Nat.reduceLT,Nat.reduceEqDiff,wj]
   refine⟨hlt,Nxt.drop1 (by simp) (boxesBelow_app hb rfl) (by simp[slotsBelow,V.under]) ⟨by rw[hfin],rfl⟩⟩
 ·simp -dsimp -implicitDefEqProofs only[aw,V.copy,eq_self,reduceIte,reduceCtorEq,Nat.reduceBEq,Nat.reduceLT,Nat.reduceEqDiff,Int.ofNat_lt,hlt,decide_false];rw[List.take_of_length_le (by omega)];first|exact fin_ret hb rfl rfl List.take_length ⟨rfl,rfl⟩|exact fin_ret hb rfl rfl List.take_left ⟨rfl,rfl⟩
abbrev vq(q:Option Ex):V:=.d (.sl (q.toList.map dex))
theorem runder_fun(op:Int)(q:Option Ex)(e:Ex)(σ:List (List V)):Fun G 79 [.d (dint op),vq q,vex e] σ (RetV (vex (underE op q e)) σ):=by
 refine fun_code Tryz.func79 k79 (by simp only[vex_eq];rfl) fun hb hw=>?_;delta c79 oM oV kI kS kT kF;cases q with
 | none=>
  have hu:underE op none e=e:=rfl;rw[hu];have n0:((0:Nat):Int)=0:=rfl;simp -dsimp -implicitDefEqProofs only[aw,slots0,V.copy,V.cells,V.boxable,over,Nat.reduceLeDiff,eq_self,reduceIte,reduceCtorEq,Nat.reduceBEq,Nat.reduceLT,Nat.reduceEqDiff,Nat.reduceAdd,vex_eq,vq,Option.toList_none,decide_eq_true n0];exact fin_ret (v:=vex e) hb (by rw[vex_eq];simp[rs79,resV,res1,aw,V.copy,V.lend,V.lend1,eq_self,reduceIte,Nat.reduceAdd]) (by rw[vex_eq];rfl) List.take_left ⟨by rw[vex_eq],rfl⟩
 | some q=>
  have hn:=fun σ=>node_fun op q e σ;have hu:underE op (some q) e=.mk op 0 ⟨#[]⟩ [q,e]:=rfl;rw[hu];generalize (Ex.mk op 0 ⟨#[]⟩ [q,e])=N at hn ⊢;simp only[vex_eq]at hn;have n1:¬((1:Nat):Int)=0:=by omega
  simp -dsimp -implicitDefEqProofs only[aw,slots0,V.copy,V.lend,V.lend1,V.cells,V.boxable,Nat.reduceLeDiff,eq_self,reduceIte,reduceCtorEq,Nat.reduceBEq,Nat.reduceLT,Nat.reduceEqDiff,Nat.reduceAdd,vex_eq,vq,Option.toList_some,dex_eq q,iax0,decide_eq_false n1];refine calm_ret (hn _) ?_;simp -dsimp -implicitDefEqProofs only[aw,V.copy,V.cells,V.boxable,over,Nat.reduceLeDiff,eq_self,reduceIte,reduceCtorEq,Nat.reduceBEq,Nat.reduceLT,Nat.reduceEqDiff,Nat.reduceAdd];exact fin_ret (v:=vex N) hb (by rw[vex_eq];simp[rs79,resV,res1,aw,V.copy,V.lend,V.lend1,eq_self,reduceIte,Nat.reduceAdd]) (by rw[vex_eq];rfl) List.take_left ⟨by rw[vex_eq],rfl⟩
mutual
def noD:List It→Prop
 | []=>True
 | x::r=>noD1 x∧noD r
def noD1:It→Prop
 | .mk k _ _ _ _ l m _ _=>(k≠3∧k≠6)∧noD l∧noD m
end
theorem noD1_eq(x:It):noD1 x↔(x.kind≠3∧x.kind≠6)∧noD x.items∧noD x.els:=by cases x;rw[noD1];rfl
theorem noD_mem{l:List It}(h:noD l){x:It}(hx:x∈l):noD1 x:=by
 induction l with
 | nil=>cases hx
 | cons a r ih=>
  rw[noD]at h;rcases List.mem_cons.1 hx with rfl|hx
  ·exact h.1
  ·exact ih h.2 hx
theorem noD_sub(nm:ByteArray)(b:Ex):∀l:List It,noD l→noD (subIs nm b l):=by
 refine its_ind (fun h=>by rw[subIs];exact h) fun x r h1 h2 h3 h=>?_;rw[noD,noD1_eq]at h;rw[subIs,noD,noD1_eq,subI_eq];exact⟨⟨h.1.1,h1 h.1.2.1,h2 h.1.2.2⟩,h3 h.2⟩
theorem rvl_tail{x:It}{r:List It}{d:Nat}(h:rvl (x::r) d=0):rvl r d=0:=by
 rw[rvl]at h;split at h
 ·exact h
 ·rename_i hn;exact absurd h hn
theorem noD_valid:∀(l:List It) (d:Nat),0<d→rvl l d=0→noD l:=by
 refine its_ind (fun d _ h=>by rw[noD];trivial) fun x r h1 h2 h3 d hd h=>?_;obtain⟨g1,g2,g3⟩:=vldX_mem h (List.mem_cons_self ..);rw[noD,noD1_eq];refine⟨⟨?_,h1 _ (by omega) g2,h2 _ (by omega) g3⟩,h3 d hd (rvl_tail h)⟩;unfold shapeE at g1;split at g1
 ·cases g1
 ·rename_i hn;have:¬(0<d∧(x.kind=3∨x.kind=6)):=fun hh=>hn (.inr (.inr (.inr hh)));exact⟨fun hh=>this ⟨hd,.inl hh⟩,fun hh=>this ⟨hd,.inr hh⟩⟩
theorem exps_noD(fs:List (ByteArray×Int)):∀(k:Nat) (l:List It) (d:Nat) (q:Option Ex),frm l d→noD l→∀y,y∈exps fs k l q→∃e,y=itE y.kind e∧(y.kind=1∨y.kind=2):=by
 intro k
 induction k with
 | zero=>intro l d q _ _ y hy;cases hy
 | succ k ih=>
  intro l d q hf hn y hy;rw[exps_eq]at hy;obtain⟨x,hx,hy⟩:=List.mem_flatMap.1 hy;obtain⟨hk6,-,-,hf1,hf2⟩:=(frm1_eq x d).1 (frm_mem hf hx);obtain⟨⟨n3,n6⟩,n1,n2⟩:=(noD1_eq x).1 (noD_mem hn hx);unfold exp1 at hy;split at hy
  ·rename_i hk;rw[List.mem_singleton.1 hy];exact⟨_,rfl,hk⟩
  ·split at hy
   ·rcases List.mem_append.1 hy with hy|hy
    ·exact ih _ _ _ hf1 n1 y hy
    ·exact ih _ _ _ hf2 n2 y hy
   ·split at hy
    ·obtain⟨j,-,hy⟩:=List.mem_flatMap.1 hy;exact ih _ _ _ (frm_sub _ _ _ _ hf1) (noD_sub _ _ _ n1) y hy
    ·omega
theorem exps_top(fs:List (ByteArray×Int))(k:Nat)(l:List It)(q:Option Ex)(hv:rvl l 0=0):∀y,y∈exps fs k l q→(∃e,y=itE y.kind e∧(y.kind=1∨y.kind=2))∨y∈l∧(y.kind=3∨y.kind=6):=by
 intro y hy;cases k with
 | zero=>cases hy
 | succ k=>
 have hf:=frm_valid l 0 hv;rw[exps_eq]at hy;obtain⟨x,hx,hy⟩:=List.mem_flatMap.1 hy;obtain⟨hk6,hp,-,hf1,hf2⟩:=(frm1_eq x 0).1 (frm_mem hf hx);obtain⟨s1,s2,s3⟩:=vldX_mem hv hx;have n1:=noD_valid _ _ (by omega) s2;have n2:=noD_valid _ _ (by omega) s3;unfold exp1 at hy;split at hy
 ·rename_i hk;rw[List.mem_singleton.1 hy];exact .inl ⟨_,rfl,hk⟩
 ·split at hy
  ·rcases List.mem_append.1 hy with hy|hy
   ·exact .inl (exps_noD fs k _ _ _ hf1 n1 y hy)
   ·exact .inl (exps_noD fs k _ _ _ hf2 n2 y hy)
  ·split at hy
   ·obtain⟨j,-,hy⟩:=List.mem_flatMap.1 hy;exact .inl (exps_noD fs k _ _ _ (frm_sub _ _ _ _ hf1) (noD_sub _ _ _ n1) y hy)
   ·split at hy
    ·rename_i h3;have e:=List.mem_singleton.1 hy;rw[plain_d hp h3]at e;subst e;exact .inr ⟨hx,.inl h3⟩
    ·rename_i h1 h4 h5 h3;have h6:x.kind=6:=by omega
     have e:=List.mem_singleton.1 hy;rw[plain_s hp h6]at e;subst e;exact .inr ⟨hx,.inr h6⟩
section
variable (spl : ByteArray → Option (ByteArray × Int)) (fs : List (ByteArray × Int))
structure Unr(l X:List It):Prop where
 val:rvl l 0=0
 chk:wkE (oneE spl fs) l 0 []=0
 eq:X=exps fs (iszs l) l none
 len:X.length≤400
 vld:X.all vldB=true
theorem unr_of{l:List It}(h:(expandI spl fs l).2=0):Unr spl fs l (expandI spl fs l).1:=by
 unfold expandI at h ⊢;by_cases h0:checkI spl fs l≠0
 ·rw[if_pos h0]at h;exact absurd h h0
 rw[if_neg h0]at h ⊢;by_cases h4:400<(exps fs (iszs l) l none).length
 ·rw[if_pos h4]at h;cases h
 rw[if_neg h4]at h ⊢;by_cases hv:(exps fs (iszs l) l none).all vldB=true
 ·rw[if_pos hv];have h0:checkI spl fs l=0:=by simpa using h0
  unfold checkI at h0;by_cases h1:validI l≠0
  ·rw[if_pos h1]at h0;exact absurd h0 h1
  ·rw[if_neg h1]at h0;have h1:validI l=0:=by simpa using h1
   unfold validI at h1;split at h1
   ·cases h1
   ·exact⟨h1,h0,rfl,by show(exps fs (iszs l) l none).length≤400;omega,hv⟩
 ·rw[if_neg hv]at h;cases h
variable {spl fs}
theorem Unr.top{l X:List It}(h:Unr spl fs l X):∀y,y∈X→(∃e,y=itE y.kind e∧(y.kind=1∨y.kind=2))∨y∈l∧(y.kind=3∨y.kind=6):=by
 rw[h.eq];exact exps_top fs _ l none h.val
theorem Unr.valid{l X:List It}(h:Unr spl fs l X){y:It}(hy:y∈X)(hk:y.kind=1∨y.kind=2):validE y.ex=0:=by
 have:=List.all_eq_true.1 h.vld y hy;unfold vldB at this;rcases hk with k|k<;>simpa[k]using this
end
end Go.Proofs.YthoebpnbhgmoiaaGreatDoor
