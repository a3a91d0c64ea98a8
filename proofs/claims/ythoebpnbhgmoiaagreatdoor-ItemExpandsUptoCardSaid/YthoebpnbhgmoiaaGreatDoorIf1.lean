import Derived.Test.YthoebpnbhgmoiaaGreatDoorIw1
import Derived.Test.YthoebpnbhgmoiaaGreatDoorIt8
set_option linter.unusedVariables false
set_option linter.unusedSimpArgs false
set_option linter.unusedSectionVars false
namespace Go.Proofs.YthoebpnbhgmoiaaGreatDoor
open Go.RowKit
theorem FB.app{σ:List (List V)}{i:Nat}{fs:List (ByteArray×Int)}(h:FB σ i fs)(l:List (List V)):FB (σ++l) i fs:=by
 unfold FB at h ⊢;rw[List.getElem?_append_left (List.getElem?_eq_some_iff.1 h).1];exact h
theorem FB.lt{σ:List (List V)}{i:Nat}{fs:List (ByteArray×Int)}(h:FB σ i fs):i<σ.length:=(List.getElem?_eq_some_iff.1 h).1
theorem FB.at{σ:List (List V)}{i:Nat}{fs:List (ByteArray×Int)}(h:FB σ i fs):σ[i]? = some [.mapc true (kvF fs)]:=h
theorem FB.at2{σ:List (List V)}{i:Nat}{fs:List (ByteArray×Int)}(h:FB σ i fs)(l:List (List V)):(σ++l)[i]? = some [.mapc true (kvF fs)]:=h.app l
def Sz8(fs:List (ByteArray×Int)):Prop:=∀s n,fsz fs s=some n→0≤n∧n≤8
theorem array_fun(i:Nat)(fs:List (ByteArray×Int))(s:ByteArray)(hp:Sz8 fs)(σ:List (List V))(h:FB σ i fs):Fun G 70 [.mp i,.d (dstr s)] σ (RetV (.d (dint (arrE fs s))) σ):=by
 refine fun_code Tryz.func70 k70 rfl fun hb hw=>?_;delta c70 oM oV kI kS kT kF;cases hf:fsz fs s with
 | none=>
  rw[show arrE fs s=7 by unfold arrE;rw[hf]];simp -dsimp -implicitDefEqProofs only[aw,slots0,V.copy,eq_self,reduceIte,reduceCtorEq,Nat.reduceBEq,Nat.reduceLT,Nat.reduceEqDiff,h.at,mget_kvF,hf];first|exact fin_ret hb rfl rfl List.take_length ⟨rfl,rfl⟩|exact fin_ret hb rfl rfl List.take_left ⟨rfl,rfl⟩
 | some n=>
  have hn:=hp s n hf;have e:arrE fs s=if n<1 then 9 else 0:=by unfold arrE;rw[hf]
  by_cases h0:n=0
  ·rw[e,h0];subst h0;simp -dsimp -implicitDefEqProofs only[aw,slots0,V.copy,eq_self,reduceIte,reduceCtorEq,Nat.reduceBEq,Nat.reduceLT,Nat.reduceEqDiff,h.at,mget_kvF,hf,decide_true];first|exact fin_ret hb rfl rfl List.take_length ⟨rfl,rfl⟩|exact fin_ret hb rfl rfl List.take_left ⟨rfl,rfl⟩
  ·rw[e,if_neg (show ¬n<1 by omega)];simp -dsimp -implicitDefEqProofs only[aw,slots0,V.copy,eq_self,reduceIte,reduceCtorEq,Nat.reduceBEq,Nat.reduceLT,Nat.reduceEqDiff,h.at,mget_kvF,hf,decide_eq_false h0];first|exact fin_ret hb rfl rfl List.take_length ⟨rfl,rfl⟩|exact fin_ret hb rfl rfl List.take_left ⟨rfl,rfl⟩
def splE(s:ByteArray):Option (ByteArray×Int):=if h:elemB s=true∧0<(cutB s 91).size then some (cutA s 91,((cutB s 91)[0]'h.2).toNat-48)else none
theorem elem_parts{s:ByteArray}(h:elemB s=true):cutOk s 91=true∧nameB (cutA s 91)=true∧∃hl:0<(cutB s 91).size,48≤((cutB s 91)[0]'hl).toNat∧((cutB s 91)[0]'hl).toNat<56:=by
 unfold elemB at h;simp only[Bool.and_eq_true]at h;obtain⟨⟨h1,h2⟩,h3⟩:=h;refine⟨h1,h2,?_⟩;unfold closeB at h3;split at h3
 ·rename_i hs;simp only[Bool.and_eq_true,decide_eq_true_eq]at h3;exact⟨by omega,h3.1.2,h3.2⟩
 ·cases h3
theorem splE_elem{s:ByteArray}(h:elemB s=true):∃hl:0<(cutB s 91).size,splE s=some (cutA s 91,(((cutB s 91)[0]'hl).toNat:Int)-48):=by
 obtain⟨-,-,hl,-⟩:=elem_parts h;exact⟨hl,by unfold splE;rw[dif_pos ⟨h,hl⟩]⟩
theorem splE_none{s:ByteArray}(h:elemB s=false):splE s=none:=by
 unfold splE;rw[dif_neg (by rw[h];simp)]
theorem name_nocut{s:ByteArray}(h:nameB s=true):cutOk s 91=false:=by
 have hw:=nameB_word h;unfold cutOk;rw[decide_eq_false];intro hn;obtain⟨o,ho⟩:=Int.eq_ofNat_of_zero_le hn;have hlt:=byte_at (s:=s) (c:=91) (o:=o) ho;have h2:=wordB_no hw hlt;have h3:=get_list s o hlt;rw[(Lib.indexByte_some ho).1]at h3;rw[←Option.some.inj h3]at h2
 revert h2
 decide
theorem u8_sub{c:Nat}(h1:48≤c)(h2:c<56):IntKind.u8.wrap ((c:Int)-48)=((c-48:Nat):Int):=by
 simp[IntKind.wrap,IntKind.bits,IntKind.signed];omega
set_option maxRecDepth 20000 in
set_option maxHeartbeats 2000000 in
theorem variable_fun(i:Nat)(fs:List (ByteArray×Int))(s:ByteArray)(hs:isVarB s=true)(hp:Sz8 fs)(σ:List (List V))(h:FB σ i fs):Fun G 84 [.mp i,.d (dstr s)] σ (RetV (.d (dint (varE splE fs s))) σ):=by
 refine fun_code Tryz.func84 k84 rfl fun hb hw=>?_;delta c84 oM oV kI kS kT kF;cases hf:fsz fs s with
 | some n=>
  have e:varE splE fs s=if 0<n then 9 else 0:=by unfold varE;rw[hf]
  by_cases h0:0<n
  ·rw[e,if_pos h0];simp -dsimp -implicitDefEqProofs only[aw,slots0,V.copy,V.lend,eq_self,reduceIte,reduceCtorEq,Nat.reduceBEq,Nat.reduceLT,Nat.reduceEqDiff,h.at,mget_kvF,hf,decide_eq_true h0];first|exact fin_ret hb rfl rfl List.take_length ⟨rfl,rfl⟩|exact fin_ret hb rfl rfl List.take_left ⟨rfl,rfl⟩
  ·rw[e,if_neg h0];simp -dsimp -implicitDefEqProofs only[aw,slots0,V.copy,V.lend,eq_self,reduceIte,reduceCtorEq,Nat.reduceBEq,Nat.reduceLT,Nat.reduceEqDiff,h.at,mget_kvF,hf,decide_eq_false h0];first|exact fin_ret hb rfl rfl List.take_length ⟨rfl,rfl⟩|exact fin_ret hb rfl rfl List.take_left ⟨rfl,rfl⟩
 | none=>
  have e:varE splE fs s=match splE s with|none=>7|some (a,k)=>match fsz fs a with|none=>7|some n=>if n<1 then 9 else if n≤k then 7 else 0:=by unfold varE;simp only[hf];rfl
  simp -dsimp -implicitDefEqProofs only[aw,slots0,V.copy,V.lend,eq_self,reduceIte,reduceCtorEq,Nat.reduceBEq,Nat.reduceLT,Nat.reduceEqDiff,h.at,mget_kvF,hf];refine fun_ret (fun_cut s _) ?_;cases he:elemB s with
  | false=>
   have hn:nameB s=true:=by unfold isVarB at hs;rw[he]at hs;simpa using hs
   rw[splE_none he]at e;rw[e];cases ha:fsz fs (cutA s 91)with
   | none=>
    simp -dsimp -implicitDefEqProofs only[aw,V.copy,eq_self,reduceIte,reduceCtorEq,Nat.reduceBEq,Nat.reduceLT,Nat.reduceEqDiff,h.at,mget_kvF,ha,name_nocut hn];first|exact fin_ret hb rfl rfl List.take_length ⟨rfl,rfl⟩|exact fin_ret hb rfl rfl List.take_left ⟨rfl,rfl⟩
   | some n=>
    simp -dsimp -implicitDefEqProofs only[aw,V.copy,eq_self,reduceIte,reduceCtorEq,Nat.reduceBEq,Nat.reduceLT,Nat.reduceEqDiff,h.at,mget_kvF,ha,name_nocut hn];first|exact fin_ret hb rfl rfl List.take_length ⟨rfl,rfl⟩|exact fin_ret hb rfl rfl List.take_left ⟨rfl,rfl⟩
  | true=>
   obtain⟨hc,-,hl,h48,h56⟩:=elem_parts he;obtain⟨hl',hsp⟩:=splE_elem he;rw[hsp]at e;cases ha:fsz fs (cutA s 91)with
   | none=>
    rw[e];simp only[];simp -dsimp -implicitDefEqProofs only[aw,V.copy,cond_false,eq_self,reduceIte,reduceCtorEq,Nat.reduceBEq,Nat.reduceLT,Nat.reduceEqDiff,h.at,mget_kvF,ha,hc];first|exact fin_ret hb rfl rfl List.take_length ⟨rfl,rfl⟩|exact fin_ret hb rfl rfl List.take_left ⟨rfl,rfl⟩
   | some n=>
    have hn:=hp _ n ha;have e2:varE splE fs s=if n<1 then 9 else if n≤(((cutB s 91)[0]'hl).toNat:Int)-48 then 7 else 0:=by rw[e];simp only[ha]
    obtain⟨c,hcb⟩:∃c,((cutB s 91)[0]'hl).toNat=c:=⟨_,rfl⟩
    rw[hcb]at h48 h56 e2;clear e hsp hl';by_cases h0:n=0
    ·have ha':fsz fs (cutA s 91)=some 0:=by rw[ha,h0]
     rw[e2,h0,if_pos (by decide)];clear e2 ha;simp -dsimp -implicitDefEqProofs only[aw,V.copy,cond_false,eq_self,reduceIte,reduceCtorEq,Nat.reduceBEq,Nat.reduceLT,Nat.reduceEqDiff,h.at,mget_kvF,ha',hc,decide_true];first|exact fin_ret hb rfl rfl List.take_length ⟨rfl,rfl⟩|exact fin_ret hb rfl rfl List.take_left ⟨rfl,rfl⟩
    ·rw[e2,if_neg (show ¬n<1 by omega)];clear e2
     have e0:ixV (.d (dstr (cutB s 91))) (.d (.lit (.int .i64 0)))=some (vint .u8 (c:Nat)):=by
      have h9:=get_list (cutB s 91) 0 hl;unfold ixV dstr;simp only[Int.toNat_zero,h9,hcb];rfl
     have w1:=u8_sub h48 h56;have w2:IntKind.i64.wrap (((c-48:Nat):Int))=((c-48:Nat):Int):=wrap_i64 (by omega) (by omega);have e5:((c:Int)-48)=((c-48:Nat):Int):=by omega
     rw[e5];by_cases h7:n≤((c-48:Nat):Int)
     ·rw[if_pos h7];simp -dsimp -implicitDefEqProofs only[aw,V.copy,cond_false,eq_self,reduceIte,reduceCtorEq,Nat.reduceBEq,Nat.reduceLT,Nat.reduceEqDiff,h.at,mget_kvF,ha,hc,decide_eq_false h0,e0,w1,w2,decide_eq_true h7];first|exact fin_ret hb rfl rfl List.take_length ⟨rfl,rfl⟩|exact fin_ret hb rfl rfl List.take_left ⟨rfl,rfl⟩
     ·rw[if_neg h7];simp -dsimp -implicitDefEqProofs only[aw,V.copy,cond_false,eq_self,reduceIte,reduceCtorEq,Nat.reduceBEq,Nat.reduceLT,Nat.reduceEqDiff,h.at,mget_kvF,ha,hc,decide_eq_false h0,e0,w1,w2,decide_eq_false h7];first|exact fin_ret hb rfl rfl List.take_length ⟨rfl,rfl⟩|exact fin_ret hb rfl rfl List.take_left ⟨rfl,rfl⟩
theorem either_fun(i:Nat)(fs:List (ByteArray×Int))(s:ByteArray)(hs:isVarB s=true)(hp:Sz8 fs)(σ:List (List V))(h:FB σ i fs):Fun G 69 [.mp i,.d (dstr s)] σ (RetV (.d (dint (if eithB splE fs s=true then 0 else 7))) σ):=by
 refine fun_code Tryz.func69 k69 rfl fun hb hw=>?_;delta c69 oM oV kI kS kT kF;cases hf:fsz fs s with
 | some n=>
  have e:eithB splE fs s=true:=by unfold eithB;rw[hf];rfl
  rw[if_pos e];simp -dsimp -implicitDefEqProofs only[aw,slots0,V.copy,eq_self,reduceIte,reduceCtorEq,Nat.reduceBEq,Nat.reduceLT,Nat.reduceEqDiff,h.at,mget_kvF,hf];first|exact fin_ret hb rfl rfl List.take_length ⟨rfl,rfl⟩|exact fin_ret hb rfl rfl List.take_left ⟨rfl,rfl⟩
 | none=>
  have e:eithB splE fs s=decide (varE splE fs s=0):=by unfold eithB;rw[hf];rfl
  rw[e];simp -dsimp -implicitDefEqProofs only[aw,slots0,V.copy,V.lend,eq_self,reduceIte,reduceCtorEq,Nat.reduceBEq,Nat.reduceLT,Nat.reduceEqDiff,h.at,mget_kvF,hf];refine fun_ret (variable_fun i fs s hs hp _ h) ?_;by_cases h0:varE splE fs s=0
  ·rw[h0,if_pos (by decide)];simp -dsimp -implicitDefEqProofs only[aw,V.copy,cond_false,eq_self,reduceIte,reduceCtorEq,Nat.reduceBEq,Nat.reduceLT,Nat.reduceEqDiff,decide_true];first|exact fin_ret hb rfl rfl List.take_length ⟨rfl,rfl⟩|exact fin_ret hb rfl rfl List.take_left ⟨rfl,rfl⟩
  ·rw[if_neg (by simpa using h0)];simp -dsimp -implicitDefEqProofs only[aw,V.copy,cond_false,eq_self,reduceIte,reduceCtorEq,Nat.reduceBEq,Nat.reduceLT,Nat.reduceEqDiff,decide_eq_false h0];first|exact fin_ret hb rfl rfl List.take_length ⟨rfl,rfl⟩|exact fin_ret hb rfl rfl List.take_left ⟨rfl,rfl⟩
theorem mput_kvF(fs:List (ByteArray×Int))(s:ByteArray)(n:Int)(h:fsz fs s=none):mput (.s s) (.d (dint n)) (kvF fs)=kvF (fs++[(s,n)]):=by
 induction fs with
 | nil=>rfl
 | cons f r ih=>
  unfold fsz at h ih;rw[List.find?_cons]at h;by_cases hs:f.1=s
  ·rw[decide_eq_true hs]at h;cases h
  ·rw[decide_eq_false hs]at h;have h2:¬(Key.s f.1=Key.s s):=fun e=>hs (Key.s.inj e);unfold kvF at ih ⊢;rw[List.map_cons,mput,if_neg h2,ih h];rfl
theorem fsz_take{fs:List (ByteArray×Int)}(hn:(fs.map (·.1)).Nodup){j:Nat}(h:j<fs.length):fsz (fs.take j) fs[j].1=none:=by
 cases hf:fsz (fs.take j) fs[j].1 with
 | none=>rfl
 | some n=>
  exfalso;have h1:=fsz_mem hf;obtain⟨i,hi,he⟩:=List.getElem_of_mem h1;rw[List.length_take]at hi;rw[List.getElem_take]at he;have h2:(fs.map (·.1))[i]'(by rw[List.length_map];omega)=(fs.map (·.1))[j]'(by rw[List.length_map];omega):=by simp[he]
  have:=(List.getElem_inj hn).1 h2;omega
theorem underkv_F(fs:List (ByteArray×Int))(k:Nat):V.underkv k (kvF fs)=true:=by
 induction fs with
 | nil=>rfl
 | cons f r ih=>show(V.underp k (.s f.1,.d (dint f.2))&&V.underkv k (kvF r))=true;rw[ih];rfl
def OfQ(σ:List (List V))(c:Cl):Out→List (List V)→Prop:=fun o σ'=>o=.ret (.mp (σ.length+1))∧σ'=σ++[[.d (dstr c.name),.d (dstr c.par),.d (.sl (c.fields.map dfd)),.d c.blocks],[.mapc true (kvF (fldS c))]]
theorem of_fun(c:Cl)(hs:SmallF (fldS c))(hl:c.fields.length≤1000000)(σ:List (List V)):Fun G 37 [vcl c] σ (OfQ σ c):=by
 refine fun_code Tryz.func37 k37 rfl fun hb hw=>?_;delta c37 oM oV kI kS kT kF;simp -dsimp -implicitDefEqProofs only[aw,slots0,V.copy,V.cells,V.boxable,Nat.reduceLeDiff,eq_self,reduceIte,reduceCtorEq,Nat.reduceBEq,Nat.reduceLT,Nat.reduceEqDiff,Nat.reduceAdd];have hfl:(fldS c).length=c.fields.length:=by unfold fldS;rw[List.length_map]
 refine awp_forK [3,10,11,12] (fun(j:Nat) ρ σ'=>ρ=[(3,.mp (σ.length+1)),(10,.d (.sl (c.fields.map dfd))),(11,vint .i64 c.fields.length),(12,vint .i64 j)]∧σ'=σ++[[.d (dstr c.name),.d (dstr c.par),.d (.sl (c.fields.map dfd)),.d c.blocks],[.mapc true (kvF ((fldS c).take j))]]) c.fields.length ⟨rfl,rfl⟩ ?_ _;rintro j ρ' σ' hj ⟨rfl,rfl⟩
 have hbb:∀kv,boxesBelow (σ++[[V.d (dstr c.name),V.d (dstr c.par),V.d (.sl (c.fields.map dfd)),V.d c.blocks],[V.mapc true (kvF kv)]]).length (σ++[[V.d (dstr c.name),V.d (dstr c.par),V.d (.sl (c.fields.map dfd)),V.d c.blocks],[V.mapc true (kvF kv)]])=true:=by
  intro kv;have:∀k,V.underkv k (kvF kv)=true:=fun k=>underkv_F kv k;exact boxesBelow_app hb (by simp[V.unders,V.under,this])
 by_cases hlt:j<c.fields.length
 ·have hj':j<(fldS c).length:=by rw[hfl];exact hlt
  have hx:(fldS c)[j]=(c.fields[j].name,c.fields[j].size):=by simp[fldS]
  have hd:dfd c.fields[j]=[dstr c.fields[j].name,dint c.fields[j].width,dint c.fields[j].size,dint c.fields[j].mode,dint c.fields[j].init]:=rfl;have hnone:fsz ((fldS c).take j) c.fields[j].name=none:=by have:=fsz_take hs.nd hj';rw[hx]at this;exact this
  have hmp:=mput_kvF ((fldS c).take j) c.fields[j].name c.fields[j].size hnone;have htk:(fldS c).take (j+1)=(fldS c).take j++[(c.fields[j].name,c.fields[j].size)]:=by rw[List.take_add_one,List.getElem?_eq_getElem hj',hx];rfl
  simp -dsimp -implicitDefEqProofs only[aw,V.copy,V.cells,V.boxable,over,Nat.reduceLeDiff,eq_self,reduceIte,Nat.reduceBEq,Nat.reduceLT,Nat.reduceEqDiff,Nat.reduceAdd,Int.ofNat_lt,hlt,decide_true,List.getElem?_eq_getElem hlt,hd,mget_kvF,hnone,hmp,wrap_nat hlt (show c.fields.length≤9223372036854775807 by omega)];have e3:∀a b d:List V,σ++[a,b,d]=(σ++[a,b])++[d]:=fun a b d=>by simp
  rw[e3];exact Nxt.drop (by simp) (hbb _) (by simp[slotsBelow,V.under]) ⟨rfl,by rw[htk]⟩
 ·simp -dsimp -implicitDefEqProofs only[aw,V.copy,eq_self,reduceIte,Nat.reduceBEq,Nat.reduceLT,Nat.reduceEqDiff,Int.ofNat_lt,hlt,decide_false];rw[List.take_of_length_le (by omega)];exact⟨_,_,.refl _ _ _,.mp (σ.length+1),rfl,(σ++[[V.d (dstr c.name),V.d (dstr c.par),V.d (.sl (c.fields.map dfd)),V.d c.blocks],[V.mapc true (kvF (fldS c))]]).length,by simp,by rw[List.take_length];exact hbb _,by simp[V.under],by rw[List.take_length];exact⟨rfl,rfl⟩⟩
end Go.Proofs.YthoebpnbhgmoiaaGreatDoor
