import Derived.Test.YtcbahpllcfbkmaaGreatDoorCv1
import Derived.Test.YtcbahpllcfbkmaaGreatDoorCw5
import Derived.Test.YtcbahpllcfbkmaaGreatDoorPt
set_option linter.unusedVariables false
set_option linter.unusedSimpArgs false
set_option linter.unusedSectionVars false
namespace Go.Proofs.YtcbahpllcfbkmaaGreatDoor
open Go.RowKit
theorem Nxt.drp1{n0:Nat}{R:Slots→List (List V)→Prop}{ρ:Slots}{σ:List (List V)}{a b:List V}(hn:n0≤σ.length)(hb:boxesBelow (σ++[a]).length (σ++[a])=true)(hs:slotsBelow (σ++[a]).length ρ=true)(hR:R ρ (σ++[a])):Nxt n0 R ρ (σ++[a,b]) .mk:=by
 have e:σ++[a,b]=(σ++[a])++[b]:=by simp
 rw[e];exact Nxt.drop (by rw[List.length_append];omega) hb hs hR
theorem flds_drop(l:List Fl){j:Nat}(h:j<l.length):fldsE (l.drop j)=if fldE l[j]≠0 then fldE l[j]else fldsE (l.drop (j+1)):=by rw[List.drop_eq_getElem_cons h,fldsE]
set_option maxHeartbeats 8000000 in
theorem clvalid_fun(c:Kl)(hf:c.flds.length≤1200000)(hbk:c.blks.length≤1200000)(σ:List (List V)):Fun G 46 [vkl c] σ (RetV (.d (dint (klsE c))) σ):=by
 refine fun_code Tryz.func46 k46 rfl fun hb hw=>?_;unfold c46 klsE;obtain⟨nm,pr,fs,bl⟩:=c;simp only at hf hbk ⊢;simp -dsimp -implicitDefEqProofs only[aw,slots0,V.copy,V.lend,V.cells,V.boxable,Nat.reduceLeDiff,eq_self,ne_eq,reduceIte,reduceCtorEq,Nat.reduceBEq,Nat.reduceLT,Nat.reduceEqDiff,Nat.reduceAdd];refine fun_ret (fun_lname nm _) ?_;cases hn:nameB nm with
 | false=>
  rw[if_pos (.inl rfl)];simp -dsimp -implicitDefEqProofs only[aw,V.copy,eq_self,reduceIte,Nat.reduceBEq,Nat.reduceLT,Nat.reduceEqDiff];first|exact fin_ret hb rfl rfl List.take_length ⟨rfl,rfl⟩|exact fin_ret hb rfl rfl List.take_left ⟨rfl,rfl⟩|(trace_state;fail "fin")
 | true=>
 by_cases hbad:pr≠⟨#[]⟩∧nameB pr=false
 ·rw[if_pos (.inr hbad)];simp -dsimp -implicitDefEqProofs only[aw,V.copy,V.lend,Nat.reduceLeDiff,eq_self,reduceIte,Nat.reduceLT,Nat.reduceEqDiff,Nat.reduceAdd,decide_eq_false hbad.1];refine fun_ret (fun_lname pr _) ?_;rw[hbad.2];simp -dsimp -implicitDefEqProofs only[aw,V.copy,cond_true,cond_false,eq_self,reduceIte,Nat.reduceBEq,Nat.reduceLT,Nat.reduceEqDiff];first|exact fin_ret hb rfl rfl List.take_length ⟨rfl,rfl⟩|exact fin_ret hb rfl rfl List.take_left ⟨rfl,rfl⟩|(trace_state;fail "fin")
 rw[if_neg (fun h=>h.elim (fun h=>by cases h) hbad)]
 have hpar:∀{K:Prop},(pr=⟨#[]⟩→K)→(pr≠⟨#[]⟩→nameB pr=true→K)→K:=fun h1 h2=>by
  by_cases hp:pr=⟨#[]⟩
  ·exact h1 hp
  ·refine h2 hp ?_;cases hq:nameB pr with
   | true=>rfl
   | false=>exact absurd ⟨hp,hq⟩ hbad
 by_cases l1:16<fs.length
 ·have d1:decide ((16:Int)<(fs.length:Nat))=true:=decide_eq_true (by omega);rw[if_pos (.inl l1)];refine hpar (fun hp=>?_) fun hp hq=>?_
  ·simp -dsimp -implicitDefEqProofs only[aw,V.copy,Nat.reduceLeDiff,cond_false,eq_self,reduceIte,Nat.reduceBEq,Nat.reduceLT,Nat.reduceEqDiff,Nat.reduceAdd,decide_eq_true hp,d1];first|exact fin_ret hb rfl rfl List.take_length ⟨rfl,rfl⟩|exact fin_ret hb rfl rfl List.take_left ⟨rfl,rfl⟩|(trace_state;fail "fin")
  ·simp -dsimp -implicitDefEqProofs only[aw,V.copy,V.lend,Nat.reduceLeDiff,eq_self,reduceIte,Nat.reduceLT,Nat.reduceEqDiff,Nat.reduceAdd,decide_eq_false hp];refine fun_ret (fun_lname pr _) ?_;rw[hq];simp -dsimp -implicitDefEqProofs only[aw,V.copy,Nat.reduceLeDiff,cond_true,cond_false,eq_self,reduceIte,Nat.reduceBEq,Nat.reduceLT,Nat.reduceEqDiff,Nat.reduceAdd,d1];first|exact fin_ret hb rfl rfl List.take_length ⟨rfl,rfl⟩|exact fin_ret hb rfl rfl List.take_left ⟨rfl,rfl⟩|(trace_state;fail "fin")
 have d1:decide ((16:Int)<(fs.length:Nat))=false:=decide_eq_false (by omega);by_cases l2:16<bl.length
 ·have d2:decide ((16:Int)<(bl.length:Nat))=true:=decide_eq_true (by omega);rw[if_pos (.inr l2)];refine hpar (fun hp=>?_) fun hp hq=>?_
  ·simp -dsimp -implicitDefEqProofs only[aw,V.copy,Nat.reduceLeDiff,cond_false,eq_self,reduceIte,Nat.reduceBEq,Nat.reduceLT,Nat.reduceEqDiff,Nat.reduceAdd,decide_eq_true hp,d1,d2];first|exact fin_ret hb rfl rfl List.take_length ⟨rfl,rfl⟩|exact fin_ret hb rfl rfl List.take_left ⟨rfl,rfl⟩|(trace_state;fail "fin")
  ·simp -dsimp -implicitDefEqProofs only[aw,V.copy,V.lend,Nat.reduceLeDiff,eq_self,reduceIte,Nat.reduceLT,Nat.reduceEqDiff,Nat.reduceAdd,decide_eq_false hp];refine fun_ret (fun_lname pr _) ?_;rw[hq];simp -dsimp -implicitDefEqProofs only[aw,V.copy,Nat.reduceLeDiff,cond_true,cond_false,eq_self,reduceIte,Nat.reduceBEq,Nat.reduceLT,Nat.reduceEqDiff,Nat.reduceAdd,d1,d2];first|exact fin_ret hb rfl rfl List.take_length ⟨rfl,rfl⟩|exact fin_ret hb rfl rfl List.take_left ⟨rfl,rfl⟩|(trace_state;fail "fin")
 have d2:decide ((16:Int)<(bl.length:Nat))=false:=decide_eq_false (by omega);rw[if_neg (show ¬(16<fs.length∨16<bl.length)by omega)];refine hpar (fun hp=>?_) fun hp hq=>?_;simp -dsimp -implicitDefEqProofs only[aw,V.copy,Nat.reduceLeDiff,cond_false,eq_self,ne_eq,reduceIte,Nat.reduceBEq,Nat.reduceLT,Nat.reduceEqDiff,Nat.reduceAdd,decide_eq_true hp,d1,d2]
 rotate_left
 simp -dsimp -implicitDefEqProofs only[aw,V.copy,V.lend,Nat.reduceLeDiff,eq_self,reduceIte,Nat.reduceLT,Nat.reduceEqDiff,Nat.reduceAdd,decide_eq_false hp];refine fun_ret (fun_lname pr _) ?_;rw[hq];simp -dsimp -implicitDefEqProofs only[aw,V.copy,Nat.reduceLeDiff,cond_true,cond_false,eq_self,ne_eq,reduceIte,Nat.reduceBEq,Nat.reduceLT,Nat.reduceEqDiff,Nat.reduceAdd,d1,d2]
 all_goals
  refine awp_forK [1,34,35,36] (fun(j:Nat) ρ σ'=>ρ=[(1,.ptr σ.length 0),(34,.d (.sl (fs.map dfl))),(35,vint .i64 fs.length),(36,vint .i64 j)]∧σ'=σ++[[.d (dstr nm),.d (dstr pr),.d (.sl (fs.map dfl)),.d (.sl (bl.map dbk))]]∧fldsE fs=fldsE (fs.drop j)) fs.length ⟨rfl,rfl,rfl⟩ ?_ _;rintro j ρ' σ' hj ⟨rfl,rfl,hI⟩;by_cases hlt:j<fs.length
  ·have wj:=wrap_nat hlt (show fs.length≤9223372036854775807 by omega);have e1:(fs.map dfl)[j]? = some (dfl fs[j]):=by rw[List.getElem?_map,List.getElem?_eq_getElem hlt];rfl
   have dd:∀f:Fl,dfl f=[dstr f.name,dint f.width,dint f.size,dint f.mode,dint f.init]:=fun _=>rfl;have f1:=vfield_fun fs[j];simp only[dd,List.map_cons,List.map_nil]at f1;rw[flds_drop fs hlt]at hI;simp -dsimp -implicitDefEqProofs only[aw,V.copy,V.lend,V.lend1,V.cells,V.boxable,over,Nat.reduceLeDiff,eq_self,ne_eq,reduceIte,Nat.reduceBEq,Nat.reduceLT,Nat.reduceEqDiff,Nat.reduceAdd,Int.ofNat_lt,hlt,decide_true,e1,dd];refine fun_ret (f1 _) ?_;by_cases h0:fldE fs[j]=0
   ·rw[if_neg (by simp[h0])]at hI;simp -dsimp -implicitDefEqProofs only[aw,V.copy,eq_self,ne_eq,reduceIte,Nat.reduceBEq,Nat.reduceLT,Nat.reduceEqDiff,h0,decide_true,wj];exact⟨hlt,Nxt.drp1 (by simp) (boxesBelow_app hb rfl) (by simp[slotsBelow,V.under]) ⟨rfl,rfl,hI⟩⟩
   ·rw[if_pos h0]at hI;rw[hI,if_pos h0];simp -dsimp -implicitDefEqProofs only[aw,V.copy,eq_self,reduceIte,Nat.reduceBEq,Nat.reduceLT,Nat.reduceEqDiff,decide_eq_false h0];first|exact fin_ret hb rfl rfl List.take_length ⟨rfl,rfl⟩|exact fin_ret hb rfl rfl List.take_left ⟨rfl,rfl⟩|(trace_state;fail "fin")
  ·rw[List.drop_eq_nil_of_le (by omega),fldsE]at hI;rw[hI,if_neg (by simp)];simp -dsimp -implicitDefEqProofs only[aw,V.copy,V.lend,Nat.reduceLeDiff,eq_self,reduceIte,Nat.reduceBEq,Nat.reduceLT,Nat.reduceEqDiff,Nat.reduceAdd,Int.ofNat_lt,hlt,decide_false];refine fun_ret (cont_fun bl hbk _) ?_;by_cases hi0:0≤idxB bl 0
   ·rw[if_pos hi0];simp -dsimp -implicitDefEqProofs only[aw,V.copy,eq_self,reduceIte,Nat.reduceBEq,Nat.reduceLT,Nat.reduceEqDiff,decide_eq_true hi0];first|exact fin_ret hb rfl rfl List.take_length ⟨rfl,rfl⟩|exact fin_ret hb rfl rfl List.take_left ⟨rfl,rfl⟩|(trace_state;fail "fin")
   ·rw[if_neg hi0];simp -dsimp -implicitDefEqProofs only[aw,V.copy,V.lend,Nat.reduceLeDiff,eq_self,reduceIte,Nat.reduceBEq,Nat.reduceLT,Nat.reduceEqDiff,Nat.reduceAdd,decide_eq_false hi0];refine fun_ret (rep_flds fs hf _) ?_;by_cases n1:¬(fs.map Fl.name).Nodup
    ·rw[if_pos (.inl n1)];simp -dsimp -implicitDefEqProofs only[aw,V.copy,eq_self,reduceIte,Nat.reduceBEq,Nat.reduceLT,Nat.reduceEqDiff,decide_eq_true n1];first|exact fin_ret hb rfl rfl List.take_length ⟨rfl,rfl⟩|exact fin_ret hb rfl rfl List.take_left ⟨rfl,rfl⟩|(trace_state;fail "fin")
    ·simp -dsimp -implicitDefEqProofs only[aw,V.copy,V.lend,Nat.reduceLeDiff,eq_self,reduceIte,Nat.reduceLT,Nat.reduceEqDiff,Nat.reduceAdd,decide_eq_false n1];refine fun_ret (rep_blks bl hbk _) ?_;by_cases n2:¬(bl.map Prod.fst).Nodup
     ·rw[if_pos (.inr n2)];simp -dsimp -implicitDefEqProofs only[aw,V.copy,cond_false,eq_self,reduceIte,Nat.reduceBEq,Nat.reduceLT,Nat.reduceEqDiff,decide_eq_true n2];first|exact fin_ret hb rfl rfl List.take_length ⟨rfl,rfl⟩|exact fin_ret hb rfl rfl List.take_left ⟨rfl,rfl⟩|(trace_state;fail "fin")
     ·rw[if_neg (fun h=>h.elim n1 n2)];simp -dsimp -implicitDefEqProofs only[aw,V.copy,cond_false,eq_self,reduceIte,Nat.reduceBEq,Nat.reduceLT,Nat.reduceEqDiff,decide_eq_false n2];first|exact fin_ret hb rfl rfl List.take_length ⟨rfl,rfl⟩|exact fin_ret hb rfl rfl List.take_left ⟨rfl,rfl⟩|(trace_state;fail "fin")
theorem items_fun:∀l:List It,ibigs l≤1100000→ItsOK l:=by
 refine its_ind2 fun l ih hbig=>items_step l hbig fun x hx=>?_;have h1:=ibigs_mem hx;have h2:=ibig_eq x;obtain⟨i1,i2⟩:=ih x hx;exact⟨i1 (by omega),i2 (by omega)⟩
theorem valid_rvl{l:List It}(h:validI l=0):rvl l 0=0:=by
 unfold validI at h;split at h
 ·cases h
 ·exact h
def itemsT(l:List It)(n:Int):Bs:=if validI l=0∧0≤n∧n≤32 then lnsT n.toNat (lns l)else[]
theorem itemsT_len{l:List It}(n:Int)(hbig:ibigs l≤1100000):(itemsT l n).length≤1000000000:=by
 unfold itemsT;split
 ·rename_i h;have h1:=lns_len n.toNat l 0 (valid_rvl h.1);have h2:ibigs l*(12*n.toNat+172)≤1100000*(12*32+172):=Nat.mul_le_mul hbig (by omega);simp only[Nat.add_zero]at h1;omega
 ·simp
theorem addT_none(x:Bs):addT none x≠some []∧(addT none x).getD []=x:=by
 unfold addT;by_cases h:x=[]
 ·simp[h]
 ·simp[h]
set_option maxHeartbeats 4000000 in
theorem ctItems_fun(l:List It)(n:Int)(hbig:ibigs l≤1100000)(σ:List (List V)):Fun G 17 [.d (ditl l),.d (dint n)] σ (RetV (.d (dstr (bs (itemsT l n)))) σ):=by
 have hlen:=itemsT_len n hbig;refine fun_code Tryz.func17 k17 rfl fun hb hw=>?_;unfold c17;simp -dsimp -implicitDefEqProofs only[aw,slots0,V.copy,V.lend,eq_self,reduceIte,reduceCtorEq,Nat.reduceBEq,Nat.reduceLT,Nat.reduceEqDiff];refine fun_ret (valid_item l hbig _) ?_;by_cases hv:validI l=0
 ·by_cases h0:n<0
  ·have:itemsT l n=[]:=by unfold itemsT;rw[if_neg (by omega)]
   rw[this];simp -dsimp -implicitDefEqProofs only[aw,V.copy,V.cells,over,bldV,Nat.reduceLeDiff,cond_false,eq_self,reduceIte,reduceCtorEq,Nat.reduceBEq,Nat.reduceLT,Nat.reduceEqDiff,Nat.reduceAdd,decide_eq_true hv,decide_eq_true h0];first|exact fin_ret hb rfl rfl List.take_length ⟨rfl,rfl⟩|exact fin_ret hb rfl rfl List.take_left ⟨rfl,rfl⟩|(trace_state;fail "fin")
  by_cases h1:32<n
  ·have:itemsT l n=[]:=by unfold itemsT;rw[if_neg (by omega)]
   rw[this];simp -dsimp -implicitDefEqProofs only[aw,V.copy,V.cells,over,bldV,Nat.reduceLeDiff,cond_false,eq_self,reduceIte,reduceCtorEq,Nat.reduceBEq,Nat.reduceLT,Nat.reduceEqDiff,Nat.reduceAdd,decide_eq_true hv,decide_eq_false h0,decide_eq_true h1];first|exact fin_ret hb rfl rfl List.take_length ⟨rfl,rfl⟩|exact fin_ret hb rfl rfl List.take_left ⟨rfl,rfl⟩|(trace_state;fail "fin")
  have hT:itemsT l n=lnsT n.toNat (lns l):=by unfold itemsT;rw[if_pos ⟨hv,by omega,by omega⟩]
  rw[hT]at hlen ⊢;obtain⟨m,rfl⟩:=Int.eq_ofNat_of_zero_le (show 0≤n by omega);rw[Int.toNat_natCast]at hlen ⊢;have hi:=fun S h=>items_fun l hbig 0 (valid_rvl hv) σ.length none m S h (by omega) (by show 0+_≤_;omega);generalize hX:lnsT m (lns l)=X at *;obtain⟨z1,z2⟩:=addT_none X;have hs:=fun S h=>bstr_fun σ.length (addT none X) m z1 (by rw[z2];omega) S h;rw[z2]at hs;simp -dsimp -implicitDefEqProofs only[aw,V.copy,V.lend,V.cells,over,bldV,Nat.reduceLeDiff,cond_false,eq_self,reduceIte,reduceCtorEq,Nat.reduceBEq,Nat.reduceLT,Nat.reduceEqDiff,Nat.reduceAdd,decide_eq_true hv,decide_eq_false h0,decide_eq_false h1];refine fun_to (hi _ (List.getElem?_concat_length ..)) ?_;rw[List.set_append_right _ _ (Nat.le_refl _),Nat.sub_self];simp -dsimp -implicitDefEqProofs only[aw,V.copy,V.lend,eq_self,reduceIte,reduceCtorEq,Nat.reduceBEq,Nat.reduceLT,Nat.reduceEqDiff]
  refine fun_to (hs _ (List.getElem?_concat_length ..)) ?_;rw[List.set_append_right _ _ (Nat.le_refl _),Nat.sub_self];simp -dsimp -implicitDefEqProofs only[aw,V.copy,eq_self,reduceIte,Nat.reduceBEq,Nat.reduceLT,Nat.reduceEqDiff];exact fin_ret hb rfl rfl List.take_left ⟨rfl,rfl⟩
 ·have:itemsT l n=[]:=by unfold itemsT;rw[if_neg (fun h=>hv h.1)]
  rw[this];simp -dsimp -implicitDefEqProofs only[aw,V.copy,V.cells,over,bldV,Nat.reduceLeDiff,eq_self,reduceIte,reduceCtorEq,Nat.reduceBEq,Nat.reduceLT,Nat.reduceEqDiff,Nat.reduceAdd,decide_eq_false hv];first|exact fin_ret hb rfl rfl List.take_length ⟨rfl,rfl⟩|exact fin_ret hb rfl rfl List.take_left ⟨rfl,rfl⟩|(trace_state;fail "fin")
end Go.Proofs.YtcbahpllcfbkmaaGreatDoor
