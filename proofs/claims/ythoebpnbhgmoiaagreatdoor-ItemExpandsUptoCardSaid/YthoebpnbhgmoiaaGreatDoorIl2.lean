import Derived.Test.YthoebpnbhgmoiaaGreatDoorIl1
import Derived.Test.YthoebpnbhgmoiaaGreatDoorEval8
import Derived.Test.YthoebpnbhgmoiaaGreatDoorWord2
set_option linter.unusedVariables false
set_option linter.unusedSimpArgs false
set_option linter.unusedSectionVars false
namespace Go.Proofs.YthoebpnbhgmoiaaGreatDoor
open Go.RowKit
theorem rvalue_fun(e:Ex)(env:List Sig)(hs:esize e≤999999)(σ:List (List V)):Fun G 23 [vex e,.d (dsigs env)] σ (RetV (.d (dint (vE env e))) σ):=by
 refine fun_code Tryz.func23 k23 (by simp only[vex_eq];rfl) fun hb hw=>?_;delta c23 oM oV kI kS kT kF;unfold vE;have h:=fun σ=>reval_fun e env (by omega) (by have:=depth_le e;omega) σ;simp only[vex_eq]at h;simp -dsimp -implicitDefEqProofs only[aw,slots0,V.copy,V.lend,V.lend1,V.cells,V.boxable,Nat.reduceLeDiff,eq_self,reduceIte,reduceCtorEq,Nat.reduceBEq,Nat.reduceLT,Nat.reduceEqDiff,Nat.reduceAdd,vex_eq];refine fun_ret (h _) ?_;simp -dsimp -implicitDefEqProofs only[aw,V.copy,eq_self,reduceIte,Nat.reduceBEq,Nat.reduceLT,Nat.reduceEqDiff];first|exact fin_ret hb rfl rfl List.take_length ⟨rfl,rfl⟩|exact fin_ret hb rfl rfl List.take_left ⟨rfl,rfl⟩
theorem size_fun(c:Cl)(s:ByteArray)(hl:c.fields.length≤1000000)(σ:List (List V)):Fun G 56 [vcl c,.d (dstr s)] σ (RetV (.d (dint (fszI (fldS c) s))) σ):=by
 refine fun_code Tryz.func56 k56 rfl fun hb hw=>?_;delta c56 oM oV kI kS kT kF;unfold fszI;simp -dsimp -implicitDefEqProofs only[aw,slots0,V.copy,V.cells,V.boxable,eq_self,reduceIte,reduceCtorEq,Nat.reduceBEq,Nat.reduceLT,Nat.reduceEqDiff];refine awp_for (R:=fun(j:Nat) ρ σ'=>ρ=[(1,.d (dstr s)),(2,.ptr σ.length 0),(5,vint .i64 j)]∧σ'=σ++[clsC c]∧fsz (fldS c) s=fsz ((fldS c).drop j) s) c.fields.length ⟨rfl,rfl,rfl⟩ ?_ _;rintro j ρ' σ' hj ⟨rfl,rfl,hr⟩;by_cases hlt:j<c.fields.length
 ·rw[fsz_drop c s hlt]at hr;have hxx:c.fields[j]? = some c.fields[j]:=List.getElem?_eq_getElem hlt;generalize c.fields[j]=f at hr hxx;have hd:dfd f=[dstr f.name,dint f.width,dint f.size,dint f.mode,dint f.init]:=rfl;have wj:=wrap_nat hlt (show c.fields.length≤9223372036854775807 by omega);by_cases e:f.name=s
  ·rw[if_pos e]at hr;rw[hr,Option.getD_some];simp -dsimp -implicitDefEqProofs only[aw,V.copy,Nat.reduceLeDiff,eq_self,reduceIte,Nat.reduceBEq,Nat.reduceLT,Nat.reduceEqDiff,Nat.reduceAdd,Int.ofNat_lt,hlt,decide_true,hxx,hd,decide_eq_true e];first|exact fin_ret hb rfl rfl List.take_length ⟨rfl,rfl⟩|exact fin_ret hb rfl rfl List.take_left ⟨rfl,rfl⟩
  ·rw[if_neg e]at hr;simp -dsimp -implicitDefEqProofs only[aw,V.copy,Nat.reduceLeDiff,eq_self,reduceIte,Nat.reduceBEq,Nat.reduceLT,Nat.reduceEqDiff,Nat.reduceAdd,Int.ofNat_lt,hlt,decide_true,hxx,hd,decide_eq_false e,wj];exact Nxt.same (by simp) (boxesBelow_app hb rfl) (by simp[slotsBelow,V.under]) ⟨rfl,rfl,hr⟩
 ·have h0:(fldS c).drop j=[]:=List.drop_eq_nil_of_le (by unfold fldS;rw[List.length_map];omega);rw[h0]at hr;have h1:fsz [] s=none:=rfl;rw[h1]at hr;rw[hr,Option.getD_none];simp -dsimp -implicitDefEqProofs only[aw,V.copy,Nat.reduceLeDiff,eq_self,reduceIte,Nat.reduceBEq,Nat.reduceLT,Nat.reduceEqDiff,Nat.reduceAdd,Int.ofNat_lt,hlt,decide_false];first|exact fin_ret hb rfl rfl List.take_length ⟨rfl,rfl⟩|exact fin_ret hb rfl rfl List.take_left ⟨rfl,rfl⟩
theorem two_list{t:ByteArray}(h:t.size=2):t.data.toList=[t[0]'(by omega),t[1]'(by omega)]:=by
 have hl:t.data.toList.length=2:=by rw[←Lib.size_eq];exact h
 have h0:=get_list t 0 (by omega);have h1:=get_list t 1 (by omega)
 match hq:t.data.toList,hl with
 | [a,b],_=>
  rw[hq]at h0 h1;simp only[List.getElem?_cons_zero,List.getElem?_cons_succ,Option.some.injEq]at h0 h1;rw[←h0,←h1]
theorem spl_elem(s a:ByteArray)(k:Int)(h:splE s=some (a,k)):0≤k∧s=elemName a k.toNat:=by
 have he:elemB s=true:=by
  cases hb:elemB s with
  | true=>rfl
  | false=>rw[splE_none hb]at h;cases h
 obtain⟨hl,hs⟩:=splE_elem he;rw[hs]at h;simp only[Option.some.injEq,Prod.mk.injEq]at h;obtain⟨rfl,rfl⟩:=h;unfold elemB at he;simp only[Bool.and_eq_true]at he;obtain⟨⟨h1,h2⟩,h3⟩:=he;have hi:0≤Lib.indexByte s.data.toList 91:=of_decide_eq_true h1;obtain⟨o,ho⟩:=Int.eq_ofNat_of_zero_le hi;have hne:¬Lib.indexByte s.data.toList 91 = -1:=by omega
 have hA:(cutA s 91).data.toList=s.data.toList.take o:=by
  unfold cutA;rw[if_neg hne,ho,Lib.extract_eq];simp
 have hB:(cutB s 91).data.toList=s.data.toList.drop (o+1):=by
  unfold cutB;rw[if_neg hne,ho,Lib.extract_eq];have hz:(s.data.toList.drop (o+1)).length≤s.size-(o+1):=by rw[List.length_drop,←Lib.size_eq];exact Nat.le_refl _
  first
   | (show List.take (s.size-(o+1)) (s.data.toList.drop (o+1))=_;exact List.take_of_length_le hz)
   | (show List.drop (o+1) (s.data.toList.take s.size)=_;rw[List.take_of_length_le (by rw[←Lib.size_eq];exact Nat.le_refl _)])
 have hat:s.data.toList[o]? = some 91:=(Lib.indexByte_some ho).1
 have hz:(cutB s 91).size=2:=by
  refine Decidable.byContradiction fun hn=>?_;rw[closeB_ne hn]at h3;cases h3
 rw[closeB_eq hz]at h3;simp only[Bool.and_eq_true,decide_eq_true_eq]at h3;have ht:=two_list hz;generalize (cutB s 91)[0]'(by omega)=x at *;generalize (cutB s 91)[1]'(by omega)=y at *;obtain⟨⟨g1,g2⟩,g3⟩:=h3
 have hy:y=93:=by
  have:y.toNat=(93:UInt8).toNat:=g1;exact UInt8.toNat_inj.1 this
 refine⟨by omega,?_⟩;have hol:=(List.getElem?_eq_some_iff.1 hat).1
 have hsplit:s.data.toList=s.data.toList.take o++91::s.data.toList.drop (o+1):=by
  conv=>lhs;rw[←List.take_append_drop o s.data.toList,List.drop_eq_getElem_cons hol]
  rw[(List.getElem?_eq_some_iff.1 hat).2]
 have hx:(48+((x.toNat:Int)-48).toNat).toUInt8=x:=by
  have e:48+((x.toNat:Int)-48).toNat=x.toNat:=by omega
  rw[e];apply UInt8.toNat_inj.1;have:=x.toNat_lt;show x.toNat%256=x.toNat;omega
 apply ByteArray.ext;apply Array.ext';unfold elemName;rw[hx,hA];rw[←hB,ht,hy]at hsplit;exact hsplit
theorem envF_len(u:List Int)(l:List ByteArray):∀i,(envF l u i).length=l.length:=by
 induction l with
 | nil=>intro i;rfl
 | cons a r ih=>intro i;rw[envF,List.length_cons,List.length_cons,ih]
theorem envF_app(u:List Int)(s:ByteArray)(l:List ByteArray):∀i,envF (l++[s]) u i=envF l u i++[⟨s,u.getD (i+l.length) 0⟩]:=by
 induction l with
 | nil=>intro i;simp[envF]
 | cons a r ih=>
  intro i;rw[List.cons_append,envF,ih,envF,List.cons_append,List.length_cons];rw[show i+1+r.length=i+(r.length+1)by omega]
def eltsF(f:ByteArray×Int):List ByteArray:=if 0<f.2 then(List.range f.2.toNat).map (elemName f.1)else[f.1]
theorem varsF_eq(fs:List (ByteArray×Int)):varsF fs=fs.flatMap eltsF:=rfl
theorem varsF_take(c:Cl){j:Nat}(h:j<c.fields.length):varsF ((fldS c).take (j+1))=varsF ((fldS c).take j)++eltsF (c.fields[j].name,c.fields[j].size):=by
 have h':j<(fldS c).length:=by unfold fldS;simpa using h
 have he:(fldS c)[j]=(c.fields[j].name,c.fields[j].size):=by simp[fldS]
 rw[varsF_eq,varsF_eq,List.take_add_one,List.getElem?_eq_getElem h',he,List.flatMap_append];simp
theorem eltsF_le{f:ByteArray×Int}(h:f.2≤8):(eltsF f).length≤8:=by
 unfold eltsF;split
 ·rw[List.length_map,List.length_range];omega
 ·simp
theorem varsF_le(fs:List (ByteArray×Int))(h:∀f,f∈fs→f.2≤8):(varsF fs).length≤fs.length*8:=by
 induction fs with
 | nil=>simp[varsF]
 | cons a r ih=>
  rw[varsF_eq,List.flatMap_cons,List.length_append,←varsF_eq,List.length_cons];have:=ih fun f hf=>h f (List.mem_cons_of_mem _ hf);have:=eltsF_le (h a (List.mem_cons_self ..));omega
abbrev osg(l:List Sig):V:=.own 96 2 (l.map fun s=>[dstr s.name,dint s.val])
abbrev dnum(u:List Int):D:=.sl (u.map fun n=>[dint n])
set_option maxHeartbeats 4000000 in
theorem env_fun(c:Cl)(u:List Int)(hs:SmallF (fldS c))(hc:c.fields.length≤20)(hu:u.length≤1048576)(σ:List (List V)):Fun G 22 [vcl c,.d (dnum u)] σ (RetV (.d (dsigs (envF (varsF (fldS c)) u 0))) σ):=by
 refine fun_code Tryz.func22 k22 rfl fun hb hw=>?_;delta c22 oM oV kI kS kT kF;have hfl:(fldS c).length=c.fields.length:=by unfold fldS;rw[List.length_map]
 simp -dsimp -implicitDefEqProofs only[aw,slots0,V.copy,V.cells,V.boxable,eq_self,reduceIte,reduceCtorEq,Nat.reduceBEq,Nat.reduceLT,Nat.reduceEqDiff];refine awp_for (R:=fun(j:Nat) ρ σ'=>ρ=[(1,.d (dnum u)),(2,.ptr σ.length 0),(5,osg (envF (varsF ((fldS c).take j)) u 0)),(6,vint .i64 j)]∧σ'=σ++[clsC c]) c.fields.length ⟨by simp[varsF,envF],rfl⟩ ?_ _;rintro j ρ' σ' hj ⟨rfl,rfl⟩;by_cases hlt:j<c.fields.length
 case neg=>
  simp -dsimp -implicitDefEqProofs only[aw,V.copy,Nat.reduceLeDiff,eq_self,reduceIte,Nat.reduceBEq,Nat.reduceLT,Nat.reduceEqDiff,Nat.reduceAdd,Int.ofNat_lt,hlt,decide_false];rw[List.take_of_length_le (by omega)];exact fin_ret (v:=.d (dsigs (envF (varsF (fldS c)) u 0))) hb (by simp[rs22,resV,res1,dsigs,aw,V.lend,eq_self,reduceIte]) rfl List.take_left ⟨rfl,rfl⟩
 have hxx:c.fields[j]? = some c.fields[j]:=List.getElem?_eq_getElem hlt;have hvt:=varsF_take c hlt;have hsf:(c.fields[j].name,c.fields[j].size)∈fldS c:=List.mem_map.2 ⟨_,List.getElem_mem hlt,rfl⟩;have hPl:=varsF_le ((fldS c).take j) (fun f hf=>(hs.sz f (List.mem_of_mem_take hf)).2.1);rw[List.length_take]at hPl;have wj:=wrap_nat hlt (show c.fields.length≤9223372036854775807 by omega);generalize c.fields[j]=f at hxx hvt hsf;obtain⟨hf0,hf8,hfn⟩:=hs.sz _ hsf;have hf0:0≤f.size:=hf0;have hf8:f.size≤8:=hf8;have hfs:f.name.size≤1000:=by have:=nameB_size hfn;show f.name.size≤1000;have h2:f.name.size≤16:=this;omega
 generalize varsF ((fldS c).take j)=P at hvt hPl ⊢;have hd:dfd f=[dstr f.name,dint f.width,dint f.size,dint f.mode,dint f.init]:=rfl;have e1:∀a:List V,σ++[clsC c,a]=(σ++[clsC c])++[a]:=fun a=>by simp
 simp -dsimp -implicitDefEqProofs only[aw,V.copy,V.cells,V.boxable,over,Nat.reduceLeDiff,eq_self,reduceIte,Nat.reduceBEq,Nat.reduceLT,Nat.reduceEqDiff,Nat.reduceAdd,Int.ofNat_lt,hlt,decide_true,hxx,hd]
 have hEl:(eltsF (f.name,f.size)).length=if 0<f.size then f.size.toNat else 1:=by
  unfold eltsF;show(if 0<f.size then _ else _:List ByteArray).length=_;split
  ·rw[List.length_map,List.length_range]
  ·rfl
 refine awp_for (R:=fun(i:Nat) ρ σ'=>ρ=[(1,.d (dnum u)),(2,.ptr σ.length 0),(5,osg (envF (P++(eltsF (f.name,f.size)).take i) u 0)),(6,vint .i64 j),(7,.ptr (σ.length+1) 0),(8,vint .i64 i)]∧σ'=σ++[clsC c,[.d (dstr f.name),.d (dint f.width),.d (dint f.size),.d (dint f.mode),.d (dint f.init)]]) (eltsF (f.name,f.size)).length ⟨by simp,rfl⟩ ?_ _;rintro i ρ' σ' hi ⟨rfl,rfl⟩;by_cases hit:i<(eltsF (f.name,f.size)).length
 case neg=>
  have hn1:¬(i:Int)<f.size:=by split at hEl<;>omega
  have hn2:¬(i:Int)=0:=by split at hEl<;>omega
  simp -dsimp -implicitDefEqProofs only[aw,V.copy,Nat.reduceLeDiff,cond_false,eq_self,reduceIte,reduceCtorEq,Nat.reduceBEq,Nat.reduceLT,Nat.reduceEqDiff,Nat.reduceAdd,decide_eq_false hn1,decide_eq_false hn2,wj];rw[e1];refine⟨hlt,Nxt.drop (by simp) (boxesBelow_app hb rfl) (by simp[slotsBelow,V.under]) ⟨?_,rfl⟩⟩;rw[List.take_of_length_le (by omega),hvt]
 have hst:P++(eltsF (f.name,f.size)).take (i+1)=(P++(eltsF (f.name,f.size)).take i)++[(eltsF (f.name,f.size))[i]]:=by
  rw[List.take_add_one,List.getElem?_eq_getElem hit,List.append_assoc];rfl
 have hQl:(P++(eltsF (f.name,f.size)).take i).length=P.length+i:=by rw[List.length_append,List.length_take];omega
 have hnm:(eltsF (f.name,f.size))[i]=if 0<f.size then elemName f.name i else f.name:=by
  have:(eltsF (f.name,f.size))[i]? = some (if 0<f.size then elemName f.name i else f.name):=by
   unfold eltsF;show(if 0<f.size then(List.range f.size.toNat).map (elemName f.name)else[f.name]:List ByteArray)[i]? = _;split at hEl
   ·rename_i h0;rw[if_pos h0,if_pos h0,List.getElem?_map,List.getElem?_range (by omega)];rfl
   ·rename_i h0;rw[if_neg h0,if_neg h0,show i=0 by omega];rfl
  rw[List.getElem?_eq_getElem hit]at this;exact Option.some.inj this
 have happ:=envF_app u (eltsF (f.name,f.size))[i] (P++(eltsF (f.name,f.size)).take i) 0;rw[←hst,Nat.zero_add]at happ;have hel:=envF_len u (P++(eltsF (f.name,f.size)).take i) 0;have hi8:i≤8:=by split at hEl<;>omega
 generalize (eltsF (f.name,f.size))[i]=nm at hnm happ;generalize P++(eltsF (f.name,f.size)).take i=Q at hQl happ hel ⊢;generalize envF Q u 0=E at happ hel ⊢;have hmap:(envF (P++(eltsF (f.name,f.size)).take (i+1)) u 0).map (fun s:Sig=>[dstr s.name,dint s.val])=E.map (fun s:Sig=>[dstr s.name,dint s.val])++[[dstr nm,dint (u.getD Q.length 0)]]:=by rw[happ,List.map_append];rfl
 have wi:IntKind.i64.wrap ((i:Int)+1)=((i+1:Nat):Int):=by rw[wrap_i64 (by omega) (by omega)];omega
 have hcast:((E.length:Nat):Int)=((Q.length:Nat):Int):=by rw[hel]
 have fin2:∀S,S=σ++[clsC c,[V.d (dstr f.name),.d (dint f.width),.d (dint f.size),.d (dint f.mode),.d (dint f.init)]]→True:=fun _ _=>trivial;by_cases h0:0<f.size
 ·rw[if_pos h0]at hnm hEl;subst hnm;have hn1:(i:Int)<f.size:=by omega
  have hrel:=fun σ=>relem_fun f.name hfs i (by omega) σ;by_cases hv:Q.length<u.length
  ·have hv':((Q.length:Nat):Int)<((u.length:Nat):Int):=by omega
   have hux:u[Q.length]? = some (u.getD Q.length 0):=by rw[List.getElem?_eq_getElem hv,List.getD_eq_getElem?_getD,List.getElem?_eq_getElem hv];rfl
   simp -dsimp -implicitDefEqProofs only[aw,V.copy,V.lend,Nat.reduceLeDiff,eq_self,reduceIte,Nat.reduceBEq,Nat.reduceLT,Nat.reduceEqDiff,Nat.reduceAdd,decide_eq_true hn1,decide_eq_true h0];refine fun_ret (hrel _) ?_;simp -dsimp -implicitDefEqProofs only[aw,V.copy,V.cells,over,bldV,rowsOf,plains,V.plain,Nat.reduceLeDiff,eq_self,reduceIte,Nat.reduceBEq,Nat.reduceLT,Nat.reduceEqDiff,Nat.reduceAdd,hcast,decide_eq_true hv',hux];refine onT_intro (by first|omega|(simp only[List.length_map]at *;omega)) ?_;simp -dsimp -implicitDefEqProofs only[aw,V.copy,eq_self,reduceIte,Nat.reduceBEq,Nat.reduceLT,Nat.reduceEqDiff,wi];exact⟨hit,Nxt.same (by simp) (boxesBelow_app hb rfl) (by simp[slotsBelow,V.under]) ⟨by simp only[osg];rw[hmap],rfl⟩⟩
  ·have hv':¬((Q.length:Nat):Int)<((u.length:Nat):Int):=by omega
   have hux:u.getD Q.length 0=0:=by rw[List.getD_eq_getElem?_getD,List.getElem?_eq_none (by omega)];rfl
   rw[hux]at hmap;simp -dsimp -implicitDefEqProofs only[aw,V.copy,V.lend,Nat.reduceLeDiff,eq_self,reduceIte,Nat.reduceBEq,Nat.reduceLT,Nat.reduceEqDiff,Nat.reduceAdd,decide_eq_true hn1,decide_eq_true h0];refine fun_ret (hrel _) ?_;simp -dsimp -implicitDefEqProofs only[aw,V.copy,V.cells,over,bldV,rowsOf,plains,V.plain,Nat.reduceLeDiff,eq_self,reduceIte,Nat.reduceBEq,Nat.reduceLT,Nat.reduceEqDiff,Nat.reduceAdd,hcast,decide_eq_false hv'];refine onT_intro (by first|omega|(simp only[List.length_map]at *;omega)) ?_;simp -dsimp -implicitDefEqProofs only[aw,V.copy,eq_self,reduceIte,Nat.reduceBEq,Nat.reduceLT,Nat.reduceEqDiff,wi];exact⟨hit,Nxt.same (by simp) (boxesBelow_app hb rfl) (by simp[slotsBelow,V.under]) ⟨by simp only[osg];rw[hmap],rfl⟩⟩
 ·rw[if_neg h0]at hnm hEl;subst hnm;have hi0:i=0:=by omega
  subst hi0;have hn1:¬((0:Nat):Int)<f.size:=by omega
  have hn2:((0:Nat):Int)=0:=rfl;by_cases hv:Q.length<u.length
  ·have hv':((Q.length:Nat):Int)<((u.length:Nat):Int):=by omega
   have hux:u[Q.length]? = some (u.getD Q.length 0):=by rw[List.getElem?_eq_getElem hv,List.getD_eq_getElem?_getD,List.getElem?_eq_getElem hv];rfl
   simp -dsimp -implicitDefEqProofs only[aw,V.copy,V.cells,over,bldV,rowsOf,plains,V.plain,Nat.reduceLeDiff,cond_false,eq_self,reduceIte,Nat.reduceBEq,Nat.reduceLT,Nat.reduceEqDiff,Nat.reduceAdd,decide_eq_false hn1,decide_eq_true hn2,decide_eq_false h0,hcast,decide_eq_true hv',hux];refine onT_intro (by first|omega|(simp only[List.length_map]at *;omega)) ?_;simp -dsimp -implicitDefEqProofs only[aw,V.copy,eq_self,reduceIte,Nat.reduceBEq,Nat.reduceLT,Nat.reduceEqDiff,wi];exact⟨hit,Nxt.same (by simp) (boxesBelow_app hb rfl) (by simp[slotsBelow,V.under]) ⟨by simp only[osg];rw[hmap],rfl⟩⟩
  ·have hv':¬((Q.length:Nat):Int)<((u.length:Nat):Int):=by omega
   have hux:u.getD Q.length 0=0:=by rw[List.getD_eq_getElem?_getD,List.getElem?_eq_none (by omega)];rfl
   rw[hux]at hmap;simp -dsimp -implicitDefEqProofs only[aw,V.copy,V.cells,over,bldV,rowsOf,plains,V.plain,Nat.reduceLeDiff,cond_false,eq_self,reduceIte,Nat.reduceBEq,Nat.reduceLT,Nat.reduceEqDiff,Nat.reduceAdd,decide_eq_false hn1,decide_eq_true hn2,decide_eq_false h0,hcast,decide_eq_false hv'];refine onT_intro (by first|omega|(simp only[List.length_map]at *;omega)) ?_;simp -dsimp -implicitDefEqProofs only[aw,V.copy,eq_self,reduceIte,Nat.reduceBEq,Nat.reduceLT,Nat.reduceEqDiff,wi];exact⟨hit,Nxt.same (by simp) (boxesBelow_app hb rfl) (by simp[slotsBelow,V.under]) ⟨by simp only[osg];rw[hmap],rfl⟩⟩
end Go.Proofs.YthoebpnbhgmoiaaGreatDoor
