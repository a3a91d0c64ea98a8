import Derived.Test.YthoebpnbhgmoiaaGreatDoorIt7
set_option linter.unusedVariables false
set_option linter.unusedSimpArgs false
set_option linter.unusedSectionVars false
namespace Go.Proofs.YthoebpnbhgmoiaaGreatDoor
open Go.RowKit
theorem elemName_inj{a b:ByteArray}{i j:Nat}(hi:i<8)(hj:j<8)(h:elemName a i=elemName b j):a=b∧i=j:=by
 have h1:=congrArg (fun s:ByteArray=>s.data.toList) h;simp only[elemName]at h1;have h2:=List.append_inj' h1 rfl;refine⟨ByteArray.ext (Array.toList_inj.1 h2.1),?_⟩;have h3:=h2.2;simp only[List.cons.injEq,and_true,true_and]at h3;have h4:=congrArg UInt8.toNat h3;rw[show(48+i).toUInt8.toNat=(48+i)%256 from rfl,show(48+j).toUInt8.toNat=(48+j)%256 from rfl]at h4;omega
section
variable (spl : ByteArray → Option (ByteArray × Int)) (fs : List (ByteArray × Int))
structure EnvV(env:List Sig):Prop where
 var:∀s,varE spl fs s=0→(findS env s).isSome=true
 el:∀a (k:Nat),(k:Int)<fszI fs a→(findS env (elemName a k)).isSome=true
 out:∀a (k:Nat),1≤fszI fs a→nameB a=true→fszI fs a≤k→k<8→findS env (elemName a k)=none
theorem arr_I{s:ByteArray}(h:arrE fs s=0):1≤fszI fs s:=by
 unfold arrE at h;unfold fszI;split at h
 ·cases h
 ·rename_i n hn;rw[hn];split at h
  ·cases h
  ·show 1≤n;omega
theorem EnvV.ok{env:List Sig}(h:EnvV spl fs env):EnvOk spl fs [] env:=
 ⟨h.var,fun s hs=>h.el s 0 (by have:=arr_I fs hs;omega),fun s hs=>by cases hs⟩
theorem SOk_of(hf:∀s,fszI fs s≤8)(e:Ex):errE e=0→exprC spl fs [] e=0→SOk fs e:=by
 induction e using Ex.ind with
 | h o n s l ih=>
 intro he hc;rw[exprC_zero]at hc;obtain⟨h1,h2⟩:=errE_node he;obtain⟨k1,k2,k3,k4,k5,k6,k7,k8⟩:=node_ok h1;have hc0:=hc (.mk o n s l) (by rw[nodesE];exact List.mem_cons_self ..);unfold nodeC at hc0
 have hlen:∀m:Int,o≠23→arity o=m→(l.length:Int)=m:=fun m h23 hm=>by
  unfold operB at k4;rw[if_neg h23]at k4;rw[of_decide_eq_true k4,hm]
 rw[SOk];refine⟨fun ho=>⟨?_,hf s,k6 ho⟩,fun ho=>?_,fun ho=>?_,fun ho=>?_,fun ho h0=>?_,(SOkL_mem fs).2 fun a ha=>ih a ha (errL_mem h2 a ha) ((exprC_zero _ _ _ _).2 fun m hm=>hc m (by rw[nodesE];exact List.mem_cons_of_mem _ (nodesL_mem.2 ⟨a,ha,hm⟩)))⟩
 ·rw[if_neg (show ¬(Ex.mk o n s l).op=2 from by show ¬o=2;omega),if_pos (show(Ex.mk o n s l).op=3∨(Ex.mk o n s l).op=24 from ho)]at hc0;exact arr_I fs hc0
 ·have:=hlen 1 (by omega) (by subst ho;decide)
  match l,this with
  | [a],_=>exact⟨a,rfl⟩
 ·have:(l.length:Int)=0:=by
   rcases ho with ho|ho
   ·exact hlen 0 (by omega) (by subst ho;decide)
   ·exact hlen 0 (by omega) (by subst ho;decide)
  match l,this with
  | [],_=>rfl
 ·have:=k8 (by subst ho;decide);have h9:(s.toList==(⟨#[]⟩:ByteArray).toList)=true:=by rw[this];decide +kernel
  rw[str_eq]at h9;simpa using h9
 ·have:=k5 ho;rw[h0]at this
  revert this
  decide
theorem const_pos(e:Ex):errE e=0→∀n,n∈nodesE e→n.op=1→0≤n.num:=by
 induction e using Ex.ind with
 | h o m s l ih=>
 intro he n hn ho;obtain⟨h1,h2⟩:=errE_node he;rw[nodesE]at hn;rcases List.mem_cons.1 hn with rfl|hn
 ·exact((node_ok h1).2.2.1 ho).1
 ·obtain⟨a,ha,hn⟩:=nodesL_mem.1 hn;exact ih a ha (errL_mem h2 a ha) n hn ho
def scalarI(e:Ex):Ex×Int:=if validE e≠0 then(zeroE,validE e)else if exprC spl fs [] e≠0 then(zeroE,exprC spl fs [] e)else if validE (scE fs e)≠0 then(zeroE,2)else(scE fs e,0)
theorem valid_size{e:Ex}(h:validE e=0):esize e≤400∧edepth e≤24:=by
 unfold validE at h;split at h
 ·cases h
 ·rename_i hn;have:¬(24<edepth e∨400<esize e):=fun hh=>hn ⟨h,hh⟩;omega
theorem scalar_big{e:Ex}(hf:∀s,fszI fs s≤8)(hv:validE e=0)(hc:exprC spl fs [] e=0)(hb:400<psE fs e∨50000≤rwE fs e):scalarI spl fs e=(zeroE,2):=by
 have hS:=SOk_of spl fs hf e (validE_err hv) hc;have h1:=ps_t fs e hS;have h2:=rw_t fs e hS;have h3:=sc_size fs e hS;have h4:validE (scE fs e)≠0:=fun h=>by have:=(valid_size h).1;omega
 unfold scalarI;rw[if_neg (by simpa using hv),if_neg (by simpa using hc),if_pos h4]
end
def varsF(fs:List (ByteArray×Int)):List ByteArray:=fs.flatMap fun f=>if 0<f.2 then(List.range f.2.toNat).map (elemName f.1)else[f.1]
def envF:List ByteArray→List Int→Nat→List Sig
 | [],_,_=>[]
 | s::r,v,i=>⟨s,v.getD i 0⟩::envF r v (i+1)
theorem find_envF(l:List ByteArray)(v:List Int)(s:ByteArray):∀i,(findS (envF l v i) s).isSome=true↔s∈l:=by
 induction l with
 | nil=>intro i;simp[envF,findS]
 | cons a r ih=>
  intro i;rw[envF,List.mem_cons];simp only[findS];by_cases h:a=s
  ·rw[if_pos h];simp[h]
  ·rw[if_neg h,ih];exact⟨.inr,fun hh=>hh.resolve_left fun e=>h e.symm⟩
structure SmallF(fs:List (ByteArray×Int)):Prop where
 sz:∀f,f∈fs→0≤f.2∧f.2≤8∧nameB f.1=true
 nd:(fs.map (·.1)).Nodup
theorem fsz_mem{fs:List (ByteArray×Int)}{s:ByteArray}{n:Int}(h:fsz fs s=some n):(s,n)∈fs:=by
 unfold fsz at h;obtain⟨f,hf,rfl⟩:=Option.map_eq_some_iff.1 h;have h1:=List.mem_of_find?_eq_some hf;have h2:f.1=s:=by simpa using List.find?_some hf
 rw[←h2];exact h1
theorem SmallF.fsz{fs:List (ByteArray×Int)}(h:SmallF fs){f:ByteArray×Int}(hf:f∈fs):fsz fs f.1=some f.2:=by
 obtain⟨-,nd⟩:=h
 induction fs with
 | nil=>cases hf
 | cons a r ih=>
  rw[List.map_cons,List.nodup_cons]at nd;unfold Go.Proofs.YthoebpnbhgmoiaaGreatDoor.fsz at ih ⊢;rw[List.find?_cons];rcases List.mem_cons.1 hf with rfl|hf
  ·simp
  ·have:¬a.1=f.1:=fun e=>nd.1 (by rw[e];exact List.mem_map_of_mem hf);rw[decide_eq_false this];exact ih hf nd.2
theorem SmallF.le{fs:List (ByteArray×Int)}(h:SmallF fs)(s:ByteArray):0≤fszI fs s∧fszI fs s≤8:=by
 unfold fszI;cases hs:Go.Proofs.YthoebpnbhgmoiaaGreatDoor.fsz fs s with
 | none=>simp
 | some n=>have:=h.sz _ (fsz_mem hs);exact⟨this.1,this.2.1⟩
theorem SmallF.leN{fs:List (ByteArray×Int)}(h:SmallF fs)(s:ByteArray):fszN fs s≤8:=by
 have:=h.le s;unfold fszN;unfold fszI at this;omega
theorem env_ok{spl:ByteArray→Option (ByteArray×Int)}(hspl:∀s a k,spl s=some (a,k)→0≤k∧s=elemName a k.toNat){fs:List (ByteArray×Int)}(h:SmallF fs)(v:List Int):EnvV spl fs (envF (varsF fs) v 0):=by
 have hel:∀a (k:Nat),(k:Int)<fszI fs a→elemName a k∈varsF fs:=fun a k hk=>by
  unfold fszI at hk;cases hs:fsz fs a with
  | none=>rw[hs]at hk;simp at hk;omega
  | some n=>
   rw[hs]at hk;have hk:(k:Int)<n:=hk;refine List.mem_flatMap.2 ⟨(a,n),fsz_mem hs,?_⟩;rw[if_pos (by show 0<n;omega)];exact List.mem_map.2 ⟨k,List.mem_range.2 (by show k<n.toNat;omega),rfl⟩
 refine⟨fun s hs=>(find_envF _ _ _ _).2 ?_,fun a k hk=>(find_envF _ _ _ _).2 (hel a k hk),fun a k h1 ha hk hk8=>?_⟩
 ·unfold varE at hs;split at hs
  ·rename_i n hn;split at hs
   ·cases hs
   ·rename_i h0;refine List.mem_flatMap.2 ⟨(s,n),fsz_mem hn,?_⟩;rw[if_neg h0];exact List.mem_singleton.2 rfl
  ·split at hs
   ·cases hs
   ·rename_i a k hsp;obtain⟨e1,e2⟩:=hspl _ _ _ hsp;split at hs
    ·cases hs
    ·rename_i n hn;split at hs
     ·cases hs
     ·split at hs
      ·cases hs
      ·rw[e2];refine hel a _ ?_;unfold fszI;rw[hn];show((k.toNat:Nat):Int)<n;omega
 ·cases hf:findS (envF (varsF fs) v 0) (elemName a k)with
  | none=>rfl
  | some x=>
   exfalso;have hm:=(find_envF (varsF fs) v (elemName a k) 0).1 (by rw[hf];rfl);obtain⟨f,hf1,hf2⟩:=List.mem_flatMap.1 hm;have hs:=h.sz f hf1;split at hf2
   ·obtain⟨j,hj,he⟩:=List.mem_map.1 hf2;have hj:=List.mem_range.1 hj;obtain⟨e1,e2⟩:=elemName_inj (by omega) hk8 he;have:=h.fsz hf1;rw[e1]at this;unfold fszI at hk;rw[this]at hk;have hk:f.2≤k:=hk;omega
   ·exact elem_not hs.2.2 a k (List.mem_singleton.1 hf2).symm
end Go.Proofs.YthoebpnbhgmoiaaGreatDoor
