import Derived.Test.YtcbahpllcfbkmaaGreatDoorRefs8
import Derived.Test.YtcbahpllcfbkmaaGreatDoorData
import Derived.Test.YtcbahpllcfbkmaaGreatDoorNames2
import Derived.Test.YtcbahpllcfbkmaaGreatDoorBl2
import Derived.Test.YtcbahpllcfbkmaaGreatDoorK
import Derived.Test.YtcbahpllcfbkmaaGreatDoorNames
set_option linter.unusedVariables false
set_option linter.unusedSimpArgs false
set_option linter.unusedSectionVars false
namespace Go.Proofs.YtcbahpllcfbkmaaGreatDoor
open Go.RowKit
theorem depth_le(e:Ex):edepth e≤esize e:=by
 induction e using Ex.ind with
 | h o m s l ih=>
 simp only[edepth,esize]
 suffices H:∀(r:List Ex),(∀a,a∈r→a∈l)→edepths r≤esizes r by have:=H l (fun _ h=>h);omega
 intro r
 induction r with
 | nil=>intro _;simp[edepths,esizes]
 | cons a r ihr=>
  intro hm;have h1:=ih a (hm a (by simp));have h2:=ihr (fun x hx=>hm x (by simp[hx]));simp only[edepths,esizes];omega
theorem esize_pos(e:Ex):1≤esize e:=by cases e;simp[esize]
theorem len_le(l:List Ex):l.length≤esizes l:=by
 induction l with
 | nil=>simp
 | cons a r ih=>have:=esize_pos a;simp only[List.length_cons,esizes];omega
theorem see_first(e:Ex):∀(d:Int) (x:See),(seeE d e x).first=if x.first=0 then errE e else x.first:=by
 induction e using Ex.ind with
 | h o m s l ih=>
 intro d x
 suffices H:∀(r:List Ex),(∀a,a∈r→a∈l)→∀x:See,(seeL (d+1) r x).first=if x.first=0 then errL r else x.first by
  rw[seeE,H l (fun _ h=>h)];simp only[seeN,errE,exErr,Ex.op,Ex.num,Ex.name,Ex.args];repeat' split
  all_goals first|rfl|simp_all
 intro r
 induction r with
 | nil=>intro _ x;simp only[seeL,errL];split<;>simp_all
 | cons a r ihr=>
  intro hm x;rw[seeL,ihr (fun x hx=>hm x (by simp[hx])),ih a (hm a (by simp))];simp only[errL];repeat' split
  all_goals simp_all
theorem see_nodes(e:Ex):∀(d:Int) (x:See),0≤x.nodes→x.nodes+esize e≤1000000000→(seeE d e x).nodes=x.nodes+esize e:=by
 induction e using Ex.ind with
 | h o m s l ih=>
 intro d x h0 h1
 suffices H:∀(r:List Ex),(∀a,a∈r→a∈l)→∀x:See,0≤x.nodes→x.nodes+esizes r≤1000000000→(seeL (d+1) r x).nodes=x.nodes+esizes r by
  simp only[esize]at h1 ⊢;have hw:wrap64 (x.nodes+1)=x.nodes+1:=wrap64_of _ (by omega) (by omega);rw[seeE,H l (fun _ h=>h) _ (by simp only[seeN];omega) (by simp only[seeN];omega)];simp only[seeN];omega
 intro r
 induction r with
 | nil=>intro _ x _ _;simp[seeL,esizes]
 | cons a r ihr=>
  intro hm x h0 h1;simp only[esizes]at h1 ⊢;have ha:=ih a (hm a (by simp)) (d+1) x h0 (by omega);rw[seeL,ihr (fun x hx=>hm x (by simp[hx])) _ (by omega) (by omega),ha];omega
theorem see_deep(e:Ex):∀(d:Int) (x:See),(seeE d e x).deep=max x.deep (d-1+edepth e):=by
 induction e using Ex.ind with
 | h o m s l ih=>
 intro d x
 suffices H:∀(r:List Ex),(∀a,a∈r→a∈l)→∀x:See,d≤x.deep→(seeL (d+1) r x).deep=max x.deep (d+edepths r)by
  rw[seeE,H l (fun _ h=>h) _ (by simp only[seeN];split<;>omega)];simp only[seeN,edepth];split<;>omega
 intro r
 induction r with
 | nil=>intro _ x h;simp only[seeL,edepths];omega
 | cons a r ihr=>
  intro hm x h;have ha:=ih a (hm a (by simp)) (d+1) x;rw[seeL,ihr (fun x hx=>hm x (by simp[hx])) _ (by omega),ha];simp only[edepths];omega
theorem see_names(ops:List Int)(f:See→List ByteArray)(hf:∀x d e,f (seeN x d e)=addName ops (f x) e.op e.name)(e:Ex):∀(d:Int) (x:See),walkE (nextName ops) e (f x)=(f (seeE d e x),true):=by
 induction e using Ex.ind with
 | h o m s l ih=>
 intro d x
 suffices H:∀(r:List Ex),(∀a,a∈r→a∈l)→∀x:See,walkL (nextName ops) r (f x)=(f (seeL (d+1) r x),true)by
  rw[seeE,walkE];simp only[nextName,if_true];rw[←hf x d,H l (fun _ h=>h)]
 intro r
 induction r with
 | nil=>intro _ x;simp[seeL,walkL]
 | cons a r ihr=>
  intro hm x;rw[seeL,walkL,ih a (hm a (by simp)) (d+1) x];simp only[if_true];exact ihr (fun x hx=>hm x (by simp[hx])) _
theorem seeOf_all(e:Ex)(h:esize e≤1200000):(seeOf e).first=errE e∧(seeOf e).nodes=esize e∧(seeOf e).deep=edepth e∧(seeOf e).vars=namesOf [2] e∧(seeOf e).arrs=namesOf [3,24] e:=by
 unfold seeOf;refine⟨by rw[see_first];rfl,?_,?_,?_,?_⟩
 ·rw[see_nodes _ _ _ (by simp) (by simp;omega)];simp
 ·rw[see_deep];simp
 ·have:=see_names [2] See.vars (fun _ _ _=>rfl) e 1 ⟨0,0,0,[],[]⟩;unfold namesOf;rw[this]
 ·have:=see_names [3,24] See.arrs (fun _ _ _=>rfl) e 1 ⟨0,0,0,[],[]⟩;unfold namesOf;rw[this]
theorem rvalid_eq(e:Ex)(h:esize e≤1200000):rvalidE e=validE e:=by
 obtain⟨h1,h2,h3,-,-⟩:=seeOf_all e h;unfold rvalidE validE;rw[h1,h2,h3];have e1:(24<(edepth e:Int))↔24<edepth e:=by omega
 have e2:(400<(esize e:Int))↔400<esize e:=by omega
 simp only[e1,e2]
mutual
def dex:Ex→List D
 | .mk o n s l=>[dint o,dint n,dstr s,.sl (dexs l)]
def dexs:List Ex→List (List D)
 | []=>[]
 | a::r=>dex a::dexs r
end
theorem dexs_map(l:List Ex):dexs l=l.map dex:=by
 induction l with
 | nil=>rfl
 | cons a r ih=>simp only[dexs,ih,List.map_cons]
theorem dex_eq(e:Ex):dex e=[dint e.op,dint e.num,dstr e.name,.sl (e.args.map dex)]:=by
 cases e;simp only[dex,dexs_map,Ex.op,Ex.num,Ex.name,Ex.args]
def vex(e:Ex):V:=.agg ((dex e).map V.d)
theorem vex_eq(e:Ex):vex e=.agg [.d (dint e.op),.d (dint e.num),.d (dstr e.name),.d (.sl (e.args.map dex))]:=by
 unfold vex;rw[dex_eq];rfl
section
variable {M : Facts} {w : World}
theorem exrep_of(hM:M.hold w)(e:Ex):∀(vs:List Value),vs.length=(dex e).length→(∀i (h:i<(dex e).length) (h':i<vs.length),DRep M (dex e)[i] vs[i])→ExRep w e vs:=by
 induction e using Ex.ind with
 | h o n s l ih=>
 intro vs hl hr;simp only[dex,dexs_map]at hl hr
 match vs,hl with
 | [v0,v1,v2,v3],_=>
 have r0:=hr 0 (by simp) (by simp);have r1:=hr 1 (by simp) (by simp);have r2:=hr 2 (by simp) (by simp);have r3:=hr 3 (by simp) (by simp);simp only[List.getElem_cons_zero,List.getElem_cons_succ,dint,dstr]at r0 r1 r2 r3;cases r0 with|lit _ h0=>
 cases r1 with|lit _ h1=>
 cases r2 with|lit _ h2=>
 cases r3 with
 | sl _ k p cap val hk hd hf hc hm=>
 have hlen:(l.map dex).length=l.length:=by simp
 have h4:∀a:Ex,(dex a).length=4:=fun a=>by rw[dex_eq];rfl
 refine .mk o n s l _ ((List.range l.length).map fun i=>(List.range 4).map fun j=>val i j) (by simp) (fun i h h'=>?_) ?_ ?_ ?_ h2
 ·simp only[List.getElem_map,List.getElem_range];refine ih _ (List.getElem_mem h) _ (by rw[h4];simp) (fun j g g'=>?_);simp only[List.getElem_map,List.getElem_range];have:=hd i j (by simpa using h) (by simpa using g);simpa using this
 ·refine⟨p,cap,by simp,by simpa using hc,hm,fun i cs hi=>?_⟩;rw[List.getElem?_map]at hi;obtain⟨q,hq,rfl⟩:=Option.map_eq_some_iff.1 hi;have hql:=(List.getElem?_eq_some_iff.1 hq).1;have hqe:q=i:=by have:=(List.getElem?_eq_some_iff.1 hq).2;simpa using this.symm
  subst hqe;have hlt:q<(l.map dex).length:=by simpa using hql
  obtain⟨b,off,h5,h6⟩:=hf q hlt;have hk4:k=4:=by rw[←hk _ (List.getElem_mem hlt)];simp[h4]
  subst hk4;refine⟨b,off,h5,by simp,fun j v hj=>?_⟩;rw[List.getElem?_map]at hj;obtain⟨j',hj',rfl⟩:=Option.map_eq_some_iff.1 hj;have hjl:=(List.getElem?_eq_some_iff.1 hj').1;have hje:j'=j:=by have:=(List.getElem?_eq_some_iff.1 hj').2;simpa using this.symm
  subst hje;exact hM _ _ _ (h6 j' (by simpa using hjl))
 ·simp only[Fits,IntKind.min,IntKind.max,IntKind.signed,IntKind.bits]at h0;simpa using h0
 ·simp only[Fits,IntKind.min,IntKind.max,IntKind.signed,IntKind.bits]at h1;simpa using h1
theorem exval_of{bm:List Nat}(hM:M.hold w){e:Ex}{v:Value}(h:Rep M bm (vex e) v):ExVal w e v:=by
 unfold vex at h;generalize hcs:(dex e).map V.d=cs at h;cases h with
 | @agg _ vs hl hh h1=>
 refine⟨vs,exrep_of hM e vs (by rw[hl,←hcs];simp) (fun i g g'=>?_),rfl⟩;have:=hh i (by rw[←hcs];simpa using g) g';have e1:cs[i]'(by rw[←hcs];simpa using g)=.d (dex e)[i]:=by subst hcs;simp
 rw[e1]at this;cases this with|d h=>exact h
end
theorem nodeErr_bd(o m:Int)(s:ByteArray)(k:Nat):0≤nodeErr o m s k∧nodeErr o m s k≤7:=by
 unfold nodeErr;repeat' split
 all_goals omega
theorem errE_bd(e:Ex):0≤errE e∧errE e≤7:=by
 induction e using Ex.ind with
 | h o m s l ih=>
 have hL:∀(r:List Ex),(∀a,a∈r→a∈l)→0≤errL r∧errL r≤7:=by
  intro r
  induction r with
  | nil=>intro _;simp[errL]
  | cons a r ihr=>
   intro hm;have h1:=ih a (hm a (by simp));have h2:=ihr (fun x hx=>hm x (by simp[hx]));simp only[errL];split<;>omega
 have h1:=nodeErr_bd o m s l.length;have h2:=hL l (fun _ h=>h);simp only[errE];split<;>omega
theorem valid_fits(e:Ex):Fits (.int .i64 (validE e)):=by
 have h:0≤validE e∧validE e≤7:=by
  have:=errE_bd e;unfold validE;split<;>omega
 generalize validE e=y at h;simp only[Fits,IntKind.min,IntKind.max,IntKind.signed,IntKind.bits,if_true];omega
theorem fun_valid(e:Ex)(hs:esize e≤1200000)(hd:edepth e≤1200000)(σ:List (List V)):Fun G 89 [vex e] σ (RetV (.d (dint (validE e))) σ):=
 fun_of1 Tryz.func89 (by kernel_rfl) (by kernel_rfl) (valid_fits e) fun M bm pr w v hG hM hr=>valid_any e w v (exval_of hM hr) (keys_of hG.1 hM) hd hs
theorem fun_rvalid(e:Ex)(hs:esize e≤1200000)(hd:edepth e≤1199999)(σ:List (List V)):Fun G 99 [vex e] σ (RetV (.d (dint (validE e))) σ):=
 fun_of1 Tryz.func99 (by kernel_rfl) (by kernel_rfl) (valid_fits e) fun M bm pr w v hG hM hr=>by
  have:=rvalid_any e w v (exval_of hM hr) hs hd;rwa[rvalid_eq e hs]at this
end Go.Proofs.YtcbahpllcfbkmaaGreatDoor
namespace Go.Proofs.YtcbahpllcfbkmaaGreatDoor
open Go.RowKit
section
variable {M : Facts} {w : World}
end
theorem fun_ofc{f:FuncId}{fn:Func}{args:List V}{u:Value}{σ:List (List V)}(hf:Tryz.prog.funcs[f]? = some fn)(hn:(fn.name == "runtime.NumGoroutine")=false)(hb:fn.body.isNone=false)(hu:Fits u)
 (h:∀(M:Facts) (bm:List Nat) (w:World) (vs:List Value),G.cells M→M.hold w→vs.length=args.length→(∀i (h:i<args.length) (h':i<vs.length),Rep M bm args[i] vs[i])→Calls Tryz.prog f vs.toArray w fun e w'=>e=.returned u∧Ext w w'):
 Fun G f args σ (RetV (.d (.lit u)) σ):=by
 refine⟨callFunc_enters (P:=Tryz.prog) hf hn hb,fun M bm tk pr w vs hG hI ht hl hr=>(h M bm w vs hG.1 hI.facts hl hr).mono fun e w' ⟨he,hx⟩=>?_⟩;obtain⟨h1,h2⟩:=hI.ext hx;refine⟨M,bm,tk,σ,.ret (.d (.lit u)),⟨rfl,rfl⟩,h1,h2,fun v e=>?_,fun v e=>by cases e⟩;cases e;exact⟨u,he,.d (.lit u hu),fun _ _ _ e=>by cases e⟩
theorem fun_of1c{f:FuncId}{fn:Func}{a:V}{u:Value}{σ:List (List V)}(hf:Tryz.prog.funcs[f]? = some fn)(hn:(fn.name == "runtime.NumGoroutine")=false)(hb:fn.body.isNone=false)(hu:Fits u)
 (h:∀(M:Facts) (bm:List Nat) (w:World) (v:Value),G.cells M→M.hold w→Rep M bm a v→Calls Tryz.prog f #[v] w fun e w'=>e=.returned u∧Ext w w'):Fun G f [a] σ (RetV (.d (.lit u)) σ):=
 fun_ofc hf hn hb hu fun M bm w vs hG hM hl hr=>match vs,hl with
  | [v],_=>h M bm w v hG hM (hr 0 (by simp) (by simp))
end Go.Proofs.YtcbahpllcfbkmaaGreatDoor
