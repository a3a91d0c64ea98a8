import Derived.Test.YthoebpnbhgmoiaaGreatDoorK
import Derived.Test.YthoebpnbhgmoiaaGreatDoorData
import Derived.Test.YthoebpnbhgmoiaaGreatDoorNames
set_option linter.unusedVariables false
set_option linter.unusedSimpArgs false
set_option linter.unusedSectionVars false
namespace Go.Proofs.YthoebpnbhgmoiaaGreatDoor
open Go.RowKit
abbrev dint(n:Int):D:=.lit (.int .i64 n)
abbrev dstr(s:ByteArray):D:=.lit (.string s)
def dstrs(l:List ByteArray):D:=.sl (l.map fun s=>[dstr s])
mutual
def dex:Ex→List D
 | .mk o n s l=>[dint o,dint n,dstr s,.sl (dexs l)]
def dexs:List Ex→List (List D)
 | []=>[]
 | a::r=>dex a::dexs r
end
theorem dexs_map(l:List Ex):dexs l=l.map dex:=by
 induction l with
 | nil=>rfl
 | cons a r ih=>simp only[dexs,ih,List.map_cons]
theorem dex_eq(e:Ex):dex e=[dint e.op,dint e.num,dstr e.name,.sl (e.args.map dex)]:=by
 cases e;simp only[dex,dexs_map,Ex.op,Ex.num,Ex.name,Ex.args]
def vex(e:Ex):V:=.agg ((dex e).map V.d)
theorem vex_eq(e:Ex):vex e=.agg [.d (dint e.op),.d (dint e.num),.d (dstr e.name),.d (.sl (e.args.map dex))]:=by
 unfold vex;rw[dex_eq];rfl
section
variable {M : Facts} {w : World}
theorem exrep_of(hM:M.hold w)(e:Ex):∀(vs:List Value),vs.length=(dex e).length→(∀i (h:i<(dex e).length) (h':i<vs.length),DRep M (dex e)[i] vs[i])→ExRep w e vs:=by
 induction e using Ex.ind with
 | h o n s l ih=>
 intro vs hl hr;simp only[dex,dexs_map]at hl hr
 match vs,hl with
 | [v0,v1,v2,v3],_=>
 have r0:=hr 0 (by simp) (by simp);have r1:=hr 1 (by simp) (by simp);have r2:=hr 2 (by simp) (by simp);have r3:=hr 3 (by simp) (by simp);simp only[List.getElem_cons_zero,List.getElem_cons_succ,dint,dstr]at r0 r1 r2 r3;cases r0 with|lit _ h0=>
 cases r1 with|lit _ h1=>
 cases r2 with|lit _ h2=>
 cases r3 with
 | sl _ k p cap val hk hd hf hc hm=>
 have hlen:(l.map dex).length=l.length:=by simp
 have h4:∀a:Ex,(dex a).length=4:=fun a=>by rw[dex_eq];rfl
 refine .mk o n s l _ ((List.range l.length).map fun i=>(List.range 4).map fun j=>val i j) (by simp) (fun i h h'=>?_) ?_ ?_ ?_ h2
 ·simp only[List.getElem_map,List.getElem_range];refine ih _ (List.getElem_mem h) _ (by rw[h4];simp) (fun j g g'=>?_);simp only[List.getElem_map,List.getElem_range];have:=hd i j (by simpa using h) (by simpa using g);simpa using this
 ·refine⟨p,cap,by simp,by simpa using hc,hm,fun i cs hi=>?_⟩;rw[List.getElem?_map]at hi;obtain⟨q,hq,rfl⟩:=Option.map_eq_some_iff.1 hi;have hql:=(List.getElem?_eq_some_iff.1 hq).1;have hqe:q=i:=by have:=(List.getElem?_eq_some_iff.1 hq).2;simpa using this.symm
  subst hqe;have hlt:q<(l.map dex).length:=by simpa using hql
  obtain⟨b,off,h5,h6⟩:=hf q hlt;have hk4:k=4:=by rw[←hk _ (List.getElem_mem hlt)];simp[h4]
  subst hk4;refine⟨b,off,h5,by simp,fun j v hj=>?_⟩;rw[List.getElem?_map]at hj;obtain⟨j',hj',rfl⟩:=Option.map_eq_some_iff.1 hj;have hjl:=(List.getElem?_eq_some_iff.1 hj').1;have hje:j'=j:=by have:=(List.getElem?_eq_some_iff.1 hj').2;simpa using this.symm
  subst hje;exact hM _ _ _ (h6 j' (by simpa using hjl))
 ·simp only[Fits,IntKind.min,IntKind.max,IntKind.signed,IntKind.bits]at h0;simpa using h0
 ·simp only[Fits,IntKind.min,IntKind.max,IntKind.signed,IntKind.bits]at h1;simpa using h1
theorem exval_of{bm:List Nat}(hM:M.hold w){e:Ex}{v:Value}(h:Rep M bm (vex e) v):ExVal w e v:=by
 unfold vex at h;generalize hcs:(dex e).map V.d=cs at h;cases h with
 | @agg _ vs hl hh h1=>
 refine⟨vs,exrep_of hM e vs (by rw[hl,←hcs];simp) (fun i g g'=>?_),rfl⟩;have:=hh i (by rw[←hcs];simpa using g) g';have e1:cs[i]'(by rw[←hcs];simpa using g)=.d (dex e)[i]:=by subst hcs;simp
 rw[e1]at this;cases this with|d h=>exact h
theorem strsval_of{bm:List Nat}(hM:M.hold w){l:List ByteArray}{v:Value}(h:Rep M bm (.d (dstrs l)) v):StrsVal w l v:=by
 cases h with
 | d h=>
 unfold dstrs at h;generalize hrs:(l.map fun s=>[dstr s])=rows at h;have hlen:rows.length=l.length:=by rw[←hrs];simp
 cases h with
 | sl _ k p cap val hk hd hf hc hm=>
 rw[hlen];refine⟨p,cap,rfl,by omega,hm,fun i s hi=>?_⟩;have hil:=(List.getElem?_eq_some_iff.1 hi).1;have hir:i<rows.length:=by omega
 obtain⟨b,off,rfl,h6⟩:=hf i hir;have hri:rows[i]=[dstr s]:=by subst hrs;simp[(List.getElem?_eq_some_iff.1 hi).2]
 have hk1:k=1:=by rw[←hk _ (List.getElem_mem hir),hri];rfl
 subst hk1;refine⟨b,off,rfl,?_⟩;have h7:=h6 0 (by omega);have h8:=hd i 0 hir (by rw[hri];simp);simp only[hri,List.getElem_cons_zero,dstr]at h8;generalize hv:val i 0=u at h7 h8;cases h8 with|lit _ _=>
 have:=hM _ _ _ h7;simpa using this
theorem keys_of(hG:G.cells M)(hM:M.hold w):Keys w:=by
 obtain⟨val,h1,h2⟩:=hG 0 [dstrs kwList] (by rfl);have h3:=h2 0 (by simp);have h4:=h1 0 (by simp);simp only[List.getElem_cons_zero]at h3;exact⟨val 0,hM _ _ _ h4,strsval_of (bm:=[]) hM (.d h3)⟩
end
theorem fun_of{f:FuncId}{fn:Func}{args:List V}{u:Value}{σ:List (List V)}(hf:Tryz.prog.funcs[f]? = some fn)(hn:(fn.name == "runtime.NumGoroutine")=false)(hb:fn.body.isNone=false)(hu:Fits u)
 (h:∀(M:Facts) (bm:List Nat) (w:World) (vs:List Value),G.cells M→M.hold w→vs.length=args.length→(∀i (h:i<args.length) (h':i<vs.length),Rep M bm args[i] vs[i])→Calls Tryz.prog f vs.toArray w fun e w'=>e=.returned u∧Ext w w'):
 Fun G f args σ (RetV (.d (.lit u)) σ):=by
 refine⟨callFunc_enters (P:=Tryz.prog) hf hn hb,fun M bm tk pr w vs hG hI ht hl hr=>(h M bm w vs hG.1 hI.facts hl hr).mono fun e w' ⟨he,hx⟩=>?_⟩;obtain⟨h1,h2⟩:=hI.ext hx;refine⟨M,bm,tk,σ,.ret (.d (.lit u)),⟨rfl,rfl⟩,h1,h2,fun v e=>?_,fun v e=>by cases e⟩;cases e;exact⟨u,he,.d (.lit u hu),fun _ _ _ e=>by cases e⟩
theorem fun_of1{f:FuncId}{fn:Func}{a:V}{u:Value}{σ:List (List V)}(hf:Tryz.prog.funcs[f]? = some fn)(hn:(fn.name == "runtime.NumGoroutine")=false)(hb:fn.body.isNone=false)(hu:Fits u)
 (h:∀(M:Facts) (bm:List Nat) (w:World) (v:Value),G.cells M→M.hold w→Rep M bm a v→Calls Tryz.prog f #[v] w fun e w'=>e=.returned u∧Ext w w'):Fun G f [a] σ (RetV (.d (.lit u)) σ):=
 fun_of hf hn hb hu fun M bm w vs hG hM hl hr=>match vs,hl with
  | [v],_=>h M bm w v hG hM (hr 0 (by simp) (by simp))
theorem fun_of2{f:FuncId}{fn:Func}{a b:V}{u:Value}{σ:List (List V)}(hf:Tryz.prog.funcs[f]? = some fn)(hn:(fn.name == "runtime.NumGoroutine")=false)(hb:fn.body.isNone=false)(hu:Fits u)
 (h:∀(M:Facts) (bm:List Nat) (w:World) (v v':Value),G.cells M→M.hold w→Rep M bm a v→Rep M bm b v'→Calls Tryz.prog f #[v,v'] w fun e w'=>e=.returned u∧Ext w w'):Fun G f [a,b] σ (RetV (.d (.lit u)) σ):=
 fun_of hf hn hb hu fun M bm w vs hG hM hl hr=>match vs,hl with
  | [v,v'],_=>h M bm w v v' hG hM (hr 0 (by simp) (by simp)) (hr 1 (by simp) (by simp))
end Go.Proofs.YthoebpnbhgmoiaaGreatDoor
