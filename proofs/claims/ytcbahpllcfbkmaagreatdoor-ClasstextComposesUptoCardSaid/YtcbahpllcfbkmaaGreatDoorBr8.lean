import Derived.Test.YtcbahpllcfbkmaaGreatDoorRefs8
import Derived.Test.YtcbahpllcfbkmaaGreatDoorData
import Derived.Test.YtcbahpllcfbkmaaGreatDoorNames2
import Derived.Test.YtcbahpllcfbkmaaGreatDoorBl2
import Derived.Test.YtcbahpllcfbkmaaGreatDoorK
import Derived.Test.YtcbahpllcfbkmaaGreatDoorNames
set_option linter.unusedVariables false
set_option linter.unusedSimpArgs false
set_option linter.unusedSectionVars false
namespace Go.Proofs.YtcbahpllcfbkmaaGreatDoor
open Go.RowKit
theorem kB(e:Ex):bH e≤aW e:=by
 induction e using Ex.ind with
 | h o m s l ih=>
 simp only[bH,aW]
 suffices H:∀(r:List Ex),(∀a,a∈r→a∈l)→b9 r≤bu r by have:=H l (fun _ h=>h);omega
 intro r
 induction r with
 | nil=>intro _;simp[b9,bu]
 | cons a r ihr=>
  intro hm;have h1:=ih a (hm a (by simp));have h2:=ihr (fun x hx=>hm x (by simp[hx]));simp only[b9,bu];omega
theorem rL(e:Ex):1≤aW e:=by cases e;simp[aW]
theorem An(l:List Ex):l.length≤bu l:=by
 induction l with
 | nil=>simp
 | cons a r ih=>have:=rL a;simp only[List.length_cons,bu];omega
theorem qJ(e:Ex):∀(d:Int) (x:See),(iT d e x).first=if x.first=0 then cu e else x.first:=by
 induction e using Ex.ind with
 | h o m s l ih=>
 intro d x
 suffices H:∀(r:List Ex),(∀a,a∈r→a∈l)→∀x:See,(fK (d+1) r x).first=if x.first=0 then gH r else x.first by
  rw[iT,H l (fun _ h=>h)];simp only[m7,cu,lS,Ex.op,Ex.num,Ex.name,Ex.args];repeat' split
  all_goals first|rfl|simp_all
 intro r
 induction r with
 | nil=>intro _ x;simp only[fK,gH];split<;>simp_all
 | cons a r ihr=>
  intro hm x;rw[fK,ihr (fun x hx=>hm x (by simp[hx])),ih a (hm a (by simp))];simp only[gH];repeat' split
  all_goals simp_all
theorem sc(e:Ex):∀(d:Int) (x:See),0≤x.nodes→x.nodes+aW e≤1000000000→(iT d e x).nodes=x.nodes+aW e:=by
 induction e using Ex.ind with
 | h o m s l ih=>
 intro d x h0 h1
 suffices H:∀(r:List Ex),(∀a,a∈r→a∈l)→∀x:See,0≤x.nodes→x.nodes+bu r≤1000000000→(fK (d+1) r x).nodes=x.nodes+bu r by
  simp only[aW]at h1 ⊢;have hw:wrap64 (x.nodes+1)=x.nodes+1:=lL _ (by omega) (by omega);rw[iT,H l (fun _ h=>h) _ (by simp only[m7];omega) (by simp only[m7];omega)];simp only[m7];omega
 intro r
 induction r with
 | nil=>intro _ x _ _;simp[fK,bu]
 | cons a r ihr=>
  intro hm x h0 h1;simp only[bu]at h1 ⊢;have ha:=ih a (hm a (by simp)) (d+1) x h0 (by omega);rw[fK,ihr (fun x hx=>hm x (by simp[hx])) _ (by omega) (by omega),ha];omega
theorem wC(e:Ex):∀(d:Int) (x:See),(iT d e x).deep=max x.deep (d-1+bH e):=by
 induction e using Ex.ind with
 | h o m s l ih=>
 intro d x
 suffices H:∀(r:List Ex),(∀a,a∈r→a∈l)→∀x:See,d≤x.deep→(fK (d+1) r x).deep=max x.deep (d+b9 r)by
  rw[iT,H l (fun _ h=>h) _ (by simp only[m7];split<;>omega)];simp only[m7,bH];split<;>omega
 intro r
 induction r with
 | nil=>intro _ x h;simp only[fK,b9];omega
 | cons a r ihr=>
  intro hm x h;have ha:=ih a (hm a (by simp)) (d+1) x;rw[fK,ihr (fun x hx=>hm x (by simp[hx])) _ (by omega),ha];simp only[b9];omega
theorem lY(ops:List Int)(f:See→List ByteArray)(hf:∀x d e,f (m7 x d e)=dL ops (f x) e.op e.name)(e:Ex):∀(d:Int) (x:See),dc (iE ops) e (f x)=(f (iT d e x),true):=by
 induction e using Ex.ind with
 | h o m s l ih=>
 intro d x
 suffices H:∀(r:List Ex),(∀a,a∈r→a∈l)→∀x:See,dx (iE ops) r (f x)=(f (fK (d+1) r x),true)by
  rw[iT,dc];simp only[iE,if_true];rw[←hf x d,H l (fun _ h=>h)]
 intro r
 induction r with
 | nil=>intro _ x;simp[fK,dx]
 | cons a r ihr=>
  intro hm x;rw[fK,dx,ih a (hm a (by simp)) (d+1) x];simp only[if_true];exact ihr (fun x hx=>hm x (by simp[hx])) _
theorem sU(e:Ex)(h:aW e≤1200000):(dV e).first=cu e∧(dV e).nodes=aW e∧(dV e).deep=bH e∧(dV e).vars=jI [2] e∧(dV e).arrs=jI [3,24] e:=by
 unfold dV;refine⟨by rw[qJ];rfl,?_,?_,?_,?_⟩
 ·rw[sc _ _ _ (by simp) (by simp;omega)];simp
 ·rw[wC];simp
 ·have:=lY [2] See.vars (fun _ _ _=>rfl) e 1 ⟨0,0,0,[],[]⟩;unfold jI;rw[this]
 ·have:=lY [3,24] See.arrs (fun _ _ _=>rfl) e 1 ⟨0,0,0,[],[]⟩;unfold jI;rw[this]
theorem re(e:Ex)(h:aW e≤1200000):iy e=bM e:=by
 obtain⟨h1,h2,h3,-,-⟩:=sU e h;unfold iy bM;rw[h1,h2,h3];have e1:(24<(bH e:Int))↔24<bH e:=by omega
 have e2:(400<(aW e:Int))↔400<aW e:=by omega
 simp only[e1,e2]
mutual
def dex:Ex→List D
 | .mk o n s l=>[ay o,ay n,am s,.sl (xZ l)]
def xZ:List Ex→List (List D)
 | []=>[]
 | a::r=>dex a::xZ r
end
theorem nl(l:List Ex):xZ l=l.map dex:=by
 induction l with
 | nil=>rfl
 | cons a r ih=>simp only[xZ,ih,List.map_cons]
theorem cv(e:Ex):dex e=[ay e.op,ay e.num,am e.name,.sl (e.args.map dex)]:=by
 cases e;simp only[dex,nl,Ex.op,Ex.num,Ex.name,Ex.args]
def vex(e:Ex):V:=.agg ((dex e).map V.d)
theorem a6(e:Ex):vex e=.agg [.d (ay e.op),.d (ay e.num),.d (am e.name),.d (.sl (e.args.map dex))]:=by
 unfold vex;rw[cv];rfl
section
variable {M : au} {w : World}
theorem wv(hM:M.hold w)(e:Ex):∀(vs:List Value),vs.length=(dex e).length→(∀i (h:i<(dex e).length) (h':i<vs.length),DRep M (dex e)[i] vs[i])→ExRep w e vs:=by
 induction e using Ex.ind with
 | h o n s l ih=>
 intro vs hl hr;simp only[dex,nl]at hl hr
 match vs,hl with
 | [v0,v1,v2,v3],_=>
 have r0:=hr 0 (by simp) (by simp);have r1:=hr 1 (by simp) (by simp);have r2:=hr 2 (by simp) (by simp);have r3:=hr 3 (by simp) (by simp);simp only[List.getElem_cons_zero,List.getElem_cons_succ,ay,am]at r0 r1 r2 r3;cases r0 with|lit _ h0=>
 cases r1 with|lit _ h1=>
 cases r2 with|lit _ h2=>
 cases r3 with
 | sl _ k p cap val hk hd hf hc hm=>
 have hlen:(l.map dex).length=l.length:=by simp
 have h4:∀a:Ex,(dex a).length=4:=fun a=>by rw[cv];rfl
 refine .mk o n s l _ ((List.range l.length).map fun i=>(List.range 4).map fun j=>val i j) (by simp) (fun i h h'=>?_) ?_ ?_ ?_ h2
 ·simp only[List.getElem_map,List.getElem_range];refine ih _ (List.getElem_mem h) _ (by rw[h4];simp) (fun j g g'=>?_);simp only[List.getElem_map,List.getElem_range];have:=hd i j (by simpa using h) (by simpa using g);simpa using this
 ·refine⟨p,cap,by simp,by simpa using hc,hm,fun i cs hi=>?_⟩;rw[List.getElem?_map]at hi;obtain⟨q,hq,rfl⟩:=Option.map_eq_some_iff.1 hi;have hql:=(List.getElem?_eq_some_iff.1 hq).1;have hqe:q=i:=by have:=(List.getElem?_eq_some_iff.1 hq).2;simpa using this.symm
  subst hqe;have hlt:q<(l.map dex).length:=by simpa using hql
  obtain⟨b,off,h5,h6⟩:=hf q hlt;have hk4:k=4:=by rw[←hk _ (List.getElem_mem hlt)];simp[h4]
  subst hk4;refine⟨b,off,h5,by simp,fun j v hj=>?_⟩;rw[List.getElem?_map]at hj;obtain⟨j',hj',rfl⟩:=Option.map_eq_some_iff.1 hj;have hjl:=(List.getElem?_eq_some_iff.1 hj').1;have hje:j'=j:=by have:=(List.getElem?_eq_some_iff.1 hj').2;simpa using this.symm
  subst hje;exact hM _ _ _ (h6 j' (by simpa using hjl))
 ·simp only[bP,IntKind.min,IntKind.max,IntKind.signed,IntKind.bits]at h0;simpa using h0
 ·simp only[bP,IntKind.min,IntKind.max,IntKind.signed,IntKind.bits]at h1;simpa using h1
theorem nz{bm:List Nat}(hM:M.hold w){e:Ex}{v:Value}(h:Rep M bm (vex e) v):em w e v:=by
 unfold vex at h;generalize hcs:(dex e).map V.d=cs at h;cases h with
 | @agg _ vs hl hh h1=>
 refine⟨vs,wv hM e vs (by rw[hl,←hcs];simp) (fun i g g'=>?_),rfl⟩;have:=hh i (by rw[←hcs];simpa using g) g';have e1:cs[i]'(by rw[←hcs];simpa using g)=.d (dex e)[i]:=by subst hcs;simp
 rw[e1]at this;cases this with|d h=>exact h
end
theorem pL(o m:Int)(s:ByteArray)(k:Nat):0≤aC o m s k∧aC o m s k≤7:=by
 unfold aC;repeat' split
 all_goals omega
theorem w9(e:Ex):0≤cu e∧cu e≤7:=by
 induction e using Ex.ind with
 | h o m s l ih=>
 have hL:∀(r:List Ex),(∀a,a∈r→a∈l)→0≤gH r∧gH r≤7:=by
  intro r
  induction r with
  | nil=>intro _;simp[gH]
  | cons a r ihr=>
   intro hm;have h1:=ih a (hm a (by simp));have h2:=ihr (fun x hx=>hm x (by simp[hx]));simp only[gH];split<;>omega
 have h1:=pL o m s l.length;have h2:=hL l (fun _ h=>h);simp only[cu];split<;>omega
theorem kZ(e:Ex):bP (.int .i64 (bM e)):=by
 have h:0≤bM e∧bM e≤7:=by
  have:=w9 e;unfold bM;split<;>omega
 generalize bM e=y at h;simp only[bP,IntKind.min,IntKind.max,IntKind.signed,IntKind.bits,if_true];omega
theorem i6(e:Ex)(hs:aW e≤1200000)(hd:bH e≤1200000)(σ:List (List V)):Fun G 89 [vex e] σ (a7 (.d (ay (bM e))) σ):=
 mI Tryz.func89 (by kernel_rfl) (by kernel_rfl) (kZ e) fun M bm pr w v hG hM hr=>qY e w v (nz hM hr) (qA hG.1 hM) hd hs
theorem oC(e:Ex)(hs:aW e≤1200000)(hd:bH e≤1199999)(σ:List (List V)):Fun G 99 [vex e] σ (a7 (.d (ay (bM e))) σ):=
 mI Tryz.func99 (by kernel_rfl) (by kernel_rfl) (kZ e) fun M bm pr w v hG hM hr=>by
  have:=ot e w v (nz hM hr) hs hd;rwa[re e hs]at this
end Go.Proofs.YtcbahpllcfbkmaaGreatDoor
namespace Go.Proofs.YtcbahpllcfbkmaaGreatDoor
open Go.RowKit
section
variable {M : au} {w : World}
end
theorem xP{f:FuncId}{fn:Func}{args:List V}{u:Value}{σ:List (List V)}(hf:Tryz.prog.funcs[f]? = some fn)(hn:(fn.name == "runtime.NumGoroutine")=false)(hb:fn.body.isNone=false)(hu:bP u)
 (h:∀(M:au) (bm:List Nat) (w:World) (vs:List Value),G.cells M→M.hold w→vs.length=args.length→(∀i (h:i<args.length) (h':i<vs.length),Rep M bm args[i] vs[i])→Calls Tryz.prog f vs.toArray w fun e w'=>e=.returned u∧Ext w w'):
 Fun G f args σ (a7 (.d (.lit u)) σ):=by
 refine⟨bU (P:=Tryz.prog) hf hn hb,fun M bm tk pr w vs hG hI ht hl hr=>(h M bm w vs hG.1 hI.facts hl hr).mono fun e w' ⟨he,hx⟩=>?_⟩;obtain⟨h1,h2⟩:=hI.ext hx;refine⟨M,bm,tk,σ,.ret (.d (.lit u)),⟨rfl,rfl⟩,h1,h2,fun v e=>?_,fun v e=>by cases e⟩;cases e;exact⟨u,he,.d (.lit u hu),fun _ _ _ e=>by cases e⟩
theorem ku{f:FuncId}{fn:Func}{a:V}{u:Value}{σ:List (List V)}(hf:Tryz.prog.funcs[f]? = some fn)(hn:(fn.name == "runtime.NumGoroutine")=false)(hb:fn.body.isNone=false)(hu:bP u)
 (h:∀(M:au) (bm:List Nat) (w:World) (v:Value),G.cells M→M.hold w→Rep M bm a v→Calls Tryz.prog f #[v] w fun e w'=>e=.returned u∧Ext w w'):Fun G f [a] σ (a7 (.d (.lit u)) σ):=
 xP hf hn hb hu fun M bm w vs hG hM hl hr=>match vs,hl with
  | [v],_=>h M bm w v hG hM (hr 0 (by simp) (by simp))
end Go.Proofs.YtcbahpllcfbkmaaGreatDoor
