import Derived.Test.YtcbahpllcfbkmaaGreatDoorRefs8
import Derived.Test.YtcbahpllcfbkmaaGreatDoorData
import Derived.Test.YtcbahpllcfbkmaaGreatDoorNames2
import Derived.Test.YtcbahpllcfbkmaaGreatDoorBl2
import Derived.Test.YtcbahpllcfbkmaaGreatDoorK
import Derived.Test.YtcbahpllcfbkmaaGreatDoorNames
set_option linter.unusedVariables false
set_option linter.unusedSimpArgs false
set_option linter.unusedSectionVars false
namespace Go.Proofs.YtcbahpllcfbkmaaGreatDoor
open Go.RowKit
theorem ja(e:Ex):bJ e≤bh e:=by
 induction e using Ex.ind with
 | h o m s l ih=>
 simp only[bJ,bh]
 suffices H:∀(r:List Ex),(∀a,a∈r→a∈l)→cu r≤bD r by have:=H l (fun _ h=>h);omega
 intro r
 induction r with
 | nil=>intro _;simp[cu,bD]
 | cons a r ihr=>
  intro hm;have h1:=ih a (hm a (by simp));have h2:=ihr (fun x hx=>hm x (by simp[hx]));simp only[cu,bD];omega
theorem rM(e:Ex):1≤bh e:=by cases e;simp[bh]
theorem AY(l:List Ex):l.length≤bD l:=by
 induction l with
 | nil=>simp
 | cons a r ih=>have:=rM a;simp only[List.length_cons,bD];omega
theorem sP(e:Ex):∀(d:Int) (x:See),(ju d e x).first=if x.first=0 then cL e else x.first:=by
 induction e using Ex.ind with
 | h o m s l ih=>
 intro d x
 suffices H:∀(r:List Ex),(∀a,a∈r→a∈l)→∀x:See,(gi (d+1) r x).first=if x.first=0 then ig r else x.first by
  rw[ju,H l (fun _ h=>h)];simp only[nK,cL,mY,Ex.op,Ex.num,Ex.name,Ex.args];repeat' split
  all_goals first|rfl|simp_all
 intro r
 induction r with
 | nil=>intro _ x;simp only[gi,ig];split<;>simp_all
 | cons a r ihr=>
  intro hm x;rw[gi,ihr (fun x hx=>hm x (by simp[hx])),ih a (hm a (by simp))];simp only[ig];repeat' split
  all_goals simp_all
theorem tr(e:Ex):∀(d:Int) (x:See),0≤x.nodes→x.nodes+bh e≤1000000000→(ju d e x).nodes=x.nodes+bh e:=by
 induction e using Ex.ind with
 | h o m s l ih=>
 intro d x h0 h1
 suffices H:∀(r:List Ex),(∀a,a∈r→a∈l)→∀x:See,0≤x.nodes→x.nodes+bD r≤1000000000→(gi (d+1) r x).nodes=x.nodes+bD r by
  simp only[bh]at h1 ⊢;have hw:wrap64 (x.nodes+1)=x.nodes+1:=mn _ (by omega) (by omega);rw[ju,H l (fun _ h=>h) _ (by simp only[nK];omega) (by simp only[nK];omega)];simp only[nK];omega
 intro r
 induction r with
 | nil=>intro _ x _ _;simp[gi,bD]
 | cons a r ihr=>
  intro hm x h0 h1;simp only[bD]at h1 ⊢;have ha:=ih a (hm a (by simp)) (d+1) x h0 (by omega);rw[gi,ihr (fun x hx=>hm x (by simp[hx])) _ (by omega) (by omega),ha];omega
theorem xO(e:Ex):∀(d:Int) (x:See),(ju d e x).deep=max x.deep (d-1+bJ e):=by
 induction e using Ex.ind with
 | h o m s l ih=>
 intro d x
 suffices H:∀(r:List Ex),(∀a,a∈r→a∈l)→∀x:See,d≤x.deep→(gi (d+1) r x).deep=max x.deep (d+cu r)by
  rw[ju,H l (fun _ h=>h) _ (by simp only[nK];split<;>omega)];simp only[nK,bJ];split<;>omega
 intro r
 induction r with
 | nil=>intro _ x h;simp only[gi,cu];omega
 | cons a r ihr=>
  intro hm x h;have ha:=ih a (hm a (by simp)) (d+1) x;rw[gi,ihr (fun x hx=>hm x (by simp[hx])) _ (by omega),ha];simp only[cu];omega
theorem mq(ops:List Int)(f:See→List ByteArray)(hf:∀x d e,f (nK x d e)=ei ops (f x) e.op e.name)(e:Ex):∀(d:Int) (x:See),dA (jh ops) e (f x)=(f (ju d e x),true):=by
 induction e using Ex.ind with
 | h o m s l ih=>
 intro d x
 suffices H:∀(r:List Ex),(∀a,a∈r→a∈l)→∀x:See,dW (jh ops) r (f x)=(f (gi (d+1) r x),true)by
  rw[ju,dA];simp only[jh,if_true];rw[←hf x d,H l (fun _ h=>h)]
 intro r
 induction r with
 | nil=>intro _ x;simp[gi,dW]
 | cons a r ihr=>
  intro hm x;rw[gi,dW,ih a (hm a (by simp)) (d+1) x];simp only[if_true];exact ihr (fun x hx=>hm x (by simp[hx])) _
theorem sn(e:Ex)(h:bh e≤1200000):(eG e).first=cL e∧(eG e).nodes=bh e∧(eG e).deep=bJ e∧(eG e).vars=ko [2] e∧(eG e).arrs=ko [3,24] e:=by
 unfold eG;refine⟨by rw[sP];rfl,?_,?_,?_,?_⟩
 ·rw[tr _ _ _ (by simp) (by simp;omega)];simp
 ·rw[xO];simp
 ·have:=mq [2] See.vars (fun _ _ _=>rfl) e 1 ⟨0,0,0,[],[]⟩;unfold ko;rw[this]
 ·have:=mq [3,24] See.arrs (fun _ _ _=>rfl) e 1 ⟨0,0,0,[],[]⟩;unfold ko;rw[this]
theorem sa(e:Ex)(h:bh e≤1200000):iV e=bB e:=by
 obtain⟨h1,h2,h3,-,-⟩:=sn e h;unfold iV bB;rw[h1,h2,h3];have e1:(24<(bJ e:Int))↔24<bJ e:=by omega
 have e2:(400<(bh e:Int))↔400<bh e:=by omega
 simp only[e1,e2]
mutual
def dex:Ex→List D
 | .mk o n s l=>[ay o,ay n,ak s,.sl (zn l)]
def zn:List Ex→List (List D)
 | []=>[]
 | a::r=>dex a::zn r
end
theorem oF(l:List Ex):zn l=l.map dex:=by
 induction l with
 | nil=>rfl
 | cons a r ih=>simp only[zn,ih,List.map_cons]
theorem bC(e:Ex):dex e=[ay e.op,ay e.num,ak e.name,.sl (e.args.map dex)]:=by
 cases e;simp only[dex,oF,Ex.op,Ex.num,Ex.name,Ex.args]
def vex(e:Ex):V:=.agg ((dex e).map V.d)
theorem aI(e:Ex):vex e=.agg [.d (ay e.op),.d (ay e.num),.d (ak e.name),.d (.sl (e.args.map dex))]:=by
 unfold vex;rw[bC];rfl
section
variable {M : ax} {w : World}
theorem wD(hM:M.hold w)(e:Ex):∀(vs:List Value),vs.length=(dex e).length→(∀i (h:i<(dex e).length) (h':i<vs.length),DRep M (dex e)[i] vs[i])→ExRep w e vs:=by
 induction e using Ex.ind with
 | h o n s l ih=>
 intro vs hl hr;simp only[dex,oF]at hl hr
 match vs,hl with
 | [v0,v1,v2,v3],_=>
 have r0:=hr 0 (by simp) (by simp);have r1:=hr 1 (by simp) (by simp);have r2:=hr 2 (by simp) (by simp);have r3:=hr 3 (by simp) (by simp);simp only[List.getElem_cons_zero,List.getElem_cons_succ,ay,ak]at r0 r1 r2 r3;cases r0 with|lit _ h0=>
 cases r1 with|lit _ h1=>
 cases r2 with|lit _ h2=>
 cases r3 with
 | sl _ k p cap val hk hd hf hc hm=>
 have hlen:(l.map dex).length=l.length:=by simp
 have h4:∀a:Ex,(dex a).length=4:=fun a=>by rw[bC];rfl
 refine .mk o n s l _ ((List.range l.length).map fun i=>(List.range 4).map fun j=>val i j) (by simp) (fun i h h'=>?_) ?_ ?_ ?_ h2
 ·simp only[List.getElem_map,List.getElem_range];refine ih _ (List.getElem_mem h) _ (by rw[h4];simp) (fun j g g'=>?_);simp only[List.getElem_map,List.getElem_range];have:=hd i j (by simpa using h) (by simpa using g);simpa using this
 ·refine⟨p,cap,by simp,by simpa using hc,hm,fun i cs hi=>?_⟩;rw[List.getElem?_map]at hi;obtain⟨q,hq,rfl⟩:=Option.map_eq_some_iff.1 hi;have hql:=(List.getElem?_eq_some_iff.1 hq).1;have hqe:q=i:=by have:=(List.getElem?_eq_some_iff.1 hq).2;simpa using this.symm
  subst hqe;have hlt:q<(l.map dex).length:=by simpa using hql
  obtain⟨b,off,h5,h6⟩:=hf q hlt;have hk4:k=4:=by rw[←hk _ (List.getElem_mem hlt)];simp[h4]
  subst hk4;refine⟨b,off,h5,by simp,fun j v hj=>?_⟩;rw[List.getElem?_map]at hj;obtain⟨j',hj',rfl⟩:=Option.map_eq_some_iff.1 hj;have hjl:=(List.getElem?_eq_some_iff.1 hj').1;have hje:j'=j:=by have:=(List.getElem?_eq_some_iff.1 hj').2;simpa using this.symm
  subst hje;exact hM _ _ _ (h6 j' (by simpa using hjl))
 ·simp only[b9,IntKind.min,IntKind.max,IntKind.signed,IntKind.bits]at h0;simpa using h0
 ·simp only[b9,IntKind.min,IntKind.max,IntKind.signed,IntKind.bits]at h1;simpa using h1
theorem pp{bm:List Nat}(hM:M.hold w){e:Ex}{v:Value}(h:Rep M bm (vex e) v):fd w e v:=by
 unfold vex at h;generalize hcs:(dex e).map V.d=cs at h;cases h with
 | @agg _ vs hl hh h1=>
 refine⟨vs,wD hM e vs (by rw[hl,←hcs];simp) (fun i g g'=>?_),rfl⟩;have:=hh i (by rw[←hcs];simpa using g) g';have e1:cs[i]'(by rw[←hcs];simpa using g)=.d (dex e)[i]:=by subst hcs;simp
 rw[e1]at this;cases this with|d h=>exact h
end
theorem qe(o m:Int)(s:ByteArray)(k:Nat):0≤aL o m s k∧aL o m s k≤7:=by
 unfold aL;repeat' split
 all_goals omega
theorem zd(e:Ex):0≤cL e∧cL e≤7:=by
 induction e using Ex.ind with
 | h o m s l ih=>
 have hL:∀(r:List Ex),(∀a,a∈r→a∈l)→0≤ig r∧ig r≤7:=by
  intro r
  induction r with
  | nil=>intro _;simp[ig]
  | cons a r ihr=>
   intro hm;have h1:=ih a (hm a (by simp));have h2:=ihr (fun x hx=>hm x (by simp[hx]));simp only[ig];split<;>omega
 have h1:=qe o m s l.length;have h2:=hL l (fun _ h=>h);simp only[cL];split<;>omega
theorem lI(e:Ex):b9 (.int .i64 (bB e)):=by
 have h:0≤bB e∧bB e≤7:=by
  have:=zd e;unfold bB;split<;>omega
 generalize bB e=y at h;simp only[b9,IntKind.min,IntKind.max,IntKind.signed,IntKind.bits,if_true];omega
theorem jB(e:Ex)(hs:bh e≤1200000)(hd:bJ e≤1200000)(σ:List (List V)):Fun G 89 [vex e] σ (aN (.d (ay (bB e))) σ):=
 nk Tryz.func89 (by kernel_rfl) (by kernel_rfl) (lI e) fun M bm pr w v hG hM hr=>ur e w v (pp hM hr) (rD hG.1 hM) hd hs
theorem kC(e:Ex)(hs:bh e≤1200000)(hd:bJ e≤1199999)(σ:List (List V)):Fun G 99 [vex e] σ (aN (.d (ay (bB e))) σ):=
 nk Tryz.func99 (by kernel_rfl) (by kernel_rfl) (lI e) fun M bm pr w v hG hM hr=>by
  have:=qr e w v (pp hM hr) hs hd;rwa[sa e hs]at this
end Go.Proofs.YtcbahpllcfbkmaaGreatDoor
namespace Go.Proofs.YtcbahpllcfbkmaaGreatDoor
open Go.RowKit
section
variable {M : ax} {w : World}
end
theorem zz{f:FuncId}{fn:Func}{args:List V}{u:Value}{σ:List (List V)}(hf:Tryz.prog.funcs[f]? = some fn)(hn:(fn.name == "runtime.NumGoroutine")=false)(hb:fn.body.isNone=false)(hu:b9 u)
 (h:∀(M:ax) (bm:List Nat) (w:World) (vs:List Value),G.cells M→M.hold w→vs.length=args.length→(∀i (h:i<args.length) (h':i<vs.length),Rep M bm args[i] vs[i])→Calls Tryz.prog f vs.toArray w fun e w'=>e=.returned u∧Ext w w'):
 Fun G f args σ (aN (.d (.lit u)) σ):=by
 refine⟨cf (P:=Tryz.prog) hf hn hb,fun M bm tk pr w vs hG hI ht hl hr=>(h M bm w vs hG.1 hI.facts hl hr).mono fun e w' ⟨he,hx⟩=>?_⟩;obtain⟨h1,h2⟩:=hI.ext hx;refine⟨M,bm,tk,σ,.ret (.d (.lit u)),⟨rfl,rfl⟩,h1,h2,fun v e=>?_,fun v e=>by cases e⟩;cases e;exact⟨u,he,.d (.lit u hu),fun _ _ _ e=>by cases e⟩
theorem kO{f:FuncId}{fn:Func}{a:V}{u:Value}{σ:List (List V)}(hf:Tryz.prog.funcs[f]? = some fn)(hn:(fn.name == "runtime.NumGoroutine")=false)(hb:fn.body.isNone=false)(hu:b9 u)
 (h:∀(M:ax) (bm:List Nat) (w:World) (v:Value),G.cells M→M.hold w→Rep M bm a v→Calls Tryz.prog f #[v] w fun e w'=>e=.returned u∧Ext w w'):Fun G f [a] σ (aN (.d (.lit u)) σ):=
 zz hf hn hb hu fun M bm w vs hG hM hl hr=>match vs,hl with
  | [v],_=>h M bm w v hG hM (hr 0 (by simp) (by simp))
end Go.Proofs.YtcbahpllcfbkmaaGreatDoor
