import Derived.Test.YtcbahpllcfbkmaaGreatDoorRefs8
import Derived.Test.YtcbahpllcfbkmaaGreatDoorData
import Derived.Test.YtcbahpllcfbkmaaGreatDoorNames2
import Derived.Test.YtcbahpllcfbkmaaGreatDoorBl2
import Derived.Test.YtcbahpllcfbkmaaGreatDoorK
import Derived.Test.YtcbahpllcfbkmaaGreatDoorNames
set_option linter.unusedVariables false
set_option linter.unusedSimpArgs false
set_option linter.unusedSectionVars false
namespace Go.Proofs.YtcbahpllcfbkmaaGreatDoor
open Go.RowKit
theorem na(e:Ex):bP e≤ba e:=by
 induction e using Ex.ind with
 | h o m s l ih=>
 simp only[bP,ba]
 suffices H:∀(r:List Ex),(∀a,a∈r→a∈l)→cB r≤bF r by have:=H l (fun _ h=>h);omega
 intro r
 induction r with
 | nil=>intro _;simp[cB,bF]
 | cons a r ihr=>
  intro hm;have h1:=ih a (hm a (by simp));have h2:=ihr (fun x hx=>hm x (by simp[hx]));simp only[cB,bF];omega
theorem u7(e:Ex):1≤ba e:=by cases e;simp[ba]
theorem Ee(l:List Ex):l.length≤bF l:=by
 induction l with
 | nil=>simp
 | cons a r ih=>have:=u7 a;simp only[List.length_cons,bF];omega
theorem uZ(e:Ex):∀(d:Int) (x:See),(lm d e x).first=if x.first=0 then b8 e else x.first:=by
 induction e using Ex.ind with
 | h o m s l ih=>
 intro d x
 suffices H:∀(r:List Ex),(∀a,a∈r→a∈l)→∀x:See,(iw (d+1) r x).first=if x.first=0 then jB r else x.first by
  rw[lm,H l (fun _ h=>h)];simp only[p5,b8,o9,Ex.op,Ex.num,Ex.name,Ex.args];repeat' split
  all_goals first|rfl|simp_all
 intro r
 induction r with
 | nil=>intro _ x;simp only[iw,jB];split<;>simp_all
 | cons a r ihr=>
  intro hm x;rw[iw,ihr (fun x hx=>hm x (by simp[hx])),ih a (hm a (by simp))];simp only[jB];repeat' split
  all_goals simp_all
theorem xj(e:Ex):∀(d:Int) (x:See),0≤x.nodes→x.nodes+ba e≤1000000000→(lm d e x).nodes=x.nodes+ba e:=by
 induction e using Ex.ind with
 | h o m s l ih=>
 intro d x h0 h1
 suffices H:∀(r:List Ex),(∀a,a∈r→a∈l)→∀x:See,0≤x.nodes→x.nodes+bF r≤1000000000→(iw (d+1) r x).nodes=x.nodes+bF r by
  simp only[ba]at h1 ⊢;have hw:wrap64 (x.nodes+1)=x.nodes+1:=oW _ (by omega) (by omega);rw[lm,H l (fun _ h=>h) _ (by simp only[p5];omega) (by simp only[p5];omega)];simp only[p5];omega
 intro r
 induction r with
 | nil=>intro _ x _ _;simp[iw,bF]
 | cons a r ihr=>
  intro hm x h0 h1;simp only[bF]at h1 ⊢;have ha:=ih a (hm a (by simp)) (d+1) x h0 (by omega);rw[iw,ihr (fun x hx=>hm x (by simp[hx])) _ (by omega) (by omega),ha];omega
theorem AJ(e:Ex):∀(d:Int) (x:See),(lm d e x).deep=max x.deep (d-1+bP e):=by
 induction e using Ex.ind with
 | h o m s l ih=>
 intro d x
 suffices H:∀(r:List Ex),(∀a,a∈r→a∈l)→∀x:See,d≤x.deep→(iw (d+1) r x).deep=max x.deep (d+cB r)by
  rw[lm,H l (fun _ h=>h) _ (by simp only[p5];split<;>omega)];simp only[p5,bP];split<;>omega
 intro r
 induction r with
 | nil=>intro _ x h;simp only[iw,cB];omega
 | cons a r ihr=>
  intro hm x h;have ha:=ih a (hm a (by simp)) (d+1) x;rw[iw,ihr (fun x hx=>hm x (by simp[hx])) _ (by omega),ha];simp only[cB];omega
theorem pd(ops:List Int)(f:See→List ByteArray)(hf:∀x d e,f (p5 x d e)=eX ops (f x) e.op e.name)(e:Ex):∀(d:Int) (x:See),dX (ko ops) e (f x)=(f (lm d e x),true):=by
 induction e using Ex.ind with
 | h o m s l ih=>
 intro d x
 suffices H:∀(r:List Ex),(∀a,a∈r→a∈l)→∀x:See,eG (ko ops) r (f x)=(f (iw (d+1) r x),true)by
  rw[lm,dX];simp only[ko,if_true];rw[←hf x d,H l (fun _ h=>h)]
 intro r
 induction r with
 | nil=>intro _ x;simp[iw,eG]
 | cons a r ihr=>
  intro hm x;rw[iw,eG,ih a (hm a (by simp)) (d+1) x];simp only[if_true];exact ihr (fun x hx=>hm x (by simp[hx])) _
theorem wF(e:Ex)(h:ba e≤1200000):(fq e).first=b8 e∧(fq e).nodes=ba e∧(fq e).deep=bP e∧(fq e).vars=mu [2] e∧(fq e).arrs=mu [3,24] e:=by
 unfold fq;refine⟨by rw[uZ];rfl,?_,?_,?_,?_⟩
 ·rw[xj _ _ _ (by simp) (by simp;omega)];simp
 ·rw[AJ];simp
 ·have:=pd [2] See.vars (fun _ _ _=>rfl) e 1 ⟨0,0,0,[],[]⟩;unfold mu;rw[this]
 ·have:=pd [3,24] See.arrs (fun _ _ _=>rfl) e 1 ⟨0,0,0,[],[]⟩;unfold mu;rw[this]
theorem vw(e:Ex)(h:ba e≤1200000):lb e=bU e:=by
 obtain⟨h1,h2,h3,-,-⟩:=wF e h;unfold lb bU;rw[h1,h2,h3];have e1:(24<(bP e:Int))↔24<bP e:=by omega
 have e2:(400<(ba e:Int))↔400<ba e:=by omega
 simp only[e1,e2]
mutual
def dex:Ex→List D
 | .mk o n s l=>[az o,az n,an s,.sl (BX l)]
def BX:List Ex→List (List D)
 | []=>[]
 | a::r=>dex a::BX r
end
theorem rY(l:List Ex):BX l=l.map dex:=by
 induction l with
 | nil=>rfl
 | cons a r ih=>simp only[BX,ih,List.map_cons]
theorem cS(e:Ex):dex e=[az e.op,az e.num,an e.name,.sl (e.args.map dex)]:=by
 cases e;simp only[dex,rY,Ex.op,Ex.num,Ex.name,Ex.args]
def vex(e:Ex):V:=.agg ((dex e).map V.d)
theorem be(e:Ex):vex e=.agg [.d (az e.op),.d (az e.num),.d (an e.name),.d (.sl (e.args.map dex))]:=by
 unfold vex;rw[cS];rfl
section
variable {M : av} {w : World}
theorem zf(hM:M.hold w)(e:Ex):∀(vs:List Value),vs.length=(dex e).length→(∀i (h:i<(dex e).length) (h':i<vs.length),DRep M (dex e)[i] vs[i])→ExRep w e vs:=by
 induction e using Ex.ind with
 | h o n s l ih=>
 intro vs hl hr;simp only[dex,rY]at hl hr
 match vs,hl with
 | [v0,v1,v2,v3],_=>
 have r0:=hr 0 (by simp) (by simp);have r1:=hr 1 (by simp) (by simp);have r2:=hr 2 (by simp) (by simp);have r3:=hr 3 (by simp) (by simp);simp only[List.getElem_cons_zero,List.getElem_cons_succ,az,an]at r0 r1 r2 r3;cases r0 with|lit _ h0=>
 cases r1 with|lit _ h1=>
 cases r2 with|lit _ h2=>
 cases r3 with
 | sl _ k p cap val hk hd hf hc hm=>
 have hlen:(l.map dex).length=l.length:=by simp
 have h4:∀a:Ex,(dex a).length=4:=fun a=>by rw[cS];rfl
 refine .mk o n s l _ ((List.range l.length).map fun i=>(List.range 4).map fun j=>val i j) (by simp) (fun i h h'=>?_) ?_ ?_ ?_ h2
 ·simp only[List.getElem_map,List.getElem_range];refine ih _ (List.getElem_mem h) _ (by rw[h4];simp) (fun j g g'=>?_);simp only[List.getElem_map,List.getElem_range];have:=hd i j (by simpa using h) (by simpa using g);simpa using this
 ·refine⟨p,cap,by simp,by simpa using hc,hm,fun i cs hi=>?_⟩;rw[List.getElem?_map]at hi;obtain⟨q,hq,rfl⟩:=Option.map_eq_some_iff.1 hi;have hql:=(List.getElem?_eq_some_iff.1 hq).1;have hqe:q=i:=by have:=(List.getElem?_eq_some_iff.1 hq).2;simpa using this.symm
  subst hqe;have hlt:q<(l.map dex).length:=by simpa using hql
  obtain⟨b,off,h5,h6⟩:=hf q hlt;have hk4:k=4:=by rw[←hk _ (List.getElem_mem hlt)];simp[h4]
  subst hk4;refine⟨b,off,h5,by simp,fun j v hj=>?_⟩;rw[List.getElem?_map]at hj;obtain⟨j',hj',rfl⟩:=Option.map_eq_some_iff.1 hj;have hjl:=(List.getElem?_eq_some_iff.1 hj').1;have hje:j'=j:=by have:=(List.getElem?_eq_some_iff.1 hj').2;simpa using this.symm
  subst hje;exact hM _ _ _ (h6 j' (by simpa using hjl))
 ·simp only[ce,IntKind.min,IntKind.max,IntKind.signed,IntKind.bits]at h0;simpa using h0
 ·simp only[ce,IntKind.min,IntKind.max,IntKind.signed,IntKind.bits]at h1;simpa using h1
theorem qL{bm:List Nat}(hM:M.hold w){e:Ex}{v:Value}(h:Rep M bm (vex e) v):fU w e v:=by
 unfold vex at h;generalize hcs:(dex e).map V.d=cs at h;cases h with
 | @agg _ vs hl hh h1=>
 refine⟨vs,zf hM e vs (by rw[hl,←hcs];simp) (fun i g g'=>?_),rfl⟩;have:=hh i (by rw[←hcs];simpa using g) g';have e1:cs[i]'(by rw[←hcs];simpa using g)=.d (dex e)[i]:=by subst hcs;simp
 rw[e1]at this;cases this with|d h=>exact h
end
theorem tI(o m:Int)(s:ByteArray)(k:Nat):0≤aH o m s k∧aH o m s k≤7:=by
 unfold aH;repeat' split
 all_goals omega
theorem Bu(e:Ex):0≤b8 e∧b8 e≤7:=by
 induction e using Ex.ind with
 | h o m s l ih=>
 have hL:∀(r:List Ex),(∀a,a∈r→a∈l)→0≤jB r∧jB r≤7:=by
  intro r
  induction r with
  | nil=>intro _;simp[jB]
  | cons a r ihr=>
   intro hm;have h1:=ih a (hm a (by simp));have h2:=ihr (fun x hx=>hm x (by simp[hx]));simp only[jB];split<;>omega
 have h1:=tI o m s l.length;have h2:=hL l (fun _ h=>h);simp only[b8];split<;>omega
theorem nl(e:Ex):ce (.int .i64 (bU e)):=by
 have h:0≤bU e∧bU e≤7:=by
  have:=Bu e;unfold bU;split<;>omega
 generalize bU e=y at h;simp only[ce,IntKind.min,IntKind.max,IntKind.signed,IntKind.bits,if_true];omega
theorem lA(e:Ex)(hs:ba e≤1200000)(hd:bP e≤1200000)(σ:List (List V)):Fun G 89 [vex e] σ (aZ (.d (az (bU e))) σ):=
 pO Tryz.func89 (by kernel_rfl) (by kernel_rfl) (nl e) fun M bm pr w v hG hM hr=>wU e w v (qL hM hr) (uO hG.1 hM) hd hs
theorem tM(e:Ex)(hs:ba e≤1200000)(hd:bP e≤1199999)(σ:List (List V)):Fun G 99 [vex e] σ (aZ (.d (az (bU e))) σ):=
 pO Tryz.func99 (by kernel_rfl) (by kernel_rfl) (nl e) fun M bm pr w v hG hM hr=>by
  have:=ti e w v (qL hM hr) hs hd;rwa[vw e hs]at this
end Go.Proofs.YtcbahpllcfbkmaaGreatDoor
namespace Go.Proofs.YtcbahpllcfbkmaaGreatDoor
open Go.RowKit
section
variable {M : av} {w : World}
end
theorem B7{f:FuncId}{fn:Func}{args:List V}{u:Value}{σ:List (List V)}(hf:Tryz.prog.funcs[f]? = some fn)(hn:(fn.name == "runtime.NumGoroutine")=false)(hb:fn.body.isNone=false)(hu:ce u)
 (h:∀(M:av) (bm:List Nat) (w:World) (vs:List Value),G.cells M→M.hold w→vs.length=args.length→(∀i (h:i<args.length) (h':i<vs.length),Rep M bm args[i] vs[i])→Calls Tryz.prog f vs.toArray w fun e w'=>e=.returned u∧Ext w w'):
 Fun G f args σ (aZ (.d (.lit u)) σ):=by
 refine⟨ck (P:=Tryz.prog) hf hn hb,fun M bm tk pr w vs hG hI ht hl hr=>(h M bm w vs hG.1 hI.facts hl hr).mono fun e w' ⟨he,hx⟩=>?_⟩;obtain⟨h1,h2⟩:=hI.ext hx;refine⟨M,bm,tk,σ,.ret (.d (.lit u)),⟨rfl,rfl⟩,h1,h2,fun v e=>?_,fun v e=>by cases e⟩;cases e;exact⟨u,he,.d (.lit u hu),fun _ _ _ e=>by cases e⟩
theorem mW{f:FuncId}{fn:Func}{a:V}{u:Value}{σ:List (List V)}(hf:Tryz.prog.funcs[f]? = some fn)(hn:(fn.name == "runtime.NumGoroutine")=false)(hb:fn.body.isNone=false)(hu:ce u)
 (h:∀(M:av) (bm:List Nat) (w:World) (v:Value),G.cells M→M.hold w→Rep M bm a v→Calls Tryz.prog f #[v] w fun e w'=>e=.returned u∧Ext w w'):Fun G f [a] σ (aZ (.d (.lit u)) σ):=
 B7 hf hn hb hu fun M bm w vs hG hM hl hr=>match vs,hl with
  | [v],_=>h M bm w v hG hM (hr 0 (by simp) (by simp))
end Go.Proofs.YtcbahpllcfbkmaaGreatDoor
