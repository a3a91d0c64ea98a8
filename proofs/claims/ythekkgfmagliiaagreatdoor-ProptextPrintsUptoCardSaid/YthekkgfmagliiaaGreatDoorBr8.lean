import Derived.Test.YthekkgfmagliiaaGreatDoorRefs8
import Derived.Test.YthekkgfmagliiaaGreatDoorData
import Derived.Test.YthekkgfmagliiaaGreatDoorNames2
import Derived.Test.YthekkgfmagliiaaGreatDoorElem
import Derived.Test.YthekkgfmagliiaaGreatDoorK2
import Derived.Test.YthekkgfmagliiaaGreatDoorNames
set_option linter.unusedVariables false
set_option linter.unusedSimpArgs false
set_option linter.unusedSectionVars false
namespace Go.Proofs.YthekkgfmagliiaaGreatDoor
open Go.RowKit
theorem tC(e:Ex):∀(d:Int) (x:See),(jK d e x).first=if x.first=0 then cZ e else x.first:=by
 induction e using Ex.ind with
 | h o m s l ih=>
 intro d x
 suffices H:∀(r:List Ex),(∀a,a∈r→a∈l)→∀x:See,(gm (d+1) r x).first=if x.first=0 then iv r else x.first by
  rw[jK,H l (fun _ h=>h)];simp only[oX,cZ,nk,Ex.op,Ex.num,Ex.name,Ex.args];repeat' split
  all_goals first|rfl|simp_all
 intro r
 induction r with
 | nil=>intro _ x;simp only[gm,iv];split<;>simp_all
 | cons a r ihr=>
  intro hm x;rw[gm,ihr (fun x hx=>hm x (by simp[hx])),ih a (hm a (by simp))];simp only[iv];repeat' split
  all_goals simp_all
theorem tT(e:Ex):∀(d:Int) (x:See),0≤x.nodes→x.nodes+ba e≤1000000000→(jK d e x).nodes=x.nodes+ba e:=by
 induction e using Ex.ind with
 | h o m s l ih=>
 intro d x h0 h1
 suffices H:∀(r:List Ex),(∀a,a∈r→a∈l)→∀x:See,0≤x.nodes→x.nodes+bF r≤1000000000→(gm (d+1) r x).nodes=x.nodes+bF r by
  simp only[ba]at h1 ⊢;have hw:wrap64 (x.nodes+1)=x.nodes+1:=nI _ (by omega) (by omega);rw[jK,H l (fun _ h=>h) _ (by simp only[oX];omega) (by simp only[oX];omega)];simp only[oX];omega
 intro r
 induction r with
 | nil=>intro _ x _ _;simp[gm,bF]
 | cons a r ihr=>
  intro hm x h0 h1;simp only[bF]at h1 ⊢;have ha:=ih a (hm a (by simp)) (d+1) x h0 (by omega);rw[gm,ihr (fun x hx=>hm x (by simp[hx])) _ (by omega) (by omega),ha];omega
theorem yV(e:Ex):∀(d:Int) (x:See),(jK d e x).deep=max x.deep (d-1+bG e):=by
 induction e using Ex.ind with
 | h o m s l ih=>
 intro d x
 suffices H:∀(r:List Ex),(∀a,a∈r→a∈l)→∀x:See,d≤x.deep→(gm (d+1) r x).deep=max x.deep (d+cB r)by
  rw[jK,H l (fun _ h=>h) _ (by simp only[oX];split<;>omega)];simp only[oX,bG];split<;>omega
 intro r
 induction r with
 | nil=>intro _ x h;simp only[gm,cB];omega
 | cons a r ihr=>
  intro hm x h;have ha:=ih a (hm a (by simp)) (d+1) x;rw[gm,ihr (fun x hx=>hm x (by simp[hx])) _ (by omega),ha];simp only[cB];omega
theorem nl(ops:List Int)(f:See→List ByteArray)(hf:∀x d e,f (oX x d e)=cr ops (f x) e.op e.name)(e:Ex):∀(d:Int) (x:See),cE (bI ops) e (f x)=(f (jK d e x),true):=by
 induction e using Ex.ind with
 | h o m s l ih=>
 intro d x
 suffices H:∀(r:List Ex),(∀a,a∈r→a∈l)→∀x:See,cR (bI ops) r (f x)=(f (gm (d+1) r x),true)by
  rw[jK,cE];simp only[bI,if_true];rw[←hf x d,H l (fun _ h=>h)]
 intro r
 induction r with
 | nil=>intro _ x;simp[gm,cR]
 | cons a r ihr=>
  intro hm x;rw[gm,cR,ih a (hm a (by simp)) (d+1) x];simp only[if_true];exact ihr (fun x hx=>hm x (by simp[hx])) _
theorem no(e:Ex)(h:ba e≤1000000):(eE e).first=cZ e∧(eE e).nodes=ba e∧(eE e).deep=bG e∧(eE e).vars=b5 [2] e∧(eE e).arrs=b5 [3,24] e:=by
 unfold eE;refine⟨by rw[tC];rfl,?_,?_,?_,?_⟩
 ·rw[tT _ _ _ (by simp) (by simp;omega)];simp
 ·rw[yV];simp
 ·have:=nl [2] See.vars (fun _ _ _=>rfl) e 1 ⟨0,0,0,[],[]⟩;unfold b5;rw[this]
 ·have:=nl [3,24] See.arrs (fun _ _ _=>rfl) e 1 ⟨0,0,0,[],[]⟩;unfold b5;rw[this]
theorem uM(e:Ex)(h:ba e≤1000000):jh e=bc e:=by
 obtain⟨h1,h2,h3,-,-⟩:=no e h;unfold jh bc;rw[h1,h2,h3];have e1:(24<(bG e:Int))↔24<bG e:=by omega
 have e2:(400<(ba e:Int))↔400<ba e:=by omega
 simp only[e1,e2]
mutual
def dex:Ex→List D
 | .mk o n s l=>[an o,an n,ak s,.sl (Av l)]
def Av:List Ex→List (List D)
 | []=>[]
 | a::r=>dex a::Av r
end
theorem qq(l:List Ex):Av l=l.map dex:=by
 induction l with
 | nil=>rfl
 | cons a r ih=>simp only[Av,ih,List.map_cons]
theorem bv(e:Ex):dex e=[an e.op,an e.num,ak e.name,.sl (e.args.map dex)]:=by
 cases e;simp only[dex,qq,Ex.op,Ex.num,Ex.name,Ex.args]
def vex(e:Ex):V:=.agg ((dex e).map V.d)
theorem aG(e:Ex):vex e=.agg [.d (an e.op),.d (an e.num),.d (ak e.name),.d (.sl (e.args.map dex))]:=by
 unfold vex;rw[bv];rfl
section
variable {M : av} {w : World}
theorem yk(hM:M.hold w)(e:Ex):∀(vs:List Value),vs.length=(dex e).length→(∀i (h:i<(dex e).length) (h':i<vs.length),DRep M (dex e)[i] vs[i])→ExRep w e vs:=by
 induction e using Ex.ind with
 | h o n s l ih=>
 intro vs hl hr;simp only[dex,qq]at hl hr
 match vs,hl with
 | [v0,v1,v2,v3],_=>
 have r0:=hr 0 (by simp) (by simp);have r1:=hr 1 (by simp) (by simp);have r2:=hr 2 (by simp) (by simp);have r3:=hr 3 (by simp) (by simp);simp only[List.getElem_cons_zero,List.getElem_cons_succ,an,ak]at r0 r1 r2 r3;cases r0 with|lit _ h0=>
 cases r1 with|lit _ h1=>
 cases r2 with|lit _ h2=>
 cases r3 with
 | sl _ k p cap val hk hd hf hc hm=>
 have hlen:(l.map dex).length=l.length:=by simp
 have h4:∀a:Ex,(dex a).length=4:=fun a=>by rw[bv];rfl
 refine .mk o n s l _ ((List.range l.length).map fun i=>(List.range 4).map fun j=>val i j) (by simp) (fun i h h'=>?_) ?_ ?_ ?_ h2
 ·simp only[List.getElem_map,List.getElem_range];refine ih _ (List.getElem_mem h) _ (by rw[h4];simp) (fun j g g'=>?_);simp only[List.getElem_map,List.getElem_range];have:=hd i j (by simpa using h) (by simpa using g);simpa using this
 ·refine⟨p,cap,by simp,by simpa using hc,hm,fun i cs hi=>?_⟩;rw[List.getElem?_map]at hi;obtain⟨q,hq,rfl⟩:=Option.map_eq_some_iff.1 hi;have hql:=(List.getElem?_eq_some_iff.1 hq).1;have hqe:q=i:=by have:=(List.getElem?_eq_some_iff.1 hq).2;simpa using this.symm
  subst hqe;have hlt:q<(l.map dex).length:=by simpa using hql
  obtain⟨b,off,h5,h6⟩:=hf q hlt;have hk4:k=4:=by rw[←hk _ (List.getElem_mem hlt)];simp[h4]
  subst hk4;refine⟨b,off,h5,by simp,fun j v hj=>?_⟩;rw[List.getElem?_map]at hj;obtain⟨j',hj',rfl⟩:=Option.map_eq_some_iff.1 hj;have hjl:=(List.getElem?_eq_some_iff.1 hj').1;have hje:j'=j:=by have:=(List.getElem?_eq_some_iff.1 hj').2;simpa using this.symm
  subst hje;exact hM _ _ _ (h6 j' (by simpa using hjl))
 ·simp only[ca,IntKind.min,IntKind.max,IntKind.signed,IntKind.bits]at h0;simpa using h0
 ·simp only[ca,IntKind.min,IntKind.max,IntKind.signed,IntKind.bits]at h1;simpa using h1
theorem fL{bm:List Nat}(hM:M.hold w){e:Ex}{v:Value}(h:Rep M bm (vex e) v):dV w e v:=by
 unfold vex at h;generalize hcs:(dex e).map V.d=cs at h;cases h with
 | @agg _ vs hl hh h1=>
 refine⟨vs,yk hM e vs (by rw[hl,←hcs];simp) (fun i g g'=>?_),rfl⟩;have:=hh i (by rw[←hcs];simpa using g) g';have e1:cs[i]'(by rw[←hcs];simpa using g)=.d (dex e)[i]:=by subst hcs;simp
 rw[e1]at this;cases this with|d h=>exact h
end
theorem qZ(o m:Int)(s:ByteArray)(k:Nat):0≤aM o m s k∧aM o m s k≤7:=by
 unfold aM;repeat' split
 all_goals omega
theorem zY(e:Ex):0≤cZ e∧cZ e≤7:=by
 induction e using Ex.ind with
 | h o m s l ih=>
 have hL:∀(r:List Ex),(∀a,a∈r→a∈l)→0≤iv r∧iv r≤7:=by
  intro r
  induction r with
  | nil=>intro _;simp[iv]
  | cons a r ihr=>
   intro hm;have h1:=ih a (hm a (by simp));have h2:=ihr (fun x hx=>hm x (by simp[hx]));simp only[iv];split<;>omega
 have h1:=qZ o m s l.length;have h2:=hL l (fun _ h=>h);simp only[cZ];split<;>omega
theorem lw(e:Ex):ca (.int .i64 (bc e)):=by
 have h:0≤bc e∧bc e≤7:=by
  have:=zY e;unfold bc;split<;>omega
 generalize bc e=y at h;simp only[ca,IntKind.min,IntKind.max,IntKind.signed,IntKind.bits,if_true];omega
theorem j7(e:Ex)(hs:ba e≤1000000)(hd:bG e≤1000000)(σ:List (List V)):Fun G 91 [vex e] σ (aB (.d (an (bc e))) σ):=
 la Tryz.func91 (by kernel_rfl) (by kernel_rfl) (lw e) fun M bm pr w v hG hM hr=>wm e w v (fL hM hr) (pc hG.1 hM) hd hs
theorem mb(e:Ex)(hs:ba e≤1000000)(hd:bG e≤999999)(σ:List (List V)):Fun G 76 [vex e] σ (aB (.d (an (bc e))) σ):=
 la Tryz.func76 (by kernel_rfl) (by kernel_rfl) (lw e) fun M bm pr w v hG hM hr=>by
  have:=sI e w v (fL hM hr) hs hd;rwa[uM e hs]at this
end Go.Proofs.YthekkgfmagliiaaGreatDoor
namespace Go.Proofs.YthekkgfmagliiaaGreatDoor
open Go.RowKit
section
variable {M : av} {w : World}
end
theorem tu{f:FuncId}{fn:Func}{args:List V}{u:Value}{σ:List (List V)}(hf:Tryz.prog.funcs[f]? = some fn)(hn:(fn.name == "runtime.NumGoroutine")=false)(hb:fn.body.isNone=false)(hu:ca u)
 (h:∀(M:av) (bm:List Nat) (w:World) (vs:List Value),G.cells M→M.hold w→vs.length=args.length→(∀i (h:i<args.length) (h':i<vs.length),Rep M bm args[i] vs[i])→Calls Tryz.prog f vs.toArray w fun e w'=>e=.returned u∧Ext w w'):
 Fun G f args σ (aB (.d (.lit u)) σ):=by
 refine⟨bq (P:=Tryz.prog) hf hn hb,fun M bm tk pr w vs hG hI ht hl hr=>(h M bm w vs hG.1 hI.facts hl hr).mono fun e w' ⟨he,hx⟩=>?_⟩;obtain⟨h1,h2⟩:=hI.ext hx;refine⟨M,bm,tk,σ,.ret (.d (.lit u)),⟨rfl,rfl⟩,h1,h2,fun v e=>?_,fun v e=>by cases e⟩;cases e;exact⟨u,he,.d (.lit u hu),fun _ _ _ e=>by cases e⟩
theorem qj{f:FuncId}{fn:Func}{a:V}{u:Value}{σ:List (List V)}(hf:Tryz.prog.funcs[f]? = some fn)(hn:(fn.name == "runtime.NumGoroutine")=false)(hb:fn.body.isNone=false)(hu:ca u)
 (h:∀(M:av) (bm:List Nat) (w:World) (v:Value),G.cells M→M.hold w→Rep M bm a v→Calls Tryz.prog f #[v] w fun e w'=>e=.returned u∧Ext w w'):Fun G f [a] σ (aB (.d (.lit u)) σ):=
 tu hf hn hb hu fun M bm w vs hG hM hl hr=>match vs,hl with
  | [v],_=>h M bm w v hG hM (hr 0 (by simp) (by simp))
theorem xe{f:FuncId}{fn:Func}{a b:V}{u:Value}{σ:List (List V)}(hf:Tryz.prog.funcs[f]? = some fn)(hn:(fn.name == "runtime.NumGoroutine")=false)(hb:fn.body.isNone=false)(hu:ca u)
 (h:∀(M:av) (bm:List Nat) (w:World) (v v':Value),G.cells M→M.hold w→Rep M bm a v→Rep M bm b v'→Calls Tryz.prog f #[v,v'] w fun e w'=>e=.returned u∧Ext w w'):Fun G f [a,b] σ (aB (.d (.lit u)) σ):=
 tu hf hn hb hu fun M bm w vs hG hM hl hr=>match vs,hl with
  | [v,v'],_=>h M bm w v v' hG hM (hr 0 (by simp) (by simp)) (hr 1 (by simp) (by simp))
end Go.Proofs.YthekkgfmagliiaaGreatDoor
