import Derived.Test.YthekkgfmagliiaaGreatDoorRefs8
import Derived.Test.YthekkgfmagliiaaGreatDoorData
import Derived.Test.YthekkgfmagliiaaGreatDoorNames2
import Derived.Test.YthekkgfmagliiaaGreatDoorElem
import Derived.Test.YthekkgfmagliiaaGreatDoorK2
import Derived.Test.YthekkgfmagliiaaGreatDoorNames
set_option linter.unusedVariables false
set_option linter.unusedSimpArgs false
set_option linter.unusedSectionVars false
namespace Go.Proofs.YthekkgfmagliiaaGreatDoor
open Go.RowKit
theorem AR(e:Ex):∀(d:Int) (x:See),(me d e x).first=if x.first=0 then dz e else x.first:=by
 induction e using Ex.ind with
 | h o m s l ih=>
 intro d x
 suffices H:∀(r:List Ex),(∀a,a∈r→a∈l)→∀x:See,(jb (d+1) r x).first=if x.first=0 then lc r else x.first by
  rw[me,H l (fun _ h=>h)];simp only[rW,dz,qW,Ex.op,Ex.num,Ex.name,Ex.args];repeat' split
  all_goals first|rfl|simp_all
 intro r
 induction r with
 | nil=>intro _ x;simp only[jb,lc];split<;>simp_all
 | cons a r ihr=>
  intro hm x;rw[jb,ihr (fun x hx=>hm x (by simp[hx])),ih a (hm a (by simp))];simp only[lc];repeat' split
  all_goals simp_all
theorem yB(e:Ex):∀(d:Int) (x:See),0≤x.nodes→x.nodes+aQ e≤1000000000→(me d e x).nodes=x.nodes+aQ e:=by
 induction e using Ex.ind with
 | h o m s l ih=>
 intro d x h0 h1
 suffices H:∀(r:List Ex),(∀a,a∈r→a∈l)→∀x:See,0≤x.nodes→x.nodes+aV r≤1000000000→(jb (d+1) r x).nodes=x.nodes+aV r by
  simp only[aQ]at h1 ⊢;have hw:wrap64 (x.nodes+1)=x.nodes+1:=qD _ (by omega) (by omega);rw[me,H l (fun _ h=>h) _ (by simp only[rW];omega) (by simp only[rW];omega)];simp only[rW];omega
 intro r
 induction r with
 | nil=>intro _ x _ _;simp[jb,aV]
 | cons a r ihr=>
  intro hm x h0 h1;simp only[aV]at h1 ⊢;have ha:=ih a (hm a (by simp)) (d+1) x h0 (by omega);rw[jb,ihr (fun x hx=>hm x (by simp[hx])) _ (by omega) (by omega),ha];omega
theorem Cn(e:Ex):∀(d:Int) (x:See),(me d e x).deep=max x.deep (d-1+bN e):=by
 induction e using Ex.ind with
 | h o m s l ih=>
 intro d x
 suffices H:∀(r:List Ex),(∀a,a∈r→a∈l)→∀x:See,d≤x.deep→(jb (d+1) r x).deep=max x.deep (d+cY r)by
  rw[me,H l (fun _ h=>h) _ (by simp only[rW];split<;>omega)];simp only[rW,bN];split<;>omega
 intro r
 induction r with
 | nil=>intro _ x h;simp only[jb,cY];omega
 | cons a r ihr=>
  intro hm x h;have ha:=ih a (hm a (by simp)) (d+1) x;rw[jb,ihr (fun x hx=>hm x (by simp[hx])) _ (by omega),ha];simp only[cY];omega
theorem qZ(ops:List Int)(f:See→List ByteArray)(hf:∀x d e,f (rW x d e)=cM ops (f x) e.op e.name)(e:Ex):∀(d:Int) (x:See),dh (bO ops) e (f x)=(f (me d e x),true):=by
 induction e using Ex.ind with
 | h o m s l ih=>
 intro d x
 suffices H:∀(r:List Ex),(∀a,a∈r→a∈l)→∀x:See,dB (bO ops) r (f x)=(f (jb (d+1) r x),true)by
  rw[me,dh];simp only[bO,if_true];rw[←hf x d,H l (fun _ h=>h)]
 intro r
 induction r with
 | nil=>intro _ x;simp[jb,dB]
 | cons a r ihr=>
  intro hm x;rw[jb,dB,ih a (hm a (by simp)) (d+1) x];simp only[if_true];exact ihr (fun x hx=>hm x (by simp[hx])) _
theorem qX(e:Ex)(h:aQ e≤1000000):(fJ e).first=dz e∧(fJ e).nodes=aQ e∧(fJ e).deep=bN e∧(fJ e).vars=ck [2] e∧(fJ e).arrs=ck [3,24] e:=by
 unfold fJ;refine⟨by rw[AR];rfl,?_,?_,?_,?_⟩
 ·rw[yB _ _ _ (by simp) (by simp;omega)];simp
 ·rw[Cn];simp
 ·have:=qZ [2] See.vars (fun _ _ _=>rfl) e 1 ⟨0,0,0,[],[]⟩;unfold ck;rw[this]
 ·have:=qZ [3,24] See.arrs (fun _ _ _=>rfl) e 1 ⟨0,0,0,[],[]⟩;unfold ck;rw[this]
theorem z7(e:Ex)(h:aQ e≤1000000):lI e=bd e:=by
 obtain⟨h1,h2,h3,-,-⟩:=qX e h;unfold lI bd;rw[h1,h2,h3];have e1:(24<(bN e:Int))↔24<bN e:=by omega
 have e2:(400<(aQ e:Int))↔400<aQ e:=by omega
 simp only[e1,e2]
mutual
def dex:Ex→List D
 | .mk o n s l=>[ao o,ao n,an s,.sl (FD l)]
def FD:List Ex→List (List D)
 | []=>[]
 | a::r=>dex a::FD r
end
theorem uH(l:List Ex):FD l=l.map dex:=by
 induction l with
 | nil=>rfl
 | cons a r ih=>simp only[FD,ih,List.map_cons]
theorem cS(e:Ex):dex e=[ao e.op,ao e.num,an e.name,.sl (e.args.map dex)]:=by
 cases e;simp only[dex,uH,Ex.op,Ex.num,Ex.name,Ex.args]
def vex(e:Ex):V:=.agg ((dex e).map V.d)
theorem aR(e:Ex):vex e=.agg [.d (ao e.op),.d (ao e.num),.d (an e.name),.d (.sl (e.args.map dex))]:=by
 unfold vex;rw[cS];rfl
section
variable {M : av} {w : World}
theorem BO(hM:M.hold w)(e:Ex):∀(vs:List Value),vs.length=(dex e).length→(∀i (h:i<(dex e).length) (h':i<vs.length),DRep M (dex e)[i] vs[i])→ExRep w e vs:=by
 induction e using Ex.ind with
 | h o n s l ih=>
 intro vs hl hr;simp only[dex,uH]at hl hr
 match vs,hl with
 | [v0,v1,v2,v3],_=>
 have r0:=hr 0 (by simp) (by simp);have r1:=hr 1 (by simp) (by simp);have r2:=hr 2 (by simp) (by simp);have r3:=hr 3 (by simp) (by simp);simp only[List.getElem_cons_zero,List.getElem_cons_succ,ao,an]at r0 r1 r2 r3;cases r0 with|lit _ h0=>
 cases r1 with|lit _ h1=>
 cases r2 with|lit _ h2=>
 cases r3 with
 | sl _ k p cap val hk hd hf hc hm=>
 have hlen:(l.map dex).length=l.length:=by simp
 have h4:∀a:Ex,(dex a).length=4:=fun a=>by rw[cS];rfl
 refine .mk o n s l _ ((List.range l.length).map fun i=>(List.range 4).map fun j=>val i j) (by simp) (fun i h h'=>?_) ?_ ?_ ?_ h2
 ·simp only[List.getElem_map,List.getElem_range];refine ih _ (List.getElem_mem h) _ (by rw[h4];simp) (fun j g g'=>?_);simp only[List.getElem_map,List.getElem_range];have:=hd i j (by simpa using h) (by simpa using g);simpa using this
 ·refine⟨p,cap,by simp,by simpa using hc,hm,fun i cs hi=>?_⟩;rw[List.getElem?_map]at hi;obtain⟨q,hq,rfl⟩:=Option.map_eq_some_iff.1 hi;have hql:=(List.getElem?_eq_some_iff.1 hq).1;have hqe:q=i:=by have:=(List.getElem?_eq_some_iff.1 hq).2;simpa using this.symm
  subst hqe;have hlt:q<(l.map dex).length:=by simpa using hql
  obtain⟨b,off,h5,h6⟩:=hf q hlt;have hk4:k=4:=by rw[←hk _ (List.getElem_mem hlt)];simp[h4]
  subst hk4;refine⟨b,off,h5,by simp,fun j v hj=>?_⟩;rw[List.getElem?_map]at hj;obtain⟨j',hj',rfl⟩:=Option.map_eq_some_iff.1 hj;have hjl:=(List.getElem?_eq_some_iff.1 hj').1;have hje:j'=j:=by have:=(List.getElem?_eq_some_iff.1 hj').2;simpa using this.symm
  subst hje;exact hM _ _ _ (h6 j' (by simpa using hjl))
 ·simp only[ct,IntKind.min,IntKind.max,IntKind.signed,IntKind.bits]at h0;simpa using h0
 ·simp only[ct,IntKind.min,IntKind.max,IntKind.signed,IntKind.bits]at h1;simpa using h1
theorem iu{bm:List Nat}(hM:M.hold w){e:Ex}{v:Value}(h:Rep M bm (vex e) v):fc w e v:=by
 unfold vex at h;generalize hcs:(dex e).map V.d=cs at h;cases h with
 | @agg _ vs hl hh h1=>
 refine⟨vs,BO hM e vs (by rw[hl,←hcs];simp) (fun i g g'=>?_),rfl⟩;have:=hh i (by rw[←hcs];simpa using g) g';have e1:cs[i]'(by rw[←hcs];simpa using g)=.d (dex e)[i]:=by subst hcs;simp
 rw[e1]at this;cases this with|d h=>exact h
end
theorem xf(o m:Int)(s:ByteArray)(k:Nat):0≤aJ o m s k∧aJ o m s k≤7:=by
 unfold aJ;repeat' split
 all_goals omega
theorem EB(e:Ex):0≤dz e∧dz e≤7:=by
 induction e using Ex.ind with
 | h o m s l ih=>
 have hL:∀(r:List Ex),(∀a,a∈r→a∈l)→0≤lc r∧lc r≤7:=by
  intro r
  induction r with
  | nil=>intro _;simp[lc]
  | cons a r ihr=>
   intro hm;have h1:=ih a (hm a (by simp));have h2:=ihr (fun x hx=>hm x (by simp[hx]));simp only[lc];split<;>omega
 have h1:=xf o m s l.length;have h2:=hL l (fun _ h=>h);simp only[dz];split<;>omega
theorem pH(e:Ex):ct (.int .i64 (bd e)):=by
 have h:0≤bd e∧bd e≤7:=by
  have:=EB e;unfold bd;split<;>omega
 generalize bd e=y at h;simp only[ct,IntKind.min,IntKind.max,IntKind.signed,IntKind.bits,if_true];omega
theorem mz(e:Ex)(hs:aQ e≤1000000)(hd:bN e≤1000000)(σ:List (List V)):Fun G 91 [vex e] σ (aG (.d (ao (bd e))) σ):=
 nI Tryz.func91 (by kernel_rfl) (by kernel_rfl) (pH e) fun M bm pr w v hG hM hr=>Aj e w v (iu hM hr) (sN hG.1 hM) hd hs
theorem wb(e:Ex)(hs:aQ e≤1000000)(hd:bN e≤999999)(σ:List (List V)):Fun G 76 [vex e] σ (aG (.d (ao (bd e))) σ):=
 nI Tryz.func76 (by kernel_rfl) (by kernel_rfl) (pH e) fun M bm pr w v hG hM hr=>by
  have:=wE e w v (iu hM hr) hs hd;rwa[z7 e hs]at this
end Go.Proofs.YthekkgfmagliiaaGreatDoor
namespace Go.Proofs.YthekkgfmagliiaaGreatDoor
open Go.RowKit
section
variable {M : av} {w : World}
end
theorem xP{f:FuncId}{fn:Func}{args:List V}{u:Value}{σ:List (List V)}(hf:Tryz.prog.funcs[f]? = some fn)(hn:(fn.name == "runtime.NumGoroutine")=false)(hb:fn.body.isNone=false)(hu:ct u)
 (h:∀(M:av) (bm:List Nat) (w:World) (vs:List Value),G.cells M→M.hold w→vs.length=args.length→(∀i (h:i<args.length) (h':i<vs.length),Rep M bm args[i] vs[i])→Calls Tryz.prog f vs.toArray w fun e w'=>e=.returned u∧Ext w w'):
 Fun G f args σ (aG (.d (.lit u)) σ):=by
 refine⟨bw (P:=Tryz.prog) hf hn hb,fun M bm tk pr w vs hG hI ht hl hr=>(h M bm w vs hG.1 hI.facts hl hr).mono fun e w' ⟨he,hx⟩=>?_⟩;obtain⟨h1,h2⟩:=hI.ext hx;refine⟨M,bm,tk,σ,.ret (.d (.lit u)),⟨rfl,rfl⟩,h1,h2,fun v e=>?_,fun v e=>by cases e⟩;cases e;exact⟨u,he,.d (.lit u hu),fun _ _ _ e=>by cases e⟩
theorem uB{f:FuncId}{fn:Func}{a:V}{u:Value}{σ:List (List V)}(hf:Tryz.prog.funcs[f]? = some fn)(hn:(fn.name == "runtime.NumGoroutine")=false)(hb:fn.body.isNone=false)(hu:ct u)
 (h:∀(M:av) (bm:List Nat) (w:World) (v:Value),G.cells M→M.hold w→Rep M bm a v→Calls Tryz.prog f #[v] w fun e w'=>e=.returned u∧Ext w w'):Fun G f [a] σ (aG (.d (.lit u)) σ):=
 xP hf hn hb hu fun M bm w vs hG hM hl hr=>match vs,hl with
  | [v],_=>h M bm w v hG hM (hr 0 (by simp) (by simp))
theorem BM{f:FuncId}{fn:Func}{a b:V}{u:Value}{σ:List (List V)}(hf:Tryz.prog.funcs[f]? = some fn)(hn:(fn.name == "runtime.NumGoroutine")=false)(hb:fn.body.isNone=false)(hu:ct u)
 (h:∀(M:av) (bm:List Nat) (w:World) (v v':Value),G.cells M→M.hold w→Rep M bm a v→Rep M bm b v'→Calls Tryz.prog f #[v,v'] w fun e w'=>e=.returned u∧Ext w w'):Fun G f [a,b] σ (aG (.d (.lit u)) σ):=
 xP hf hn hb hu fun M bm w vs hG hM hl hr=>match vs,hl with
  | [v,v'],_=>h M bm w v v' hG hM (hr 0 (by simp) (by simp)) (hr 1 (by simp) (by simp))
end Go.Proofs.YthekkgfmagliiaaGreatDoor
