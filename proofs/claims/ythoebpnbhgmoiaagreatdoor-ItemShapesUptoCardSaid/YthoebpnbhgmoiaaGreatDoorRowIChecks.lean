import Derived.Test.YthoebpnbhgmoiaaGreatDoorReadB
import Derived.Test.YthoebpnbhgmoiaaGreatDoorItv
import Derived.Test.YthoebpnbhgmoiaaGreatDoorRows
import Derived.ChangeSame
import Derived.ChangeVars
import Derived.JoinedOf
import Derived.RowKit
import Derived.RowKitTokens
import Derived.LaidLaws
import Derived.ChangeOld
import Derived.Below
import Derived.OpenShut
import Derived.WalkKit
import Derived.ProofKit
import Derived.Deep.DeepHandedRow
import Derived.Deep.DeepWitnessRowRef
set_option linter.unusedVariables false
set_option linter.unusedSimpArgs false
set_option linter.unusedSectionVars false
open List renaming map_cons→JH,sum_cons→JI,map_nil→JJ
namespace Go.Proofs.YthoebpnbhgmoiaaGreatDoor
open Go.ChangeShapes Go.WideShapes Go.ChangeAt Go.RowKit
theorem Tryz.own:ownKnob Tryz.prog.godebug=none:=by kernel_rfl
theorem Tryz.laidOut:laidOutB Tryz.prog=true:=by kernel_rfl
def rl:List (String×DataW Unit):=[("testbench/lexer.keywords",Rows.laid_testbench_lexer_keywords)]
noncomputable def dH(os:Os):World:=
 let w0:=World.holding Tryz.prog os ⟨#[],#[],[]⟩;let w1:=w0.alloc (.cells (cD.map Value.string).toArray 9)
 {w1 with heap:=w1.heap.modify 0 fun
   | .cells _ t frozen=>.cells #[.slice (some ⟨w0.heap.size,0,none⟩) 24 24] t frozen
   | o=>o}
theorem eY(os:Os)(args:Array Value):laidMet Tryz.prog rl ((dH os).forCall (fun _ _=>0) ⟨#[],args,[]⟩).memory:=
 laidMet_of_run' 8 (by kernel_rfl) (by kernel_rfl)
theorem Ext.below{w w':World}(h:Ext w w'):Below w.heap.size w w':=⟨h.os,h.tape,h.output,h.size,h.block⟩
theorem dE{H:Type}{enc:TypeId×Value→H}{w:World}{t:TypeId}{v:Value}{d:DataW H}{p:List MemPlace}{base:Nat}{spare:Nat→Bool}{held:Bool}(h:DataW.Trod enc Tryz.prog w base spare held t v d p):∀x∈p,x.block<w.heap.size:=by
 obtain⟨m,hm⟩:=h;exact DataW.trod_lt m _ _ _ hm
instance:Inhabited Ex:=⟨.mk 0 0 ⟨#[]⟩ []⟩
instance:Inhabited Wt:=⟨⟨0,0,0,false⟩⟩
instance:Inhabited It:=⟨.mk 0 (.mk 0 0 ⟨#[]⟩ []) ⟨#[]⟩ ⟨#[]⟩ [] [] [] [] []⟩
instance:Inhabited Fd:=⟨⟨⟨#[]⟩,0,0,0,0⟩⟩
theorem eE{H:Type}(d:DataW H):1≤Rows.uptoBulk d:=by
 cases d with
 | lit l=>cases l<;>simp[Rows.uptoBulk]
 | nil=>simp[Rows.uptoBulk]
 | ptr d=>simp[Rows.uptoBulk]
 | slice elems spare=>simp[Rows.uptoBulk]
 | agg parts=>simp[Rows.uptoBulk]
 | iface t d=>simp[Rows.uptoBulk]
 | map entries=>simp[Rows.uptoBulk]
 | held h=>simp[Rows.uptoBulk]
theorem qV{H:Type}{α:Type}(g:α→Nat):∀(l:List α) (es:List (DataW H)),es.length=l.length→(∀i (h:i<l.length) (h':i<es.length),g l[i]≤Rows.uptoBulk es[i])→(l.map g).sum≤Rows.uptoBulkAll es
 | [],es,_,_=>by simp
 | a::r,e::es,hl,h=>by
  have h1:=h 0 (by simp) (by simp);have h2:=qV g r es (by simpa using hl) (fun i g1 g2=>h (i+1) (by simpa using g1) (by simpa using g2));simp only[List.getElem_cons_zero]at h1;simp only[JH,JI,Rows.uptoBulkAll];omega
theorem du{H:Type}{α:Type}(g:α→Nat){l:List α}{d:DataW H}(h:(d=.nil∧l=[])∨∃elems rest:List (DataW H),d=.slice elems rest∧elems.length=l.length∧∀i (h:i<l.length) (h':i<elems.length),g l[i]≤Rows.uptoBulk elems[i]):(l.map g).sum+1≤Rows.uptoBulk d:=by
 rcases h with⟨rfl,rfl⟩|⟨es,rest,rfl,h1,h2⟩
 ·simp[Rows.uptoBulk]
 ·have:=qV g l es h1 h2;simp only[Rows.uptoBulk];omega
theorem sG(l:List Ex):5*aG l=(l.map fun e=>5*aA e).sum:=by
 induction l with
 | nil=>rfl
 | cons a r ih=>simp only[aG,JH,JI,←ih];omega
theorem o5(l:List It):bu l=(l.map eO).sum:=by
 induction l with
 | nil=>rfl
 | cons a r ih=>simp only[bu,ih,JH,JI]
theorem ky{α:Type}(l:List α):l.length=(l.map fun _=>1).sum:=by
 induction l with
 | nil=>rfl
 | cons a r ih=>simp only[List.length_cons,JH,JI,←ih];omega
section
variable {H : Type} {enc : TypeId × Value → H} {w : World} {v : Value} {d : DataW H} {p : List MemPlace} {base : Nat} {spare : Nat → Bool} {held : Bool}
set_option maxRecDepth 100000 in
theorem qT:∀(n:Nat) {cs:List Value} {y:DataW H×List MemPlace},DataW.trod enc Tryz.prog w base spare held n 38 cs=some y→∃e:Ex,dM (mem w) (dex e) cs∧5*aA e≤Rows.uptoBulk y.1:=by
 intro n
 induction n using Nat.strongRecOn with
 | _ n ih=>
 intro cs y h;obtain⟨xs,m,rfl,rfl,hlen,hxs,hf⟩:=DataW.trod_struct Tryz.underlying38 h;rw[show Tryz.prog.cellsOf 38=4 by kernel_rfl]at hlen
 match cs,hlen with
 | [a,b,c,e],_=>
  have hx2:xs.length=4:=hxs
  match xs,hx2 with
  | [x0,x1,x2,x3],_=>
  have f0:DataW.trod enc Tryz.prog w base spare held m 3 [a]=some x0:=hf 0 _ rfl;have f1:DataW.trod enc Tryz.prog w base spare held m 3 [b]=some x1:=hf 1 _ rfl;have f2:DataW.trod enc Tryz.prog w base spare held m 9 [c]=some x2:=hf 2 _ rfl;have f3:DataW.trod enc Tryz.prog w base spare held m 36 [e]=some x3:=hf 3 _ rfl;obtain⟨o,g0,k0⟩:=cT Tryz.underlying3 f0;obtain⟨q,g1,k1⟩:=cT Tryz.underlying3 f1;obtain⟨s,g2,k2⟩:=d5 Tryz.underlying9 f2;obtain⟨l,v',g3,k3,hb⟩:=cM (k:=4) Tryz.underlying36 (by kernel_rfl) (by decide) dex (fun a=>by rw[aT];rfl) (fun e d=>5*aA e≤Rows.uptoBulk d) f3 (fun n' hn cs' y hy=>ih n' (by omega) hy);cases g0;cases g1;cases g2;cases g3;refine⟨.mk o q s l,by rw[aT];exact .cons (.lit _ k0) (.cons (.lit _ k1) (.cons (.lit _ k2) (.cons k3 .nil))),?_⟩;have hb':=du (fun e=>5*aA e) hb;rw[←sG]at hb'
  have b0:=eE x0.1;have b1:=eE x1.1;have b2:=eE x2.1;simp only[aA,JH,JJ,Rows.uptoBulk,Rows.uptoBulkAll];omega
set_option maxRecDepth 100000 in
theorem zJ(n:Nat){cs:List Value}{y:DataW H×List MemPlace}(h:DataW.trod enc Tryz.prog w base spare held n 117 cs=some y):∃e:Wt,dM (mem w) (dwt e) cs:=by
 obtain⟨xs,m,rfl,rfl,hlen,hxs,hf⟩:=DataW.trod_struct Tryz.underlying117 h;rw[show Tryz.prog.cellsOf 117=4 by kernel_rfl]at hlen
 match cs,hlen with
 | [a,b,c,e],_=>
  have hx2:xs.length=4:=hxs
  match xs,hx2 with
  | [x0,x1,x2,x3],_=>
  have f0:DataW.trod enc Tryz.prog w base spare held m 3 [a]=some x0:=hf 0 _ rfl;have f1:DataW.trod enc Tryz.prog w base spare held m 3 [b]=some x1:=hf 1 _ rfl;have f2:DataW.trod enc Tryz.prog w base spare held m 3 [c]=some x2:=hf 2 _ rfl;have f3:DataW.trod enc Tryz.prog w base spare held m 4 [e]=some x3:=hf 3 _ rfl;obtain⟨o,g0,k0⟩:=cT Tryz.underlying3 f0;obtain⟨q,g1,k1⟩:=cT Tryz.underlying3 f1;obtain⟨r,g2,k2⟩:=cT Tryz.underlying3 f2;obtain⟨b,g3⟩:=ti Tryz.underlying4 f3;cases g0;cases g1;cases g2;cases g3;exact⟨⟨o,q,r,b⟩,.cons (.lit _ k0) (.cons (.lit _ k1) (.cons (.lit _ k2) (.cons (.lit _ trivial) .nil)))⟩
theorem ni(n:Nat){cs:List Value}{y:DataW H×List MemPlace}(h:DataW.trod enc Tryz.prog w base spare held n 43 cs=some y):∃(l:List ByteArray) (v:Value),cs=[v]∧DRep (mem w) (aQ l) v∧l.length+1≤Rows.uptoBulk y.1:=by
 obtain⟨l,v',g3,k3,hb⟩:=cM (k:=1) Tryz.underlying43 (by kernel_rfl) (by decide) (fun s:ByteArray=>[al s]) (fun a=>rfl) (fun _ d=>1≤Rows.uptoBulk d) h (fun n' hn cs' y hy=>by
  obtain⟨s,rfl,k⟩:=d5 Tryz.underlying9 hy;exact⟨s,.cons (.lit _ k) .nil,eE _⟩)
 have hb':=du (fun _:ByteArray=>1) hb;rw[←ky]at hb';exact⟨l,v',g3,k3,hb'⟩
set_option maxRecDepth 100000 in
theorem yQ:∀(n:Nat) {cs:List Value} {y:DataW H×List MemPlace},DataW.trod enc Tryz.prog w base spare held n 51 cs=some y→∃s:It,dM (mem w) (dit s) cs∧eO s≤Rows.uptoBulk y.1:=by
 intro n
 induction n using Nat.strongRecOn with
 | _ n ih=>
 intro cs y h;obtain⟨xs,m,rfl,rfl,hlen,hxs,hf⟩:=DataW.trod_struct Tryz.underlying51 h;rw[show Tryz.prog.cellsOf 51=12 by kernel_rfl]at hlen
 match cs,hlen with
 | [a,e0,e1,e2,e3,nm,ix,ws,it,el,bf,af],_=>
  have hx2:xs.length=9:=hxs
  match xs,hx2 with
  | [x0,x1,x2,x3,x4,x5,x6,x7,x8],_=>
  have f0:DataW.trod enc Tryz.prog w base spare held m 3 [a]=some x0:=hf 0 _ rfl
  have f1:DataW.trod enc Tryz.prog w base spare held m 38 [e0,e1,e2,e3]=some x1:=by
   have:=hf 1 _ rfl;change DataW.trod enc Tryz.prog w base spare held m 38 (([a,e0,e1,e2,e3,nm,ix,ws,it,el,bf,af].drop 1).take (Tryz.prog.cellsOf 38))=some x1 at this;rw[show Tryz.prog.cellsOf 38=4 by kernel_rfl]at this;exact this
  have f2:DataW.trod enc Tryz.prog w base spare held m 9 [nm]=some x2:=hf 2 _ rfl;have f3:DataW.trod enc Tryz.prog w base spare held m 9 [ix]=some x3:=hf 3 _ rfl;have f4:DataW.trod enc Tryz.prog w base spare held m 49 [ws]=some x4:=hf 4 _ rfl;have f5:DataW.trod enc Tryz.prog w base spare held m 22 [it]=some x5:=hf 5 _ rfl;have f6:DataW.trod enc Tryz.prog w base spare held m 22 [el]=some x6:=hf 6 _ rfl;have f7:DataW.trod enc Tryz.prog w base spare held m 43 [bf]=some x7:=hf 7 _ rfl;have f8:DataW.trod enc Tryz.prog w base spare held m 43 [af]=some x8:=hf 8 _ rfl;obtain⟨o,g0,k0⟩:=cT Tryz.underlying3 f0;obtain⟨e,k1,h1⟩:=qT m f1;obtain⟨s2,g2,k2⟩:=d5 Tryz.underlying9 f2;obtain⟨s3,g3,k3⟩:=d5 Tryz.underlying9 f3
  obtain⟨l4,v4,g4,k4,hb4⟩:=cM (k:=4) Tryz.underlying49 (by kernel_rfl) (by decide) dwt (fun a=>rfl) (fun _ d=>1≤Rows.uptoBulk d) f4 (fun n' hn cs' y hy=>by
   obtain⟨q,hq⟩:=zJ n' hy;exact⟨q,hq,eE _⟩)
  obtain⟨l5,v5,g5,k5,hb5⟩:=cM (k:=12) Tryz.underlying22 (by kernel_rfl) (by decide) dit iX (fun e d=>eO e≤Rows.uptoBulk d) f5 (fun n' hn cs' y hy=>ih n' (by omega) hy);obtain⟨l6,v6,g6,k6,hb6⟩:=cM (k:=12) Tryz.underlying22 (by kernel_rfl) (by decide) dit iX (fun e d=>eO e≤Rows.uptoBulk d) f6 (fun n' hn cs' y hy=>ih n' (by omega) hy);obtain⟨l7,v7,g7,k7,h7⟩:=ni m f7;obtain⟨l8,v8,g8,k8,h8⟩:=ni m f8;cases g0;cases g2;cases g3;cases g4;cases g5;cases g6;cases g7;cases g8;refine⟨.mk o e s2 s3 l4 l5 l6 l7 l8,?_,?_⟩
  ·rw[cr];rw[aT]at k1;exact .cons (.lit _ k0) (k1.append (.cons (.lit _ k2) (.cons (.lit _ k3) (.cons k4 (.cons k5 (.cons k6 (.cons k7 (.cons k8 .nil))))))))
  ·have b4:=du (fun _:Wt=>1) hb4;rw[←ky]at b4;have b5:=du eO hb5;have b6:=du eO hb6;rw[←o5]at b5 b6;have b0:=eE x0.1;have b2:=eE x2.1;rw[bI];simp only[CL,Cv,x9,zn,rz,zx,JH,JJ,Rows.uptoBulk,Rows.uptoBulkAll];omega
theorem pw(n:Nat){cs:List Value}{y:DataW H×List MemPlace}(h:DataW.trod enc Tryz.prog w base spare held n 22 cs=some y):∃(l:List It) (v:Value),cs=[v]∧DRep (mem w) (de l) v∧bu l+1≤Rows.uptoBulk y.1:=by
 obtain⟨l,v',g3,k3,hb⟩:=cM (k:=12) Tryz.underlying22 (by kernel_rfl) (by decide) dit iX (fun e d=>eO e≤Rows.uptoBulk d) h (fun n' hn cs' y hy=>yQ n' hy);have hb':=du eO hb;rw[←o5]at hb';exact⟨l,v',g3,k3,hb'⟩
set_option maxRecDepth 100000 in
theorem xR(n:Nat){cs:List Value}{y:DataW H×List MemPlace}(h:DataW.trod enc Tryz.prog w base spare held n 64 cs=some y):∃e:Fd,dM (mem w) (dfd e) cs:=by
 obtain⟨xs,m,rfl,rfl,hlen,hxs,hf⟩:=DataW.trod_struct Tryz.underlying64 h;rw[show Tryz.prog.cellsOf 64=5 by kernel_rfl]at hlen
 match cs,hlen with
 | [a,b,c,e,f],_=>
  have hx2:xs.length=5:=hxs
  match xs,hx2 with
  | [x0,x1,x2,x3,x4],_=>
  have f0:DataW.trod enc Tryz.prog w base spare held m 9 [a]=some x0:=hf 0 _ rfl;have f1:DataW.trod enc Tryz.prog w base spare held m 3 [b]=some x1:=hf 1 _ rfl;have f2:DataW.trod enc Tryz.prog w base spare held m 3 [c]=some x2:=hf 2 _ rfl;have f3:DataW.trod enc Tryz.prog w base spare held m 3 [e]=some x3:=hf 3 _ rfl;have f4:DataW.trod enc Tryz.prog w base spare held m 3 [f]=some x4:=hf 4 _ rfl;obtain⟨s,g0,k0⟩:=d5 Tryz.underlying9 f0;obtain⟨o,g1,k1⟩:=cT Tryz.underlying3 f1;obtain⟨q,g2,k2⟩:=cT Tryz.underlying3 f2;obtain⟨r,g3,k3⟩:=cT Tryz.underlying3 f3;obtain⟨t,g4,k4⟩:=cT Tryz.underlying3 f4;cases g0;cases g1;cases g2;cases g3;cases g4;exact⟨⟨s,o,q,r,t⟩,.cons (.lit _ k0) (.cons (.lit _ k1) (.cons (.lit _ k2) (.cons (.lit _ k3) (.cons (.lit _ k4) .nil))))⟩
set_option maxRecDepth 100000 in
theorem xM(n:Nat){cs:List Value}{y:DataW H×List MemPlace}(h:DataW.trod enc Tryz.prog w base spare held n 187 cs=some y):∃e:ByteArray×List It,dM (mem w) [al e.1,de e.2] cs:=by
 obtain⟨xs,m,rfl,rfl,hlen,hxs,hf⟩:=DataW.trod_struct Tryz.underlying187 h;rw[show Tryz.prog.cellsOf 187=2 by kernel_rfl]at hlen
 match cs,hlen with
 | [a,b],_=>
  have hx2:xs.length=2:=hxs
  match xs,hx2 with
  | [x0,x1],_=>
  have f0:DataW.trod enc Tryz.prog w base spare held m 9 [a]=some x0:=hf 0 _ rfl;have f1:DataW.trod enc Tryz.prog w base spare held m 22 [b]=some x1:=hf 1 _ rfl;obtain⟨s,g0,k0⟩:=d5 Tryz.underlying9 f0;obtain⟨l,v',g1,k1,-⟩:=pw m f1;cases g0;cases g1;exact⟨(s,l),.cons (.lit _ k0) (.cons k1 .nil)⟩
set_option maxRecDepth 100000 in
theorem zX(n:Nat){cs:List Value}{y:DataW H×List MemPlace}(h:DataW.trod enc Tryz.prog w base spare held n 26 cs=some y):∃c:Cl,dM (mem w) [al c.name,al c.par,.sl (c.fields.map dfd),c.blocks] cs∧c.fields.length≤Rows.uptoBulk y.1:=by
 obtain⟨xs,m,rfl,rfl,hlen,hxs,hf⟩:=DataW.trod_struct Tryz.underlying26 h;rw[show Tryz.prog.cellsOf 26=4 by kernel_rfl]at hlen
 match cs,hlen with
 | [a,b,c,e],_=>
  have hx2:xs.length=4:=hxs
  match xs,hx2 with
  | [x0,x1,x2,x3],_=>
  have f0:DataW.trod enc Tryz.prog w base spare held m 9 [a]=some x0:=hf 0 _ rfl;have f1:DataW.trod enc Tryz.prog w base spare held m 9 [b]=some x1:=hf 1 _ rfl;have f2:DataW.trod enc Tryz.prog w base spare held m 23 [c]=some x2:=hf 2 _ rfl;have f3:DataW.trod enc Tryz.prog w base spare held m 24 [e]=some x3:=hf 3 _ rfl;obtain⟨s0,g0,k0⟩:=d5 Tryz.underlying9 f0;obtain⟨s1,g1,k1⟩:=d5 Tryz.underlying9 f1
  obtain⟨l2,v2,g2,k2,hb2⟩:=cM (k:=5) Tryz.underlying23 (by kernel_rfl) (by decide) dfd (fun a=>rfl) (fun _ d=>1≤Rows.uptoBulk d) f2 (fun n' hn cs' y hy=>by
   obtain⟨q,hq⟩:=xR n' hy;exact⟨q,hq,eE _⟩)
  obtain⟨l3,v3,g3,k3⟩:=qI (k:=2) Tryz.underlying24 (by kernel_rfl) (by decide) (fun e:ByteArray×List It=>[al e.1,de e.2]) (fun a=>rfl) f3 (fun n' hn cs' y hy=>xM n' hy);cases g0;cases g1;cases g2;cases g3;refine⟨⟨s0,s1,l2,.sl (l3.map fun e=>[al e.1,de e.2])⟩,.cons (.lit _ k0) (.cons (.lit _ k1) (.cons k2 (.cons k3 .nil))),?_⟩;have b2:=du (fun _:Fd=>1) hb2;rw[←ky]at b2;simp only[JH,JJ,Rows.uptoBulk,Rows.uptoBulkAll];omega
set_option maxRecDepth 100000 in
theorem t7(h:DataW.Trod enc Tryz.prog w base spare held 38 v d p)(hv:Value.okWide Tryz.prog w .any base 38 v):∃e:Ex,Rep (mem w) [] (vex e) v∧5*aA e≤Rows.uptoBulk d:=by
 obtain⟨fuel,hf⟩:=h;obtain⟨s,h1,h2⟩:=qT fuel hf;obtain⟨cs,rfl,-⟩:=okWide_struct Tryz.underlying38 hv;have h3:=h1.rep (bm:=[]);exact⟨s,by simpa[vex,Value.cells]using h3,h2⟩
set_option maxRecDepth 100000 in
theorem qd(h:DataW.Trod enc Tryz.prog w base spare held 26 v d p)(hv:Value.okWide Tryz.prog w .any base 26 v):∃c:Cl,Rep (mem w) [] (vcl c) v∧c.fields.length≤Rows.uptoBulk d:=by
 obtain⟨fuel,hf⟩:=h;obtain⟨s,h1,h2⟩:=zX fuel hf;obtain⟨cs,rfl,-⟩:=okWide_struct Tryz.underlying26 hv;have h3:=h1.rep (bm:=[]);exact⟨s,by simpa[Value.cells]using h3,h2⟩
set_option maxRecDepth 100000 in
theorem rM(h:DataW.Trod enc Tryz.prog w base spare held 22 v d p)(hv:Value.okWide Tryz.prog w .any base 22 v):∃l:List It,DRep (mem w) (de l) v∧bu l+1≤Rows.uptoBulk d:=by
 obtain⟨a,len,cap,rfl⟩:=okWide_slice Tryz.underlying22 hv;obtain⟨fuel,hf⟩:=h;obtain⟨l,v',h1,h2,h3⟩:=pw (cs:=[.slice a len cap]) fuel hf;cases h1;exact⟨l,h2,h3⟩
set_option maxRecDepth 100000 in
theorem xf(h:DataW.Trod enc Tryz.prog w base spare held 46 v d p)(hv:Value.okWide Tryz.prog w .any base 46 v):∃l:List Int,DRep (mem w) (.sl (l.map fun n=>[ah n])) v∧(∀n,n∈l→cR (.int .i64 n))∧l.length+1≤Rows.uptoBulk d:=by
 obtain⟨a,len,cap,rfl⟩:=okWide_slice Tryz.underlying46 hv;obtain⟨fuel,hf⟩:=h
 obtain⟨l,v',h1,h2,h3⟩:=cM (cs:=[.slice a len cap]) (k:=1) Tryz.underlying46 (by kernel_rfl) (by decide) (fun n:Int=>[ah n]) (fun _=>rfl) (fun n d=>1≤Rows.uptoBulk d∧cR (.int .i64 n)) hf (fun n _ cs' y hy=>by
  obtain⟨b,rfl,k⟩:=cT Tryz.underlying3 hy;exact⟨b,.cons (.lit _ k) .nil,eE _,k⟩)
 cases h1;refine⟨l,h2,?_,?_⟩
 ·rcases h3 with⟨-,rfl⟩|⟨es,rest,-,g1,g2⟩
  ·intro n hn;cases hn
  ·intro n hn;obtain⟨i,hi,rfl⟩:=List.getElem_of_mem hn;exact(g2 i hi (by omega)).2
 ·have:=du (fun _:Int=>1) (d:=d) (l:=l) (by
   rcases h3 with h3|⟨es,rest,g0,g1,g2⟩
   ·exact .inl h3
   ·exact .inr ⟨es,rest,g0,g1,fun i h h'=>(g2 i h h').1⟩)
  rw[←ky]at this;exact this
end
end Go.Proofs.YthoebpnbhgmoiaaGreatDoor
namespace Go.Proofs.YthoebpnbhgmoiaaGreatDoor
open Go.ChangeShapes Go.WideShapes Go.ChangeAt Go.RowKit
set_option maxRecDepth 100000 in
theorem je(H:Type)(enc:TypeId×Value→H)(W:World)(base:Nat)(args:Array Value)(ds gs:List (DataW H))(before:List MemPlace)
 (hval:∀(j:Nat) t v,Tryz.f3.params[j]? = some t→args[j]? = some v→Value.okWide Tryz.prog W .any base t v)
 (hW:DataW.Whole enc Tryz.prog Tryz.f3.params.toList Rows.itemChecksSpec.vars false W args.toList ds gs before)(hL:laidMetH Tryz.prog rl W)(hk:Rows.uptoSmall H (ds++gs)=true):
 Calls Tryz.prog 3 args W fun e W'=>∃v,e=.returned v∧Rows.itemChecksSpec.post enc Tryz.prog Tryz.f3 false true false false W args v W':=by
 have hW':=hW;obtain⟨p,q,hA0,hV0,rfl,hfz,hnd⟩:=hW;have hA:DataW.TrodAll enc Tryz.prog W 0 (fun _=>true) true Tryz.f3.params.toList args.toList ds p:=hA0;have hV:DataW.TrodVars enc Tryz.prog W (fun _=>true) [] gs q:=hV0;rw[Tryz.params3]at hA hval;obtain⟨v0,v1,d0,d1,p0,p1,rfl,rfl,rfl,h0,h1⟩:=trodAll_two hA;obtain⟨rfl,rfl⟩:=trodVars_none hV;have lt0:=dE h0;obtain⟨l,hv0,hb0⟩:=rM h0 (hval 0 22 v0 rfl rfl);have lt1:=dE h1;obtain⟨c,hv1,hb1⟩:=qd h1 (hval 1 26 v1 rfl rfl)
 have hbd:Rows.uptoBulk d0+(Rows.uptoBulk d1+0)≤1048576:=by
  have:=of_decide_eq_true hk;simpa only[List.cons_append,List.nil_append,Rows.uptoBulkAll]using this
 have e1:Rows.itemChecksSpec.fn H ([d0,d1]++[])={results:=[.lit (.bool true)],args:=[d0,d1]}:=by simp[Rows.itemChecksSpec]
 refine(fA (vs:=[v0,v1]) (fw hL) (mC l c (by omega) (by omega) []) rfl (fun i h h'=>?_)).mono fun en W' ⟨he,hx⟩=>?_
 ·match i,h with
  | 0,_=>exact .d hv0
  | 1,_=>exact hv1
 subst he;have bel:=hx.below;refine⟨_,rfl,_,_,_,[],p0++p1,[],hW',?_,?_,?_,bel.frame _,fun h=>by cases h⟩
 ·rw[e1];exact trodAll_mk1 (shut_bool Tryz.underlying4 true)
 ·rw[e1];exact trodAll_mk2 (Below.trod Tryz.laidOut (by kernel_rfl) (of_decide_eq_true (by kernel_rfl)) h0 bel lt0) (Below.trod Tryz.laidOut (by kernel_rfl) (of_decide_eq_true (by kernel_rfl)) h1 bel lt1)
 ·rw[e1];rfl
set_option maxRecDepth 100000 in
theorem jU(os:Os)(started:os.Started)(H:Type)(enc:TypeId×Value→H)(F:Stop.Interp):
 ReturnsInHanded {} Tryz.checked os 3 .any ((Rows.OpenSpec.upto Rows.itemChecksSpec).preRow enc Tryz.prog Tryz.f3 Rows.itemChecksUptoRow.domain false Rows.itemChecksUptoRow.laid) (((Rows.OpenSpec.upto Rows.itemChecksSpec).at F).post enc Tryz.prog Tryz.f3 false true false false):=by
 have hx:DataW.whole enc Tryz.prog ((dH os).forCall (fun _ _=>0) ⟨#[],#[.slice none 0 0,.agg #[.string ⟨#[]⟩,.string ⟨#[]⟩,.slice none 0 0,.slice none 0 0]],[]⟩).memory Tryz.f3.params.toList Rows.itemChecksSpec.vars false #[Value.slice none 0 0,Value.agg #[.string ⟨#[]⟩,.string ⟨#[]⟩,.slice none 0 0,.slice none 0 0]].toList 8=some ([.nil,.agg [.lit (.string []),.lit (.string []),.nil,.nil]],[],[]):=by kernel_rfl
 refine returnsInHanded_of_row (C:=Tryz.checked) (s:=Rows.OpenSpec.upto Rows.itemChecksSpec) Tryz.own started (by kernel_rfl) Tryz.func3
  (witness_row_atRef (enc:=enc) (C:=Tryz.checked) false (dH os) #[.slice none 0 0,.agg #[.string ⟨#[]⟩,.string ⟨#[]⟩,.slice none 0 0,.slice none 0 0]] rfl (by kernel_rfl) (by kernel_rfl) (by kernel_rfl)
    (OpenSpec.preRow_of_cond 8 hx (by kernel_rfl) (fun k hk=>by cases hk;kernel_rfl) (by kernel_rfl) (eY os _))) ?_
 intro W base args ds gs before hval hW _ hcond _ hL _ _;exact je H enc W base args ds gs before hval hW hL (hcond _ rfl)
theorem ij:Rows.ItemChecksUptoSaid:=
 OpenClaim.holds_of_cond 3 Tryz.f3 rfl rfl rfl rfl rfl rfl rfl ⟨rfl,rfl,rfl,rfl,rfl⟩ rfl rfl rfl rfl rfl (by kernel_rfl) Tryz.func3 (by kernel_rfl)
  (of_decide_eq_true (by kernel_rfl)) (by unfold Func.isWrapper;first|(rw[if_pos (by decide +kernel)];kernel_rfl)|(rw[if_neg (by decide +kernel)];exact⟨rfl,rfl⟩))
  (fun os started H enc _ F=>by rw[OpenClaim.pre_eq_preRow];exact jU os started H enc F)
#print axioms ij
end Go.Proofs.YthoebpnbhgmoiaaGreatDoor
