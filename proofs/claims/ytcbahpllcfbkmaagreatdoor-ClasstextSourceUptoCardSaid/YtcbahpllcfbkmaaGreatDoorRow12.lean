import Derived.Test.YtcbahpllcfbkmaaGreatDoorReadB
import Derived.Test.YtcbahpllcfbkmaaGreatDoorCy2
import Derived.ChangeSame
import Derived.ChangeVars
import Derived.JoinedOf
import Derived.RowKit
import Derived.RowKitTokens
import Derived.LaidLaws
import Derived.ChangeOld
import Derived.Below
import Derived.OpenShut
import Derived.WalkKit
import Derived.ProofKit
import Derived.Deep.DeepHandedRow
import Derived.Deep.DeepWitnessRowRef
set_option linter.unusedVariables false
set_option linter.unusedSimpArgs false
set_option linter.unusedSectionVars false
namespace Go.Proofs.YtcbahpllcfbkmaaGreatDoor
open Go.ChangeShapes Go.WideShapes Go.ChangeAt Go.RowKit
theorem Tryz.own:ownKnob Tryz.prog.godebug=none:=by kernel_rfl
theorem Tryz.laidOut:laidOutB Tryz.prog=true:=by kernel_rfl
def iY(w:World)(g:Nat)(cs:Array Value):World:=
 {w with heap:=w.heap.modify g fun
   | .cells _ t frozen=>.cells cs t frozen
   | o=>o}
noncomputable def fB(os:Os):World:=
 let w0:=World.holding Tryz.prog os ⟨#[],#[],[]⟩;let n:=w0.heap.size;let w1:=w0.alloc (.cells (cE.map Value.string).toArray 9);let w2:=iY w1 1 #[.slice (some ⟨n,0,none⟩) 24 24];let w6:=iY w2 2 (Lib.pow10Tab.map fun z=>Value.int .u64 z).toArray;let w7:=iY w6 3 (([0,1,28,2,29,14,24,3,30,22,20,15,25,17,4,8,31,27,13,23,21,19,16,7,26,12,18,6,11,5,10,9]:List Int).map fun z=>Value.int .u8 z).toArray
 iY w7 4 (([0,1,56,2,57,49,28,3,61,58,42,50,38,29,17,4,62,47,59,36,45,43,51,22,53,39,33,30,24,18,12,5,63,55,48,27,60,41,37,16,46,35,44,21,52,32,23,11,54,26,40,15,34,20,31,10,25,14,19,9,13,8,7,6]:List Int).map fun z=>Value.int .u8 z).toArray
theorem ip(os:Os)(args:Array Value):laidMet Tryz.prog jO ((fB os).forCall (fun _ _=>0) ⟨#[],args,[]⟩).memory:=
 laidMet_of_run' 8 (by kernel_rfl) (by kernel_rfl)
theorem Ext.below{w w':World}(h:Ext w w'):Below w.heap.size w w':=⟨h.os,h.tape,h.output,h.size,h.block⟩
theorem lv{H:Type}{enc:TypeId×Value→H}{w:World}{t:TypeId}{v:Value}{d:DataW H}{p:List MemPlace}{base:Nat}{spare:Nat→Bool}{held:Bool}(h:DataW.Trod enc Tryz.prog w base spare held t v d p):∀x∈p,x.block<w.heap.size:=by
 obtain⟨m,hm⟩:=h;exact DataW.trod_lt m _ _ _ hm
instance:Inhabited Ex:=⟨.mk 0 0 ⟨#[]⟩ []⟩
instance:Inhabited Wt:=⟨⟨0,0,0,false⟩⟩
instance:Inhabited It:=⟨.mk 0 (.mk 0 0 ⟨#[]⟩ []) ⟨#[]⟩ ⟨#[]⟩ [] [] [] [] []⟩
instance:Inhabited Fl:=⟨⟨⟨#[]⟩,0,0,0,0⟩⟩
instance:Inhabited Kl:=⟨⟨⟨#[]⟩,⟨#[]⟩,[],[]⟩⟩
theorem dS{H:Type}(d:DataW H):1≤Rows.uptoBulk d:=by
 cases d with
 | lit l=>cases l<;>simp[Rows.uptoBulk]
 | nil=>simp[Rows.uptoBulk]
 | ptr d=>simp[Rows.uptoBulk]
 | slice elems spare=>simp[Rows.uptoBulk]
 | agg parts=>simp[Rows.uptoBulk]
 | iface t d=>simp[Rows.uptoBulk]
 | map entries=>simp[Rows.uptoBulk]
 | held h=>simp[Rows.uptoBulk]
theorem o7{H:Type}{α:Type}(g:α→Nat):∀(l:List α) (es:List (DataW H)),es.length=l.length→(∀i (h:i<l.length) (h':i<es.length),g l[i]≤Rows.uptoBulk es[i])→(l.map g).sum≤Rows.uptoBulkAll es
 | [],es,_,_=>by simp
 | a::r,e::es,hl,h=>by
  have h1:=h 0 (by simp) (by simp);have h2:=o7 g r es (by simpa using hl) (fun i g1 g2=>h (i+1) (by simpa using g1) (by simpa using g2));simp only[List.getElem_cons_zero]at h1;simp only[List.map_cons,List.sum_cons,Rows.uptoBulkAll];omega
theorem cG{H:Type}{α:Type}(g:α→Nat){l:List α}{d:DataW H}(h:(d=.nil∧l=[])∨∃elems rest:List (DataW H),d=.slice elems rest∧elems.length=l.length∧∀i (h:i<l.length) (h':i<elems.length),g l[i]≤Rows.uptoBulk elems[i]):(l.map g).sum+1≤Rows.uptoBulk d:=by
 rcases h with⟨rfl,rfl⟩|⟨es,rest,rfl,h1,h2⟩
 ·simp[Rows.uptoBulk]
 ·have:=o7 g l es h1 h2;simp only[Rows.uptoBulk];omega
theorem qS(l:List Ex):5*bD l=(l.map fun e=>5*bh e).sum:=by
 induction l with
 | nil=>rfl
 | cons a r ih=>simp only[bD,List.map_cons,List.sum_cons,←ih];omega
theorem mM(l:List It):bG l=(l.map eJ).sum:=by
 induction l with
 | nil=>rfl
 | cons a r ih=>simp only[bG,ih,List.map_cons,List.sum_cons]
theorem iQ{α:Type}(l:List α):l.length=(l.map fun _=>1).sum:=by
 induction l with
 | nil=>rfl
 | cons a r ih=>simp only[List.length_cons,List.map_cons,List.sum_cons,←ih];omega
section
variable {H : Type} {enc : TypeId × Value → H} {w : World} {v : Value} {d : DataW H} {p : List MemPlace} {base : Nat} {spare : Nat → Bool} {held : Bool}
set_option maxRecDepth 100000 in
theorem vq:∀(n:Nat) {cs:List Value} {y:DataW H×List MemPlace},DataW.trod enc Tryz.prog w base spare held n 51 cs=some y→∃e:Ex,dJ (mem w) (dex e) cs∧5*bh e≤Rows.uptoBulk y.1:=by
 intro n
 induction n using Nat.strongRecOn with
 | _ n ih=>
 intro cs y h;obtain⟨xs,m,rfl,rfl,hlen,hxs,hf⟩:=DataW.trod_struct Tryz.underlying51 h;rw[show Tryz.prog.cellsOf 51=4 by kernel_rfl]at hlen
 match cs,hlen with
 | [a,b,c,e],_=>
  have hx2:xs.length=4:=hxs
  match xs,hx2 with
  | [x0,x1,x2,x3],_=>
  have f0:DataW.trod enc Tryz.prog w base spare held m 3 [a]=some x0:=hf 0 _ rfl;have f1:DataW.trod enc Tryz.prog w base spare held m 3 [b]=some x1:=hf 1 _ rfl;have f2:DataW.trod enc Tryz.prog w base spare held m 9 [c]=some x2:=hf 2 _ rfl;have f3:DataW.trod enc Tryz.prog w base spare held m 49 [e]=some x3:=hf 3 _ rfl;obtain⟨o,g0,k0⟩:=cW Tryz.underlying3 f0;obtain⟨q,g1,k1⟩:=cW Tryz.underlying3 f1;obtain⟨s,g2,k2⟩:=dG Tryz.underlying9 f2;obtain⟨l,v',g3,k3,hb⟩:=cl (k:=4) Tryz.underlying49 (by kernel_rfl) (by decide) dex (fun a=>by rw[bC];rfl) (fun e d=>5*bh e≤Rows.uptoBulk d) f3 (fun n' hn cs' y hy=>ih n' (by omega) hy);cases g0;cases g1;cases g2;cases g3;refine⟨.mk o q s l,by rw[bC];exact .cons (.lit _ k0) (.cons (.lit _ k1) (.cons (.lit _ k2) (.cons k3 .nil))),?_⟩;have hb':=cG (fun e=>5*bh e) hb;rw[←qS]at hb'
  have b0:=dS x0.1;have b1:=dS x1.1;have b2:=dS x2.1;simp only[bh,List.map_cons,List.map_nil,Rows.uptoBulk,Rows.uptoBulkAll];omega
set_option maxRecDepth 100000 in
theorem xJ(n:Nat){cs:List Value}{y:DataW H×List MemPlace}(h:DataW.trod enc Tryz.prog w base spare held n 45 cs=some y):∃e:Wt,dJ (mem w) (dwt e) cs:=by
 obtain⟨xs,m,rfl,rfl,hlen,hxs,hf⟩:=DataW.trod_struct Tryz.underlying45 h;rw[show Tryz.prog.cellsOf 45=4 by kernel_rfl]at hlen
 match cs,hlen with
 | [a,b,c,e],_=>
  have hx2:xs.length=4:=hxs
  match xs,hx2 with
  | [x0,x1,x2,x3],_=>
  have f0:DataW.trod enc Tryz.prog w base spare held m 3 [a]=some x0:=hf 0 _ rfl;have f1:DataW.trod enc Tryz.prog w base spare held m 3 [b]=some x1:=hf 1 _ rfl;have f2:DataW.trod enc Tryz.prog w base spare held m 3 [c]=some x2:=hf 2 _ rfl;have f3:DataW.trod enc Tryz.prog w base spare held m 4 [e]=some x3:=hf 3 _ rfl;obtain⟨o,g0,k0⟩:=cW Tryz.underlying3 f0;obtain⟨q,g1,k1⟩:=cW Tryz.underlying3 f1;obtain⟨r,g2,k2⟩:=cW Tryz.underlying3 f2;obtain⟨b,g3⟩:=qA Tryz.underlying4 f3;cases g0;cases g1;cases g2;cases g3;exact⟨⟨o,q,r,b⟩,.cons (.lit _ k0) (.cons (.lit _ k1) (.cons (.lit _ k2) (.cons (.lit _ trivial) .nil)))⟩
theorem k9(n:Nat){cs:List Value}{y:DataW H×List MemPlace}(h:DataW.trod enc Tryz.prog w base spare held n 43 cs=some y):∃(l:List ByteArray) (v:Value),cs=[v]∧DRep (mem w) (bX l) v∧l.length+1≤Rows.uptoBulk y.1:=by
 obtain⟨l,v',g3,k3,hb⟩:=cl (k:=1) Tryz.underlying43 (by kernel_rfl) (by decide) (fun s:ByteArray=>[ak s]) (fun a=>rfl) (fun _ d=>1≤Rows.uptoBulk d) h (fun n' hn cs' y hy=>by
  obtain⟨s,rfl,k⟩:=dG Tryz.underlying9 hy;exact⟨s,.cons (.lit _ k) .nil,dS _⟩)
 have hb':=cG (fun _:ByteArray=>1) hb;rw[←iQ]at hb';exact⟨l,v',g3,k3,hb'⟩
set_option maxRecDepth 100000 in
theorem uR:∀(n:Nat) {cs:List Value} {y:DataW H×List MemPlace},DataW.trod enc Tryz.prog w base spare held n 53 cs=some y→∃s:It,dJ (mem w) (dit s) cs∧eJ s≤Rows.uptoBulk y.1:=by
 intro n
 induction n using Nat.strongRecOn with
 | _ n ih=>
 intro cs y h;obtain⟨xs,m,rfl,rfl,hlen,hxs,hf⟩:=DataW.trod_struct Tryz.underlying53 h;rw[show Tryz.prog.cellsOf 53=12 by kernel_rfl]at hlen
 match cs,hlen with
 | [a,e0,e1,e2,e3,nm,ix,ws,it,el,bf,af],_=>
  have hx2:xs.length=9:=hxs
  match xs,hx2 with
  | [x0,x1,x2,x3,x4,x5,x6,x7,x8],_=>
  have f0:DataW.trod enc Tryz.prog w base spare held m 3 [a]=some x0:=hf 0 _ rfl
  have f1:DataW.trod enc Tryz.prog w base spare held m 51 [e0,e1,e2,e3]=some x1:=by
   have:=hf 1 _ rfl;change DataW.trod enc Tryz.prog w base spare held m 51 (([a,e0,e1,e2,e3,nm,ix,ws,it,el,bf,af].drop 1).take (Tryz.prog.cellsOf 51))=some x1 at this;rw[show Tryz.prog.cellsOf 51=4 by kernel_rfl]at this;exact this
  have f2:DataW.trod enc Tryz.prog w base spare held m 9 [nm]=some x2:=hf 2 _ rfl;have f3:DataW.trod enc Tryz.prog w base spare held m 9 [ix]=some x3:=hf 3 _ rfl;have f4:DataW.trod enc Tryz.prog w base spare held m 22 [ws]=some x4:=hf 4 _ rfl;have f5:DataW.trod enc Tryz.prog w base spare held m 33 [it]=some x5:=hf 5 _ rfl;have f6:DataW.trod enc Tryz.prog w base spare held m 33 [el]=some x6:=hf 6 _ rfl;have f7:DataW.trod enc Tryz.prog w base spare held m 43 [bf]=some x7:=hf 7 _ rfl;have f8:DataW.trod enc Tryz.prog w base spare held m 43 [af]=some x8:=hf 8 _ rfl;obtain⟨o,g0,k0⟩:=cW Tryz.underlying3 f0;obtain⟨e,k1,h1⟩:=vq m f1;obtain⟨s2,g2,k2⟩:=dG Tryz.underlying9 f2;obtain⟨s3,g3,k3⟩:=dG Tryz.underlying9 f3
  obtain⟨l4,v4,g4,k4,hb4⟩:=cl (k:=4) Tryz.underlying22 (by kernel_rfl) (by decide) dwt (fun a=>rfl) (fun _ d=>1≤Rows.uptoBulk d) f4 (fun n' hn cs' y hy=>by
   obtain⟨q,hq⟩:=xJ n' hy;exact⟨q,hq,dS _⟩)
  obtain⟨l5,v5,g5,k5,hb5⟩:=cl (k:=12) Tryz.underlying33 (by kernel_rfl) (by decide) dit nx (fun e d=>eJ e≤Rows.uptoBulk d) f5 (fun n' hn cs' y hy=>ih n' (by omega) hy);obtain⟨l6,v6,g6,k6,hb6⟩:=cl (k:=12) Tryz.underlying33 (by kernel_rfl) (by decide) dit nx (fun e d=>eJ e≤Rows.uptoBulk d) f6 (fun n' hn cs' y hy=>ih n' (by omega) hy);obtain⟨l7,v7,g7,k7,h7⟩:=k9 m f7;obtain⟨l8,v8,g8,k8,h8⟩:=k9 m f8;cases g0;cases g2;cases g3;cases g4;cases g5;cases g6;cases g7;cases g8;refine⟨.mk o e s2 s3 l4 l5 l6 l7 l8,?_,?_⟩
  ·rw[eE];rw[bC]at k1;exact .cons (.lit _ k0) (k1.append (.cons (.lit _ k2) (.cons (.lit _ k3) (.cons k4 (.cons k5 (.cons k6 (.cons k7 (.cons k8 .nil))))))))
  ·have b4:=cG (fun _:Wt=>1) hb4;rw[←iQ]at b4;have b5:=cG eJ hb5;have b6:=cG eJ hb6;rw[←mM]at b5 b6;have b0:=dS x0.1;have b2:=dS x2.1;rw[bU];simp only[C2,Db,BE,Br,vX,As,List.map_cons,List.map_nil,Rows.uptoBulk,Rows.uptoBulkAll];omega
theorem sN(n:Nat){cs:List Value}{y:DataW H×List MemPlace}(h:DataW.trod enc Tryz.prog w base spare held n 33 cs=some y):∃(l:List It) (v:Value),cs=[v]∧DRep (mem w) (eO l) v∧bG l+1≤Rows.uptoBulk y.1:=by
 obtain⟨l,v',g3,k3,hb⟩:=cl (k:=12) Tryz.underlying33 (by kernel_rfl) (by decide) dit nx (fun e d=>eJ e≤Rows.uptoBulk d) h (fun n' hn cs' y hy=>uR n' hy);have hb':=cG eJ hb;rw[←mM]at hb';exact⟨l,v',g3,k3,hb'⟩
set_option maxRecDepth 100000 in
theorem vd(n:Nat){cs:List Value}{y:DataW H×List MemPlace}(h:DataW.trod enc Tryz.prog w base spare held n 55 cs=some y):∃e:Fl,dJ (mem w) (dfl e) cs:=by
 obtain⟨xs,m,rfl,rfl,hlen,hxs,hf⟩:=DataW.trod_struct Tryz.underlying55 h;rw[show Tryz.prog.cellsOf 55=5 by kernel_rfl]at hlen
 match cs,hlen with
 | [a,b,c,e,f],_=>
  have hx2:xs.length=5:=hxs
  match xs,hx2 with
  | [x0,x1,x2,x3,x4],_=>
  have f0:DataW.trod enc Tryz.prog w base spare held m 9 [a]=some x0:=hf 0 _ rfl;have f1:DataW.trod enc Tryz.prog w base spare held m 3 [b]=some x1:=hf 1 _ rfl;have f2:DataW.trod enc Tryz.prog w base spare held m 3 [c]=some x2:=hf 2 _ rfl;have f3:DataW.trod enc Tryz.prog w base spare held m 3 [e]=some x3:=hf 3 _ rfl;have f4:DataW.trod enc Tryz.prog w base spare held m 3 [f]=some x4:=hf 4 _ rfl;obtain⟨s,g0,k0⟩:=dG Tryz.underlying9 f0;obtain⟨o,g1,k1⟩:=cW Tryz.underlying3 f1;obtain⟨q,g2,k2⟩:=cW Tryz.underlying3 f2;obtain⟨r,g3,k3⟩:=cW Tryz.underlying3 f3;obtain⟨t,g4,k4⟩:=cW Tryz.underlying3 f4;cases g0;cases g1;cases g2;cases g3;cases g4;exact⟨⟨s,o,q,r,t⟩,.cons (.lit _ k0) (.cons (.lit _ k1) (.cons (.lit _ k2) (.cons (.lit _ k3) (.cons (.lit _ k4) .nil))))⟩
set_option maxRecDepth 100000 in
theorem uM(n:Nat){cs:List Value}{y:DataW H×List MemPlace}(h:DataW.trod enc Tryz.prog w base spare held n 57 cs=some y):∃e:Bk,dJ (mem w) (dbk e) cs∧bG e.2+1≤Rows.uptoBulk y.1:=by
 obtain⟨xs,m,rfl,rfl,hlen,hxs,hf⟩:=DataW.trod_struct Tryz.underlying57 h;rw[show Tryz.prog.cellsOf 57=2 by kernel_rfl]at hlen
 match cs,hlen with
 | [a,b],_=>
  have hx2:xs.length=2:=hxs
  match xs,hx2 with
  | [x0,x1],_=>
  have f0:DataW.trod enc Tryz.prog w base spare held m 9 [a]=some x0:=hf 0 _ rfl;have f1:DataW.trod enc Tryz.prog w base spare held m 33 [b]=some x1:=hf 1 _ rfl;obtain⟨s,g0,k0⟩:=dG Tryz.underlying9 f0;obtain⟨l,v',g1,k1,hb⟩:=sN m f1;cases g0;cases g1;refine⟨(s,l),.cons (.lit _ k0) (.cons k1 .nil),?_⟩;simp only[List.map_cons,List.map_nil,Rows.uptoBulk,Rows.uptoBulkAll];omega
theorem xM(l:List Bk):(l.map fun b=>bG b.2+1).sum=(l.map fun b=>bG b.2).sum+l.length:=by
 induction l with
 | nil=>rfl
 | cons a r ih=>simp only[List.map_cons,List.sum_cons,List.length_cons,ih];omega
set_option maxRecDepth 100000 in
theorem om(n:Nat){cs:List Value}{y:DataW H×List MemPlace}(h:DataW.trod enc Tryz.prog w base spare held n 29 cs=some y):∃c:Kl,dJ (mem w) (dkl c) cs∧fg c+c.flds.length+c.blks.length≤Rows.uptoBulk y.1:=by
 obtain⟨xs,m,rfl,rfl,hlen,hxs,hf⟩:=DataW.trod_struct Tryz.underlying29 h;rw[show Tryz.prog.cellsOf 29=4 by kernel_rfl]at hlen
 match cs,hlen with
 | [a,b,c,e],_=>
  have hx2:xs.length=4:=hxs
  match xs,hx2 with
  | [x0,x1,x2,x3],_=>
  have f0:DataW.trod enc Tryz.prog w base spare held m 9 [a]=some x0:=hf 0 _ rfl;have f1:DataW.trod enc Tryz.prog w base spare held m 9 [b]=some x1:=hf 1 _ rfl;have f2:DataW.trod enc Tryz.prog w base spare held m 26 [c]=some x2:=hf 2 _ rfl;have f3:DataW.trod enc Tryz.prog w base spare held m 27 [e]=some x3:=hf 3 _ rfl;obtain⟨s0,g0,k0⟩:=dG Tryz.underlying9 f0;obtain⟨s1,g1,k1⟩:=dG Tryz.underlying9 f1
  obtain⟨l2,v2,g2,k2,hb2⟩:=cl (k:=5) Tryz.underlying26 (by kernel_rfl) (by decide) dfl (fun a=>rfl) (fun _ d=>1≤Rows.uptoBulk d) f2 (fun n' hn cs' y hy=>by
   obtain⟨q,hq⟩:=vd n' hy;exact⟨q,hq,dS _⟩)
  obtain⟨l3,v3,g3,k3,hb3⟩:=cl (k:=2) Tryz.underlying27 (by kernel_rfl) (by decide) dbk (fun a=>rfl) (fun e d=>bG e.2+1≤Rows.uptoBulk d) f3 (fun n' hn cs' y hy=>uM n' hy);cases g0;cases g1;cases g2;cases g3;refine⟨⟨s0,s1,l2,l3⟩,.cons (.lit _ k0) (.cons (.lit _ k1) (.cons k2 (.cons k3 .nil))),?_⟩;have b2:=cG (fun _:Fl=>1) hb2;rw[←iQ]at b2;have b3:=cG (fun e:Bk=>bG e.2+1) hb3;rw[xM]at b3;have hk:fg ⟨s0,s1,l2,l3⟩=(l3.map fun b=>bG b.2).sum:=rfl;rw[hk];simp only[List.map_cons,List.map_nil,Rows.uptoBulk,Rows.uptoBulkAll];omega
set_option maxRecDepth 100000 in
theorem yp(h:DataW.Trod enc Tryz.prog w base spare held 29 v d p)(hv:Value.okWide Tryz.prog w .any base 29 v):∃c:Kl,Rep (mem w) [] (vkl c) v∧fg c+c.flds.length+c.blks.length≤Rows.uptoBulk d:=by
 obtain⟨fuel,hf⟩:=h;obtain⟨s,h1,h2⟩:=om fuel hf;obtain⟨cs,rfl,-⟩:=okWide_struct Tryz.underlying29 hv;have h3:=h1.rep (bm:=[]);exact⟨s,by simpa[Value.cells]using h3,h2⟩
set_option maxRecDepth 100000 in
theorem wz(h:DataW.Trod enc Tryz.prog w base spare held 40 v d p)(hv:Value.okWide Tryz.prog w .any base 40 v):∃l:List Kl,DRep (mem w) (.sl (l.map dkl)) v∧(∀c,c∈l→fg c+c.flds.length+c.blks.length≤Rows.uptoBulk d)∧l.length≤Rows.uptoBulk d:=by
 obtain⟨a,len,cap,rfl⟩:=okWide_slice Tryz.underlying40 hv;obtain⟨fuel,hf⟩:=h
 obtain⟨l,v',h1,h2,hb⟩:=cl (cs:=[.slice a len cap]) (k:=4) Tryz.underlying40 (by kernel_rfl) (by decide) dkl (fun _=>rfl) (fun c d=>fg c+c.flds.length+c.blks.length≤Rows.uptoBulk d∧1≤Rows.uptoBulk d) hf (fun n _ cs' y hy=>by
  obtain⟨c,g1,g2⟩:=om n hy;exact⟨c,g1,g2,dS _⟩)
 cases h1;have b1:=cG (fun c:Kl=>fg c+c.flds.length+c.blks.length) (d:=d) (l:=l) (hb.imp id fun⟨es,rest,g0,g1,g2⟩=>⟨es,rest,g0,g1,fun i h h'=>(g2 i h h').1⟩);have b2:=cG (fun _:Kl=>1) (d:=d) (l:=l) (hb.imp id fun⟨es,rest,g0,g1,g2⟩=>⟨es,rest,g0,g1,fun i h h'=>(g2 i h h').2⟩);rw[←iQ]at b2;refine⟨l,h2,fun c hc=>?_,by omega⟩
 have:∀(l:List Kl) c,c∈l→fg c+c.flds.length+c.blks.length≤(l.map fun c=>fg c+c.flds.length+c.blks.length).sum:=by
  intro l c hc
  induction l with
  | nil=>cases hc
  | cons x r ih=>
   rw[List.map_cons,List.sum_cons];rcases List.mem_cons.1 hc with rfl|hc
   ·omega
   ·have:=ih hc;omega
 have:=this l c hc;omega
end
end Go.Proofs.YtcbahpllcfbkmaaGreatDoor
