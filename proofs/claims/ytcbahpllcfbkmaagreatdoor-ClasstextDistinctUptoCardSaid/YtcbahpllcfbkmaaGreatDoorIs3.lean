import Derived.Test.YtcbahpllcfbkmaaGreatDoorReadB
import Derived.Test.YtcbahpllcfbkmaaGreatDoorCy2
import Derived.ChangeSame
import Derived.ChangeVars
import Derived.JoinedOf
import Derived.RowKit
import Derived.RowKitTokens
import Derived.LaidLaws
import Derived.ChangeOld
import Derived.Below
import Derived.OpenShut
import Derived.WalkKit
import Derived.ProofKit
import Derived.Deep.DeepHandedRow
import Derived.Deep.DeepWitnessRowRef
import Derived.Test.YtcbahpllcfbkmaaGreatDoorProg
import Derived.Test.YtcbahpllcfbkmaaGreatDoorA20
import Derived.KernelRfl
import Derived.Test.YtcbahpllcfbkmaaGreatDoorK5
import Derived.Test.YtcbahpllcfbkmaaGreatDoorCw2
import Derived.Test.YtcbahpllcfbkmaaGreatDoorCw5
import Derived.Test.YtcbahpllcfbkmaaGreatDoorPg
import Derived.Test.YtcbahpllcfbkmaaGreatDoorAdd
import Derived.Test.YtcbahpllcfbkmaaGreatDoorK3
set_option linter.unusedVariables false
set_option linter.unusedSimpArgs false
set_option linter.unusedSectionVars false
namespace Go.Proofs.YtcbahpllcfbkmaaGreatDoor
open Go.ChangeShapes Go.WideShapes Go.ChangeAt Go.RowKit
theorem Tryz.own:ownKnob Tryz.prog.godebug=none:=by kernel_rfl
theorem Tryz.laidOut:laidOutB Tryz.prog=true:=by kernel_rfl
def kY(w:World)(g:Nat)(cs:Array Value):World:=
 {w with heap:=w.heap.modify g fun
   | .cells _ t frozen=>.cells cs t frozen
   | o=>o}
noncomputable def lz(os:Os):World:=
 let w0:=World.holding Tryz.prog os ⟨#[],#[],[]⟩;let n:=w0.heap.size;let w1:=w0.alloc (.cells (dz.map Value.string).toArray 9);let w2:=kY w1 1 #[.slice (some ⟨n,0,none⟩) 24 24];let w6:=kY w2 2 (Lib.pow10Tab.map fun z=>Value.int .u64 z).toArray;let w7:=kY w6 3 (([0,1,28,2,29,14,24,3,30,22,20,15,25,17,4,8,31,27,13,23,21,19,16,7,26,12,18,6,11,5,10,9]:List Int).map fun z=>Value.int .u8 z).toArray
 kY w7 4 (([0,1,56,2,57,49,28,3,61,58,42,50,38,29,17,4,62,47,59,36,45,43,51,22,53,39,33,30,24,18,12,5,63,55,48,27,60,41,37,16,46,35,44,21,52,32,23,11,54,26,40,15,34,20,31,10,25,14,19,9,13,8,7,6]:List Int).map fun z=>Value.int .u8 z).toArray
theorem nR(os:Os)(args:Array Value):laidMet Tryz.prog mX ((lz os).forCall (fun _ _=>0) ⟨#[],args,[]⟩).memory:=
 laidMet_of_run' 8 (by kernel_rfl) (by kernel_rfl)
theorem Ext.below{w w':World}(h:Ext w w'):Below w.heap.size w w':=⟨h.os,h.tape,h.output,h.size,h.block⟩
theorem ny{H:Type}{enc:TypeId×Value→H}{w:World}{t:TypeId}{v:Value}{d:DataW H}{p:List MemPlace}{base:Nat}{spare:Nat→Bool}{held:Bool}(h:DataW.Trod enc Tryz.prog w base spare held t v d p):∀x∈p,x.block<w.heap.size:=by
 obtain⟨m,hm⟩:=h;exact DataW.trod_lt m _ _ _ hm
instance:Inhabited Ex:=⟨.mk 0 0 ⟨#[]⟩ []⟩
instance:Inhabited Wt:=⟨⟨0,0,0,false⟩⟩
instance:Inhabited It:=⟨.mk 0 (.mk 0 0 ⟨#[]⟩ []) ⟨#[]⟩ ⟨#[]⟩ [] [] [] [] []⟩
instance:Inhabited Fl:=⟨⟨⟨#[]⟩,0,0,0,0⟩⟩
instance:Inhabited Kl:=⟨⟨⟨#[]⟩,⟨#[]⟩,[],[]⟩⟩
theorem ff{H:Type}(d:DataW H):1≤Rows.uptoBulk d:=by
 cases d with
 | lit l=>cases l<;>simp[Rows.uptoBulk]
 | nil=>simp[Rows.uptoBulk]
 | ptr d=>simp[Rows.uptoBulk]
 | slice elems spare=>simp[Rows.uptoBulk]
 | agg parts=>simp[Rows.uptoBulk]
 | iface t d=>simp[Rows.uptoBulk]
 | map entries=>simp[Rows.uptoBulk]
 | held h=>simp[Rows.uptoBulk]
theorem rV{H:Type}{α:Type}(g:α→Nat):∀(l:List α) (es:List (DataW H)),es.length=l.length→(∀i (h:i<l.length) (h':i<es.length),g l[i]≤Rows.uptoBulk es[i])→(l.map g).sum≤Rows.uptoBulkAll es
 | [],es,_,_=>by simp
 | a::r,e::es,hl,h=>by
  have h1:=h 0 (by simp) (by simp);have h2:=rV g r es (by simpa using hl) (fun i g1 g2=>h (i+1) (by simpa using g1) (by simpa using g2));simp only[List.getElem_cons_zero]at h1;simp only[List.map_cons,List.sum_cons,Rows.uptoBulkAll];omega
theorem dk{H:Type}{α:Type}(g:α→Nat){l:List α}{d:DataW H}(h:(d=.nil∧l=[])∨∃elems rest:List (DataW H),d=.slice elems rest∧elems.length=l.length∧∀i (h:i<l.length) (h':i<elems.length),g l[i]≤Rows.uptoBulk elems[i]):(l.map g).sum+1≤Rows.uptoBulk d:=by
 rcases h with⟨rfl,rfl⟩|⟨es,rest,rfl,h1,h2⟩
 ·simp[Rows.uptoBulk]
 ·have:=rV g l es h1 h2;simp only[Rows.uptoBulk];omega
theorem ta(l:List Ex):5*bF l=(l.map fun e=>5*ba e).sum:=by
 induction l with
 | nil=>rfl
 | cons a r ih=>simp only[bF,List.map_cons,List.sum_cons,←ih];omega
theorem pi(l:List It):bN l=(l.map fY).sum:=by
 induction l with
 | nil=>rfl
 | cons a r ih=>simp only[bN,ih,List.map_cons,List.sum_cons]
theorem mJ{α:Type}(l:List α):l.length=(l.map fun _=>1).sum:=by
 induction l with
 | nil=>rfl
 | cons a r ih=>simp only[List.length_cons,List.map_cons,List.sum_cons,←ih];omega
section
variable {H : Type} {enc : TypeId × Value → H} {w : World} {v : Value} {d : DataW H} {p : List MemPlace} {base : Nat} {spare : Nat → Bool} {held : Bool}
set_option maxRecDepth 100000 in
theorem zT:∀(n:Nat) {cs:List Value} {y:DataW H×List MemPlace},DataW.trod enc Tryz.prog w base spare held n 51 cs=some y→∃e:Ex,ef (mem w) (dex e) cs∧5*ba e≤Rows.uptoBulk y.1:=by
 intro n
 induction n using Nat.strongRecOn with
 | _ n ih=>
 intro cs y h;obtain⟨xs,m,rfl,rfl,hlen,hxs,hf⟩:=DataW.trod_struct Tryz.underlying51 h;rw[show Tryz.prog.cellsOf 51=4 by kernel_rfl]at hlen
 match cs,hlen with
 | [a,b,c,e],_=>
  have hx2:xs.length=4:=hxs
  match xs,hx2 with
  | [x0,x1,x2,x3],_=>
  have f0:DataW.trod enc Tryz.prog w base spare held m 3 [a]=some x0:=hf 0 _ rfl;have f1:DataW.trod enc Tryz.prog w base spare held m 3 [b]=some x1:=hf 1 _ rfl;have f2:DataW.trod enc Tryz.prog w base spare held m 9 [c]=some x2:=hf 2 _ rfl;have f3:DataW.trod enc Tryz.prog w base spare held m 49 [e]=some x3:=hf 3 _ rfl;obtain⟨o,g0,k0⟩:=de Tryz.underlying3 f0;obtain⟨q,g1,k1⟩:=de Tryz.underlying3 f1;obtain⟨s,g2,k2⟩:=dZ Tryz.underlying9 f2;obtain⟨l,v',g3,k3,hb⟩:=cL (k:=4) Tryz.underlying49 (by kernel_rfl) (by decide) dex (fun a=>by rw[cS];rfl) (fun e d=>5*ba e≤Rows.uptoBulk d) f3 (fun n' hn cs' y hy=>ih n' (by omega) hy);cases g0;cases g1;cases g2;cases g3;refine⟨.mk o q s l,by rw[cS];exact .cons (.lit _ k0) (.cons (.lit _ k1) (.cons (.lit _ k2) (.cons k3 .nil))),?_⟩;have hb':=dk (fun e=>5*ba e) hb;rw[←ta]at hb'
  have b0:=ff x0.1;have b1:=ff x1.1;have b2:=ff x2.1;simp only[ba,List.map_cons,List.map_nil,Rows.uptoBulk,Rows.uptoBulkAll];omega
set_option maxRecDepth 100000 in
theorem A5(n:Nat){cs:List Value}{y:DataW H×List MemPlace}(h:DataW.trod enc Tryz.prog w base spare held n 45 cs=some y):∃e:Wt,ef (mem w) (dwt e) cs:=by
 obtain⟨xs,m,rfl,rfl,hlen,hxs,hf⟩:=DataW.trod_struct Tryz.underlying45 h;rw[show Tryz.prog.cellsOf 45=4 by kernel_rfl]at hlen
 match cs,hlen with
 | [a,b,c,e],_=>
  have hx2:xs.length=4:=hxs
  match xs,hx2 with
  | [x0,x1,x2,x3],_=>
  have f0:DataW.trod enc Tryz.prog w base spare held m 3 [a]=some x0:=hf 0 _ rfl;have f1:DataW.trod enc Tryz.prog w base spare held m 3 [b]=some x1:=hf 1 _ rfl;have f2:DataW.trod enc Tryz.prog w base spare held m 3 [c]=some x2:=hf 2 _ rfl;have f3:DataW.trod enc Tryz.prog w base spare held m 4 [e]=some x3:=hf 3 _ rfl;obtain⟨o,g0,k0⟩:=de Tryz.underlying3 f0;obtain⟨q,g1,k1⟩:=de Tryz.underlying3 f1;obtain⟨r,g2,k2⟩:=de Tryz.underlying3 f2;obtain⟨b,g3⟩:=sj Tryz.underlying4 f3;cases g0;cases g1;cases g2;cases g3;exact⟨⟨o,q,r,b⟩,.cons (.lit _ k0) (.cons (.lit _ k1) (.cons (.lit _ k2) (.cons (.lit _ trivial) .nil)))⟩
theorem nP(n:Nat){cs:List Value}{y:DataW H×List MemPlace}(h:DataW.trod enc Tryz.prog w base spare held n 43 cs=some y):∃(l:List ByteArray) (v:Value),cs=[v]∧DRep (mem w) (cT l) v∧l.length+1≤Rows.uptoBulk y.1:=by
 obtain⟨l,v',g3,k3,hb⟩:=cL (k:=1) Tryz.underlying43 (by kernel_rfl) (by decide) (fun s:ByteArray=>[an s]) (fun a=>rfl) (fun _ d=>1≤Rows.uptoBulk d) h (fun n' hn cs' y hy=>by
  obtain⟨s,rfl,k⟩:=dZ Tryz.underlying9 hy;exact⟨s,.cons (.lit _ k) .nil,ff _⟩)
 have hb':=dk (fun _:ByteArray=>1) hb;rw[←mJ]at hb';exact⟨l,v',g3,k3,hb'⟩
set_option maxRecDepth 100000 in
theorem Bi:∀(n:Nat) {cs:List Value} {y:DataW H×List MemPlace},DataW.trod enc Tryz.prog w base spare held n 53 cs=some y→∃s:It,ef (mem w) (dit s) cs∧fY s≤Rows.uptoBulk y.1:=by
 intro n
 induction n using Nat.strongRecOn with
 | _ n ih=>
 intro cs y h;obtain⟨xs,m,rfl,rfl,hlen,hxs,hf⟩:=DataW.trod_struct Tryz.underlying53 h;rw[show Tryz.prog.cellsOf 53=12 by kernel_rfl]at hlen
 match cs,hlen with
 | [a,e0,e1,e2,e3,nm,ix,ws,it,el,bf,af],_=>
  have hx2:xs.length=9:=hxs
  match xs,hx2 with
  | [x0,x1,x2,x3,x4,x5,x6,x7,x8],_=>
  have f0:DataW.trod enc Tryz.prog w base spare held m 3 [a]=some x0:=hf 0 _ rfl
  have f1:DataW.trod enc Tryz.prog w base spare held m 51 [e0,e1,e2,e3]=some x1:=by
   have:=hf 1 _ rfl;change DataW.trod enc Tryz.prog w base spare held m 51 (([a,e0,e1,e2,e3,nm,ix,ws,it,el,bf,af].drop 1).take (Tryz.prog.cellsOf 51))=some x1 at this;rw[show Tryz.prog.cellsOf 51=4 by kernel_rfl]at this;exact this
  have f2:DataW.trod enc Tryz.prog w base spare held m 9 [nm]=some x2:=hf 2 _ rfl;have f3:DataW.trod enc Tryz.prog w base spare held m 9 [ix]=some x3:=hf 3 _ rfl;have f4:DataW.trod enc Tryz.prog w base spare held m 22 [ws]=some x4:=hf 4 _ rfl;have f5:DataW.trod enc Tryz.prog w base spare held m 33 [it]=some x5:=hf 5 _ rfl;have f6:DataW.trod enc Tryz.prog w base spare held m 33 [el]=some x6:=hf 6 _ rfl;have f7:DataW.trod enc Tryz.prog w base spare held m 43 [bf]=some x7:=hf 7 _ rfl;have f8:DataW.trod enc Tryz.prog w base spare held m 43 [af]=some x8:=hf 8 _ rfl;obtain⟨o,g0,k0⟩:=de Tryz.underlying3 f0;obtain⟨e,k1,h1⟩:=zT m f1;obtain⟨s2,g2,k2⟩:=dZ Tryz.underlying9 f2;obtain⟨s3,g3,k3⟩:=dZ Tryz.underlying9 f3
  obtain⟨l4,v4,g4,k4,hb4⟩:=cL (k:=4) Tryz.underlying22 (by kernel_rfl) (by decide) dwt (fun a=>rfl) (fun _ d=>1≤Rows.uptoBulk d) f4 (fun n' hn cs' y hy=>by
   obtain⟨q,hq⟩:=A5 n' hy;exact⟨q,hq,ff _⟩)
  obtain⟨l5,v5,g5,k5,hb5⟩:=cL (k:=12) Tryz.underlying33 (by kernel_rfl) (by decide) dit qc (fun e d=>fY e≤Rows.uptoBulk d) f5 (fun n' hn cs' y hy=>ih n' (by omega) hy);obtain⟨l6,v6,g6,k6,hb6⟩:=cL (k:=12) Tryz.underlying33 (by kernel_rfl) (by decide) dit qc (fun e d=>fY e≤Rows.uptoBulk d) f6 (fun n' hn cs' y hy=>ih n' (by omega) hy);obtain⟨l7,v7,g7,k7,h7⟩:=nP m f7;obtain⟨l8,v8,g8,k8,h8⟩:=nP m f8;cases g0;cases g2;cases g3;cases g4;cases g5;cases g6;cases g7;cases g8;refine⟨.mk o e s2 s3 l4 l5 l6 l7 l8,?_,?_⟩
  ·rw[fk];rw[cS]at k1;exact .cons (.lit _ k0) (k1.append (.cons (.lit _ k2) (.cons (.lit _ k3) (.cons k4 (.cons k5 (.cons k6 (.cons k7 (.cons k8 .nil))))))))
  ·have b4:=dk (fun _:Wt=>1) hb4;rw[←mJ]at b4;have b5:=dk fY hb5;have b6:=dk fY hb6;rw[←pi]at b5 b6;have b0:=ff x0.1;have b2:=ff x2.1;rw[cA];simp only[Gx,FB,Ej,Ec,yo,Dp,List.map_cons,List.map_nil,Rows.uptoBulk,Rows.uptoBulkAll];omega
theorem vD(n:Nat){cs:List Value}{y:DataW H×List MemPlace}(h:DataW.trod enc Tryz.prog w base spare held n 33 cs=some y):∃(l:List It) (v:Value),cs=[v]∧DRep (mem w) (fr l) v∧bN l+1≤Rows.uptoBulk y.1:=by
 obtain⟨l,v',g3,k3,hb⟩:=cL (k:=12) Tryz.underlying33 (by kernel_rfl) (by decide) dit qc (fun e d=>fY e≤Rows.uptoBulk d) h (fun n' hn cs' y hy=>Bi n' hy);have hb':=dk fY hb;rw[←pi]at hb';exact⟨l,v',g3,k3,hb'⟩
set_option maxRecDepth 100000 in
theorem zc(n:Nat){cs:List Value}{y:DataW H×List MemPlace}(h:DataW.trod enc Tryz.prog w base spare held n 55 cs=some y):∃e:Fl,ef (mem w) (dfl e) cs:=by
 obtain⟨xs,m,rfl,rfl,hlen,hxs,hf⟩:=DataW.trod_struct Tryz.underlying55 h;rw[show Tryz.prog.cellsOf 55=5 by kernel_rfl]at hlen
 match cs,hlen with
 | [a,b,c,e,f],_=>
  have hx2:xs.length=5:=hxs
  match xs,hx2 with
  | [x0,x1,x2,x3,x4],_=>
  have f0:DataW.trod enc Tryz.prog w base spare held m 9 [a]=some x0:=hf 0 _ rfl;have f1:DataW.trod enc Tryz.prog w base spare held m 3 [b]=some x1:=hf 1 _ rfl;have f2:DataW.trod enc Tryz.prog w base spare held m 3 [c]=some x2:=hf 2 _ rfl;have f3:DataW.trod enc Tryz.prog w base spare held m 3 [e]=some x3:=hf 3 _ rfl;have f4:DataW.trod enc Tryz.prog w base spare held m 3 [f]=some x4:=hf 4 _ rfl;obtain⟨s,g0,k0⟩:=dZ Tryz.underlying9 f0;obtain⟨o,g1,k1⟩:=de Tryz.underlying3 f1;obtain⟨q,g2,k2⟩:=de Tryz.underlying3 f2;obtain⟨r,g3,k3⟩:=de Tryz.underlying3 f3;obtain⟨t,g4,k4⟩:=de Tryz.underlying3 f4;cases g0;cases g1;cases g2;cases g3;cases g4;exact⟨⟨s,o,q,r,t⟩,.cons (.lit _ k0) (.cons (.lit _ k1) (.cons (.lit _ k2) (.cons (.lit _ k3) (.cons (.lit _ k4) .nil))))⟩
set_option maxRecDepth 100000 in
theorem Al(n:Nat){cs:List Value}{y:DataW H×List MemPlace}(h:DataW.trod enc Tryz.prog w base spare held n 57 cs=some y):∃e:Bk,ef (mem w) (dbk e) cs∧bN e.2+1≤Rows.uptoBulk y.1:=by
 obtain⟨xs,m,rfl,rfl,hlen,hxs,hf⟩:=DataW.trod_struct Tryz.underlying57 h;rw[show Tryz.prog.cellsOf 57=2 by kernel_rfl]at hlen
 match cs,hlen with
 | [a,b],_=>
  have hx2:xs.length=2:=hxs
  match xs,hx2 with
  | [x0,x1],_=>
  have f0:DataW.trod enc Tryz.prog w base spare held m 9 [a]=some x0:=hf 0 _ rfl;have f1:DataW.trod enc Tryz.prog w base spare held m 33 [b]=some x1:=hf 1 _ rfl;obtain⟨s,g0,k0⟩:=dZ Tryz.underlying9 f0;obtain⟨l,v',g1,k1,hb⟩:=vD m f1;cases g0;cases g1;refine⟨(s,l),.cons (.lit _ k0) (.cons k1 .nil),?_⟩;simp only[List.map_cons,List.map_nil,Rows.uptoBulk,Rows.uptoBulkAll];omega
theorem zo(l:List Bk):(l.map fun b=>bN b.2+1).sum=(l.map fun b=>bN b.2).sum+l.length:=by
 induction l with
 | nil=>rfl
 | cons a r ih=>simp only[List.map_cons,List.sum_cons,List.length_cons,ih];omega
set_option maxRecDepth 100000 in
theorem AC(n:Nat){cs:List Value}{y:DataW H×List MemPlace}(h:DataW.trod enc Tryz.prog w base spare held n 29 cs=some y):∃c:Kl,ef (mem w) (dkl c) cs∧jQ c+c.flds.length+c.blks.length≤Rows.uptoBulk y.1:=by
 obtain⟨xs,m,rfl,rfl,hlen,hxs,hf⟩:=DataW.trod_struct Tryz.underlying29 h;rw[show Tryz.prog.cellsOf 29=4 by kernel_rfl]at hlen
 match cs,hlen with
 | [a,b,c,e],_=>
  have hx2:xs.length=4:=hxs
  match xs,hx2 with
  | [x0,x1,x2,x3],_=>
  have f0:DataW.trod enc Tryz.prog w base spare held m 9 [a]=some x0:=hf 0 _ rfl;have f1:DataW.trod enc Tryz.prog w base spare held m 9 [b]=some x1:=hf 1 _ rfl;have f2:DataW.trod enc Tryz.prog w base spare held m 26 [c]=some x2:=hf 2 _ rfl;have f3:DataW.trod enc Tryz.prog w base spare held m 27 [e]=some x3:=hf 3 _ rfl;obtain⟨s0,g0,k0⟩:=dZ Tryz.underlying9 f0;obtain⟨s1,g1,k1⟩:=dZ Tryz.underlying9 f1
  obtain⟨l2,v2,g2,k2,hb2⟩:=cL (k:=5) Tryz.underlying26 (by kernel_rfl) (by decide) dfl (fun a=>rfl) (fun _ d=>1≤Rows.uptoBulk d) f2 (fun n' hn cs' y hy=>by
   obtain⟨q,hq⟩:=zc n' hy;exact⟨q,hq,ff _⟩)
  obtain⟨l3,v3,g3,k3,hb3⟩:=cL (k:=2) Tryz.underlying27 (by kernel_rfl) (by decide) dbk (fun a=>rfl) (fun e d=>bN e.2+1≤Rows.uptoBulk d) f3 (fun n' hn cs' y hy=>Al n' hy);cases g0;cases g1;cases g2;cases g3;refine⟨⟨s0,s1,l2,l3⟩,.cons (.lit _ k0) (.cons (.lit _ k1) (.cons k2 (.cons k3 .nil))),?_⟩;have b2:=dk (fun _:Fl=>1) hb2;rw[←mJ]at b2;have b3:=dk (fun e:Bk=>bN e.2+1) hb3;rw[zo]at b3;have hk:jQ ⟨s0,s1,l2,l3⟩=(l3.map fun b=>bN b.2).sum:=rfl;rw[hk];simp only[List.map_cons,List.map_nil,Rows.uptoBulk,Rows.uptoBulkAll];omega
set_option maxRecDepth 100000 in
theorem us(h:DataW.Trod enc Tryz.prog w base spare held 29 v d p)(hv:Value.okWide Tryz.prog w .any base 29 v):∃c:Kl,Rep (mem w) [] (vkl c) v∧jQ c+c.flds.length+c.blks.length≤Rows.uptoBulk d:=by
 obtain⟨fuel,hf⟩:=h;obtain⟨s,h1,h2⟩:=AC fuel hf;obtain⟨cs,rfl,-⟩:=okWide_struct Tryz.underlying29 hv;have h3:=h1.rep (bm:=[]);exact⟨s,by simpa[Value.cells]using h3,h2⟩
end
end Go.Proofs.YtcbahpllcfbkmaaGreatDoor
namespace Go.Proofs.YtcbahpllcfbkmaaGreatDoor
open Go.RowKit
set_option maxRecDepth 100000
def c37:Cd:=sq [oM 4 (.mv kF)] [0,1] (.seq (sq [oV 6 0,ZN 7 6,oV 8 1,ZN 9 8,Yn 10 7 9] [0,1,10] (.cond (.t 10) (sq [oM 4 (.mv kF)] [4] .ret) .skip)) (.seq (sq [oI 5 0] [0,1,5] (.block 0 (.loop (.seq (sq [oV 11 5,oV 12 0,ZN 13 12,Yl 14 11 13] [0,1,5,14] (.cond (.t 14) .skip (.exit 0))) (.seq (.block 1 (.seq (.draw [oV 17 0,oV 18 5,ZI 19 12 17 18,ZM 20 12 19,oV 21 1,oV 22 5,ZI 23 12 21 22,
 ZM 24 12 23,ZD 25 55 20 24,ZU 26 25] [0,1,5,26]) (.cond (.t 26) (sq [oM 4 (.mv kF)] [4] .ret) .skip))) (.ops [oV 15 5,Wa 16 15 1,oV 5 16] [0,1,5])))))) (sq [oM 4 (.mv kT)] [4] .ret)))
def G9:List RV:=[.t 4 false]
theorem k37:bj G.tab Tryz.f37 2 c37 G9=true:=by kernel_rfl
def c55:Cd:=sq [ZB 2 53 0,ZB 3 53 1,oM 4 (.mv kF)] [2,3] (.seq (sq [ZF 6 0 2,ZL 7 1 6,ZF 8 0 3,ZL 9 1 8,Yn 10 7 9,oV 11 10,oH 12 11 (zF 1 2),oH 13 11 (zM 4 12),oH 14 11 (zF 1 3),oH 15 11 (zM 4 14),oH 16 11 (zD 81 13 15),oH 17 11 (zU 16),ZP 18 11 17,oV 19 18,oH 20 19 (zF 5 2),oH 21 19 (zL 1 20),oH 22 19 (zF 5 3),oH 23 19 (zL 1 22),oH 24 19 (yn 21 23),ZP 25 19 24,oV 26 25,oH 27 26 (zF 6 2),
 oH 28 26 (zL 1 27),oH 29 26 (zF 6 3),oH 30 26 (zL 1 29),oH 31 26 (yn 28 30),ZP 32 26 31,oV 33 32,oH 34 33 (zF 7 2),oH 35 33 (zL 1 34),oH 36 33 (zN 35),oH 37 33 (zF 7 3),oH 38 33 (zL 1 37),oH 39 33 (zN 38),oH 40 33 (yn 36 39),ZP 41 33 40] [2,3,41] (.cond (.t 41) (sq [oM 4 (.mv kF)] [4] .ret) .skip)) (.seq (sq [oI 5 0] [2,3,5] (.block 0 (.loop (.seq (sq [oV 42 5,ZF 43 7 2,ZL 44 1 43,ZN 45 44,
 Yl 46 42 45] [2,3,5,46] (.cond (.t 46) .skip (.exit 0))) (.seq (.block 1 (.seq (.draw [ZF 49 7 2,ZL 50 1 49,oV 51 5,ZI 52 4 50 51,ZM 53 4 52,ZF 54 7 3,ZL 55 1 54,oV 56 5,ZI 57 4 55 56,ZM 58 4 57,oM 59 (.eqa true 45 [.i .i64,.i .i64,.i .i64,.b] (.t 53) (.t 58))] [2,3,5,59]) (.cond (.t 59) (sq [oM 4 (.mv kF)] [4] .ret) .skip))) (.ops [oV 47 5,Wa 48 47 1,oV 5 48] [2,3,5])))))) (sq [ZF 60 8 2,
 ZL 61 1 60,ZF 62 8 3,ZL 63 1 62,ZD 64 37 61 63,oV 65 64,oG 66 65 (zF 9 2),oG 67 65 (zL 1 66),oG 68 65 (zF 9 3),oG 69 65 (zL 1 68),oG 70 65 (zD 37 67 69),ZQ 71 65 70,oV 72 71,oG 73 72 (zF 10 2),oG 74 72 (zL 1 73),oG 75 72 (zF 10 3),oG 76 72 (zL 1 75),oG 77 72 (zD 82 74 76),ZQ 78 72 77,oV 79 78,oG 80 79 (zF 11 2),oG 81 79 (zL 1 80),oG 82 79 (zF 11 3),oG 83 79 (zL 1 82),oG 84 79 (zD 82 81 83),
 ZQ 85 79 84,oV 4 85] [4] .ret)))
def GQ:List RV:=[.t 4 false]
theorem k55:bj G.tab Tryz.f55 2 c55 GQ=true:=by kernel_rfl
def c82:Cd:=sq [oM 4 (.mv kF)] [0,1] (.seq (sq [oV 6 0,ZN 7 6,oV 8 1,ZN 9 8,Yn 10 7 9] [0,1,10] (.cond (.t 10) (sq [oM 4 (.mv kF)] [4] .ret) .skip)) (.seq (sq [oI 5 0] [0,1,5] (.block 0 (.loop (.seq (sq [oV 11 5,oV 12 0,ZN 13 12,Yl 14 11 13] [0,1,5,14] (.cond (.t 14) .skip (.exit 0))) (.seq (.block 1 (.seq (.draw [oV 17 0,oV 18 5,ZI 19 1 17 18,ZL 20 1 19,oV 21 1,oV 22 5,ZI 23 1 21 22,ZL 24 1 23,
 Yn 25 20 24] [0,1,5,25]) (.cond (.t 25) (sq [oM 4 (.mv kF)] [4] .ret) .skip))) (.ops [oV 15 5,Wa 16 15 1,oV 5 16] [0,1,5])))))) (.seq (.ops [oM 4 (.mv kT)] [4]) .ret)))
def GS:List RV:=[.t 4 false]
theorem k82:bj G.tab Tryz.f82 2 c82 GS=true:=by kernel_rfl
end Go.Proofs.YtcbahpllcfbkmaaGreatDoor
namespace Go.Proofs.YtcbahpllcfbkmaaGreatDoor
open Go.RowKit
section
variable (x : It) (d k : Nat) (σ : List (List V))
end
end Go.Proofs.YtcbahpllcfbkmaaGreatDoor
namespace Go.Proofs.YtcbahpllcfbkmaaGreatDoor
open Go.RowKit
theorem ET:vex ub=.agg [.d (az 0),.d (az 0),.d (an ⟨#[]⟩),.d (.sl [])]:=by rw[be];rfl
end Go.Proofs.YtcbahpllcfbkmaaGreatDoor
