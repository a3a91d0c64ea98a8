import Derived.Test.YtcbahpllcfbkmaaGreatDoorReadB
import Derived.Test.YtcbahpllcfbkmaaGreatDoorCy2
import Derived.ChangeSame
import Derived.ChangeVars
import Derived.JoinedOf
import Derived.RowKit
import Derived.RowKitTokens
import Derived.LaidLaws
import Derived.ChangeOld
import Derived.Below
import Derived.OpenShut
import Derived.WalkKit
import Derived.ProofKit
import Derived.Deep.DeepHandedRow
import Derived.Deep.DeepWitnessRowRef
import Derived.Test.YtcbahpllcfbkmaaGreatDoorPt
import Derived.Test.YtcbahpllcfbkmaaGreatDoorAdd
import Derived.Test.YtcbahpllcfbkmaaGreatDoorK3
set_option linter.unusedVariables false
set_option linter.unusedSimpArgs false
set_option linter.unusedSectionVars false
namespace Go.Proofs.YtcbahpllcfbkmaaGreatDoor
open Go.ChangeShapes Go.WideShapes Go.ChangeAt Go.RowKit
theorem Tryz.own:ownKnob Tryz.prog.godebug=none:=by kernel_rfl
theorem Tryz.laidOut:laidOutB Tryz.prog=true:=by kernel_rfl
def iu(w:World)(g:Nat)(cs:Array Value):World:=
 {w with heap:=w.heap.modify g fun
   | .cells _ t frozen=>.cells cs t frozen
   | o=>o}
noncomputable def jb(os:Os):World:=
 let w0:=World.holding Tryz.prog os ⟨#[],#[],[]⟩;let n:=w0.heap.size;let w1:=w0.alloc (.cells (cV.map Value.string).toArray 9);let w2:=iu w1 1 #[.slice (some ⟨n,0,none⟩) 24 24];let w6:=iu w2 2 (Lib.pow10Tab.map fun z=>Value.int .u64 z).toArray;let w7:=iu w6 3 (([0,1,28,2,29,14,24,3,30,22,20,15,25,17,4,8,31,27,13,23,21,19,16,7,26,12,18,6,11,5,10,9]:List Int).map fun z=>Value.int .u8 z).toArray
 iu w7 4 (([0,1,56,2,57,49,28,3,61,58,42,50,38,29,17,4,62,47,59,36,45,43,51,22,53,39,33,30,24,18,12,5,63,55,48,27,60,41,37,16,46,35,44,21,52,32,23,11,54,26,40,15,34,20,31,10,25,14,19,9,13,8,7,6]:List Int).map fun z=>Value.int .u8 z).toArray
theorem ln(os:Os)(args:Array Value):laidMet Tryz.prog km ((jb os).forCall (fun _ _=>0) ⟨#[],args,[]⟩).memory:=
 laidMet_of_run' 8 (by kernel_rfl) (by kernel_rfl)
theorem Ext.below{w w':World}(h:Ext w w'):Below w.heap.size w w':=⟨h.os,h.tape,h.output,h.size,h.block⟩
theorem gS{H:Type}{enc:TypeId×Value→H}{w:World}{t:TypeId}{v:Value}{d:DataW H}{p:List MemPlace}{base:Nat}{spare:Nat→Bool}{held:Bool}(h:DataW.Trod enc Tryz.prog w base spare held t v d p):∀x∈p,x.block<w.heap.size:=by
 obtain⟨m,hm⟩:=h;exact DataW.trod_lt m _ _ _ hm
instance:Inhabited Ex:=⟨.mk 0 0 ⟨#[]⟩ []⟩
instance:Inhabited Wt:=⟨⟨0,0,0,false⟩⟩
instance:Inhabited It:=⟨.mk 0 (.mk 0 0 ⟨#[]⟩ []) ⟨#[]⟩ ⟨#[]⟩ [] [] [] [] []⟩
instance:Inhabited Fl:=⟨⟨⟨#[]⟩,0,0,0,0⟩⟩
instance:Inhabited Kl:=⟨⟨⟨#[]⟩,⟨#[]⟩,[],[]⟩⟩
theorem ez{H:Type}(d:DataW H):1≤Rows.uptoBulk d:=by
 cases d with
 | lit l=>cases l<;>simp[Rows.uptoBulk]
 | nil=>simp[Rows.uptoBulk]
 | ptr d=>simp[Rows.uptoBulk]
 | slice elems spare=>simp[Rows.uptoBulk]
 | agg parts=>simp[Rows.uptoBulk]
 | iface t d=>simp[Rows.uptoBulk]
 | map entries=>simp[Rows.uptoBulk]
 | held h=>simp[Rows.uptoBulk]
theorem nK{H:Type}{α:Type}(g:α→Nat):∀(l:List α) (es:List (DataW H)),es.length=l.length→(∀i (h:i<l.length) (h':i<es.length),g l[i]≤Rows.uptoBulk es[i])→(l.map g).sum≤Rows.uptoBulkAll es
 | [],es,_,_=>by simp
 | a::r,e::es,hl,h=>by
  have h1:=h 0 (by simp) (by simp);have h2:=nK g r es (by simpa using hl) (fun i g1 g2=>h (i+1) (by simpa using g1) (by simpa using g2));simp only[List.getElem_cons_zero]at h1;simp only[List.map_cons,List.sum_cons,Rows.uptoBulkAll];omega
theorem dG{H:Type}{α:Type}(g:α→Nat){l:List α}{d:DataW H}(h:(d=.nil∧l=[])∨∃elems rest:List (DataW H),d=.slice elems rest∧elems.length=l.length∧∀i (h:i<l.length) (h':i<elems.length),g l[i]≤Rows.uptoBulk elems[i]):(l.map g).sum+1≤Rows.uptoBulk d:=by
 rcases h with⟨rfl,rfl⟩|⟨es,rest,rfl,h1,h2⟩
 ·simp[Rows.uptoBulk]
 ·have:=nK g l es h1 h2;simp only[Rows.uptoBulk];omega
theorem pw(l:List Ex):5*bu l=(l.map fun e=>5*aW e).sum:=by
 induction l with
 | nil=>rfl
 | cons a r ih=>simp only[bu,List.map_cons,List.sum_cons,←ih];omega
theorem lK(l:List It):bq l=(l.map eY).sum:=by
 induction l with
 | nil=>rfl
 | cons a r ih=>simp only[bq,ih,List.map_cons,List.sum_cons]
theorem nh{α:Type}(l:List α):l.length=(l.map fun _=>1).sum:=by
 induction l with
 | nil=>rfl
 | cons a r ih=>simp only[List.length_cons,List.map_cons,List.sum_cons,←ih];omega
section
variable {H : Type} {enc : TypeId × Value → H} {w : World} {v : Value} {d : DataW H} {p : List MemPlace} {base : Nat} {spare : Nat → Bool} {held : Bool}
set_option maxRecDepth 100000 in
theorem uU:∀(n:Nat) {cs:List Value} {y:DataW H×List MemPlace},DataW.trod enc Tryz.prog w base spare held n 51 cs=some y→∃e:Ex,eU (mem w) (dex e) cs∧5*aW e≤Rows.uptoBulk y.1:=by
 intro n
 induction n using Nat.strongRecOn with
 | _ n ih=>
 intro cs y h;obtain⟨xs,m,rfl,rfl,hlen,hxs,hf⟩:=DataW.trod_struct Tryz.underlying51 h;rw[show Tryz.prog.cellsOf 51=4 by kernel_rfl]at hlen
 match cs,hlen with
 | [a,b,c,e],_=>
  have hx2:xs.length=4:=hxs
  match xs,hx2 with
  | [x0,x1,x2,x3],_=>
  have f0:DataW.trod enc Tryz.prog w base spare held m 3 [a]=some x0:=hf 0 _ rfl;have f1:DataW.trod enc Tryz.prog w base spare held m 3 [b]=some x1:=hf 1 _ rfl;have f2:DataW.trod enc Tryz.prog w base spare held m 9 [c]=some x2:=hf 2 _ rfl;have f3:DataW.trod enc Tryz.prog w base spare held m 49 [e]=some x3:=hf 3 _ rfl;obtain⟨o,g0,k0⟩:=d9 Tryz.underlying3 f0;obtain⟨q,g1,k1⟩:=d9 Tryz.underlying3 f1;obtain⟨s,g2,k2⟩:=gC Tryz.underlying9 f2;obtain⟨l,v',g3,k3,hb⟩:=cS (k:=4) Tryz.underlying49 (by kernel_rfl) (by decide) dex (fun a=>by rw[cv];rfl) (fun e d=>5*aW e≤Rows.uptoBulk d) f3 (fun n' hn cs' y hy=>ih n' (by omega) hy);cases g0;cases g1;cases g2;cases g3;refine⟨.mk o q s l,by rw[cv];exact .cons (.lit _ k0) (.cons (.lit _ k1) (.cons (.lit _ k2) (.cons k3 .nil))),?_⟩;have hb':=dG (fun e=>5*aW e) hb;rw[←pw]at hb'
  have b0:=ez x0.1;have b1:=ez x1.1;have b2:=ez x2.1;simp only[aW,List.map_cons,List.map_nil,Rows.uptoBulk,Rows.uptoBulkAll];omega
set_option maxRecDepth 100000 in
theorem uc(n:Nat){cs:List Value}{y:DataW H×List MemPlace}(h:DataW.trod enc Tryz.prog w base spare held n 45 cs=some y):∃e:Wt,eU (mem w) (dwt e) cs:=by
 obtain⟨xs,m,rfl,rfl,hlen,hxs,hf⟩:=DataW.trod_struct Tryz.underlying45 h;rw[show Tryz.prog.cellsOf 45=4 by kernel_rfl]at hlen
 match cs,hlen with
 | [a,b,c,e],_=>
  have hx2:xs.length=4:=hxs
  match xs,hx2 with
  | [x0,x1,x2,x3],_=>
  have f0:DataW.trod enc Tryz.prog w base spare held m 3 [a]=some x0:=hf 0 _ rfl;have f1:DataW.trod enc Tryz.prog w base spare held m 3 [b]=some x1:=hf 1 _ rfl;have f2:DataW.trod enc Tryz.prog w base spare held m 3 [c]=some x2:=hf 2 _ rfl;have f3:DataW.trod enc Tryz.prog w base spare held m 4 [e]=some x3:=hf 3 _ rfl;obtain⟨o,g0,k0⟩:=d9 Tryz.underlying3 f0;obtain⟨q,g1,k1⟩:=d9 Tryz.underlying3 f1;obtain⟨r,g2,k2⟩:=d9 Tryz.underlying3 f2;obtain⟨b,g3⟩:=pF Tryz.underlying4 f3;cases g0;cases g1;cases g2;cases g3;exact⟨⟨o,q,r,b⟩,.cons (.lit _ k0) (.cons (.lit _ k1) (.cons (.lit _ k2) (.cons (.lit _ trivial) .nil)))⟩
theorem lc(n:Nat){cs:List Value}{y:DataW H×List MemPlace}(h:DataW.trod enc Tryz.prog w base spare held n 43 cs=some y):∃(l:List ByteArray) (v:Value),cs=[v]∧DRep (mem w) (cx l) v∧l.length+1≤Rows.uptoBulk y.1:=by
 obtain⟨l,v',g3,k3,hb⟩:=cS (k:=1) Tryz.underlying43 (by kernel_rfl) (by decide) (fun s:ByteArray=>[am s]) (fun a=>rfl) (fun _ d=>1≤Rows.uptoBulk d) h (fun n' hn cs' y hy=>by
  obtain⟨s,rfl,k⟩:=gC Tryz.underlying9 hy;exact⟨s,.cons (.lit _ k) .nil,ez _⟩)
 have hb':=dG (fun _:ByteArray=>1) hb;rw[←nh]at hb';exact⟨l,v',g3,k3,hb'⟩
set_option maxRecDepth 100000 in
theorem wJ:∀(n:Nat) {cs:List Value} {y:DataW H×List MemPlace},DataW.trod enc Tryz.prog w base spare held n 53 cs=some y→∃s:It,eU (mem w) (dit s) cs∧eY s≤Rows.uptoBulk y.1:=by
 intro n
 induction n using Nat.strongRecOn with
 | _ n ih=>
 intro cs y h;obtain⟨xs,m,rfl,rfl,hlen,hxs,hf⟩:=DataW.trod_struct Tryz.underlying53 h;rw[show Tryz.prog.cellsOf 53=12 by kernel_rfl]at hlen
 match cs,hlen with
 | [a,e0,e1,e2,e3,nm,ix,ws,it,el,bf,af],_=>
  have hx2:xs.length=9:=hxs
  match xs,hx2 with
  | [x0,x1,x2,x3,x4,x5,x6,x7,x8],_=>
  have f0:DataW.trod enc Tryz.prog w base spare held m 3 [a]=some x0:=hf 0 _ rfl
  have f1:DataW.trod enc Tryz.prog w base spare held m 51 [e0,e1,e2,e3]=some x1:=by
   have:=hf 1 _ rfl;change DataW.trod enc Tryz.prog w base spare held m 51 (([a,e0,e1,e2,e3,nm,ix,ws,it,el,bf,af].drop 1).take (Tryz.prog.cellsOf 51))=some x1 at this;rw[show Tryz.prog.cellsOf 51=4 by kernel_rfl]at this;exact this
  have f2:DataW.trod enc Tryz.prog w base spare held m 9 [nm]=some x2:=hf 2 _ rfl;have f3:DataW.trod enc Tryz.prog w base spare held m 9 [ix]=some x3:=hf 3 _ rfl;have f4:DataW.trod enc Tryz.prog w base spare held m 22 [ws]=some x4:=hf 4 _ rfl;have f5:DataW.trod enc Tryz.prog w base spare held m 33 [it]=some x5:=hf 5 _ rfl;have f6:DataW.trod enc Tryz.prog w base spare held m 33 [el]=some x6:=hf 6 _ rfl;have f7:DataW.trod enc Tryz.prog w base spare held m 43 [bf]=some x7:=hf 7 _ rfl;have f8:DataW.trod enc Tryz.prog w base spare held m 43 [af]=some x8:=hf 8 _ rfl;obtain⟨o,g0,k0⟩:=d9 Tryz.underlying3 f0;obtain⟨e,k1,h1⟩:=uU m f1;obtain⟨s2,g2,k2⟩:=gC Tryz.underlying9 f2;obtain⟨s3,g3,k3⟩:=gC Tryz.underlying9 f3
  obtain⟨l4,v4,g4,k4,hb4⟩:=cS (k:=4) Tryz.underlying22 (by kernel_rfl) (by decide) dwt (fun a=>rfl) (fun _ d=>1≤Rows.uptoBulk d) f4 (fun n' hn cs' y hy=>by
   obtain⟨q,hq⟩:=uc n' hy;exact⟨q,hq,ez _⟩)
  obtain⟨l5,v5,g5,k5,hb5⟩:=cS (k:=12) Tryz.underlying33 (by kernel_rfl) (by decide) dit jL (fun e d=>eY e≤Rows.uptoBulk d) f5 (fun n' hn cs' y hy=>ih n' (by omega) hy);obtain⟨l6,v6,g6,k6,hb6⟩:=cS (k:=12) Tryz.underlying33 (by kernel_rfl) (by decide) dit jL (fun e d=>eY e≤Rows.uptoBulk d) f6 (fun n' hn cs' y hy=>ih n' (by omega) hy);obtain⟨l7,v7,g7,k7,h7⟩:=lc m f7;obtain⟨l8,v8,g8,k8,h8⟩:=lc m f8;cases g0;cases g2;cases g3;cases g4;cases g5;cases g6;cases g7;cases g8;refine⟨.mk o e s2 s3 l4 l5 l6 l7 l8,?_,?_⟩
  ·rw[ei];rw[cv]at k1;exact .cons (.lit _ k0) (k1.append (.cons (.lit _ k2) (.cons (.lit _ k3) (.cons k4 (.cons k5 (.cons k6 (.cons k7 (.cons k8 .nil))))))))
  ·have b4:=dG (fun _:Wt=>1) hb4;rw[←nh]at b4;have b5:=dG eY hb5;have b6:=dG eY hb6;rw[←lK]at b5 b6;have b0:=ez x0.1;have b2:=ez x2.1;rw[cm];simp only[BZ,AX,AC,zq,vD,Ae,List.map_cons,List.map_nil,Rows.uptoBulk,Rows.uptoBulkAll];omega
theorem ry(n:Nat){cs:List Value}{y:DataW H×List MemPlace}(h:DataW.trod enc Tryz.prog w base spare held n 33 cs=some y):∃(l:List It) (v:Value),cs=[v]∧DRep (mem w) (dv l) v∧bq l+1≤Rows.uptoBulk y.1:=by
 obtain⟨l,v',g3,k3,hb⟩:=cS (k:=12) Tryz.underlying33 (by kernel_rfl) (by decide) dit jL (fun e d=>eY e≤Rows.uptoBulk d) h (fun n' hn cs' y hy=>wJ n' hy);have hb':=dG eY hb;rw[←lK]at hb';exact⟨l,v',g3,k3,hb'⟩
set_option maxRecDepth 100000 in
theorem nx(h:DataW.Trod enc Tryz.prog w base spare held 33 v d p)(hv:Value.okWide Tryz.prog w .any base 33 v):∃l:List It,DRep (mem w) (dv l) v∧bq l+1≤Rows.uptoBulk d:=by
 obtain⟨a,len,cap,rfl⟩:=okWide_slice Tryz.underlying33 hv;obtain⟨fuel,hf⟩:=h;obtain⟨l,v',h1,h2,h3⟩:=ry (cs:=[.slice a len cap]) fuel hf;cases h1;exact⟨l,h2,h3⟩
theorem zy{n:Int}(h:bP (.int .u8 n)):0≤n∧n<256:=by
 simp only[bP,IntKind.min,IntKind.max,IntKind.signed,IntKind.bits]at h;simp at h;omega
set_option maxRecDepth 100000 in
theorem yu(h:DataW.Trod enc Tryz.prog w base spare held 5 v d p)(hv:Value.okWide Tryz.prog w .any base 5 v):∃n:Int,DRep (mem w) (.lit (.int .u8 n)) v∧0≤n∧n<256:=by
 obtain⟨m,rfl⟩:=okWide_int Tryz.underlying5 hv;obtain⟨fuel,hf⟩:=h;obtain⟨n,hn,-,w0⟩:=DataW.trod_int (cs:=[_]) Tryz.underlying5 hf;cases hn;have k0:bP (.int .u8 m):=by simpa[bP,Lit.wf,IntKind.min,IntKind.max,IntKind.signed,IntKind.bits]using w0
 exact⟨_,.lit _ k0,zy k0⟩
end
end Go.Proofs.YtcbahpllcfbkmaaGreatDoor
namespace Go.Proofs.YtcbahpllcfbkmaaGreatDoor
open Go.RowKit
theorem CB:vex qp=.agg [.d (ay 0),.d (ay 0),.d (am ⟨#[]⟩),.d (.sl [])]:=by rw[a6];rfl
end Go.Proofs.YtcbahpllcfbkmaaGreatDoor
