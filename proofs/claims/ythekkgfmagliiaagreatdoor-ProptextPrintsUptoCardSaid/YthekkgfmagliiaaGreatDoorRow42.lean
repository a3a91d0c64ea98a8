import Derived.Test.YthekkgfmagliiaaGreatDoorLaid7
import Derived.ChangeSame
import Derived.ChangeVars
import Derived.JoinedOf
import Derived.RowKit
import Derived.RowKitTokens
import Derived.LaidLaws
import Derived.ChangeOld
import Derived.Below
import Derived.OpenShut
import Derived.WalkKit
import Derived.ProofKit
import Derived.Deep.DeepHandedRow
import Derived.Deep.DeepWitnessRowRef
set_option linter.unusedVariables false
set_option linter.unusedSimpArgs false
set_option linter.unusedSectionVars false
namespace Go.Proofs.YthekkgfmagliiaaGreatDoor
open Go.ChangeShapes Go.WideShapes Go.RowKit
set_option maxRecDepth 100000
theorem Tryz.own:ownKnob Tryz.prog.godebug=none:=by kernel_rfl
theorem Tryz.laidOut:laidOutB Tryz.prog=true:=by kernel_rfl
def fo(w:World)(g:Nat)(cs:Array Value):World:=
 {w with heap:=w.heap.modify g fun
   | .cells _ t frozen=>.cells cs t frozen
   | o=>o}
noncomputable def jY(os:Os):World:=
 let w0:=World.holding Tryz.prog os ⟨#[],#[],[]⟩;let n:=w0.heap.size;let w1:=(((w0.alloc (.cells (cm.map Value.string).toArray 9)).alloc (.cells (oA.map Value.string).toArray 9)).alloc (.cells #[.string ⟨#[118,97,108,117,101,32,111,117,116,32,111,102,32,114,97,110,103,101]⟩] 212)).alloc (.cells #[.string ⟨#[105,110,118,97,108,105,100,32,115,121,110,116,97,120]⟩] 212);let w2:=fo w1 0 #[.slice (some ⟨n,0,none⟩) 24 24];let w3:=fo w2 1 #[.slice (some ⟨n+1,0,none⟩) 36 36];let w4:=fo w3 5 #[.iface 210 (.pointer (some ⟨n+2,0,none⟩))];let w5:=fo w4 4 #[.iface 210 (.pointer (some ⟨n+3,0,none⟩))];let w6:=fo w5 3 (Lib.pow10Tab.map fun z=>Value.int .u64 z).toArray;let w7:=fo w6 6 (([0,1,28,2,29,14,24,3,30,22,20,15,25,17,4,8,31,27,13,23,21,19,16,7,26,12,18,6,11,5,10,9]:List Int).map fun z=>Value.int .u8 z).toArray
 fo w7 7 (([0,1,56,2,57,49,28,3,61,58,42,50,38,29,17,4,62,47,59,36,45,43,51,22,53,39,33,30,24,18,12,5,63,55,48,27,60,41,37,16,46,35,44,21,52,32,23,11,54,26,40,15,34,20,31,10,25,14,19,9,13,8,7,6]:List Int).map fun z=>Value.int .u8 z).toArray
theorem mY(os:Os)(args:Array Value):laidMet Tryz.prog og ((jY os).forCall (fun _ _=>0) ⟨#[],args,[]⟩).memory:=
 laidMet_of_run' 8 (by kernel_rfl) (by kernel_rfl)
theorem Ext.below{w w':World}(h:Ext w w'):Below w.heap.size w w':=⟨h.os,h.tape,h.output,h.size,h.block⟩
theorem mc{H:Type}{enc:TypeId×Value→H}{w:World}{t:TypeId}{v:Value}{d:DataW H}{p:List MemPlace}{base:Nat}{spare:Nat→Bool}{held:Bool}(h:DataW.Trod enc Tryz.prog w base spare held t v d p):∀x∈p,x.block<w.heap.size:=by
 obtain⟨m,hm⟩:=h;exact DataW.trod_lt m _ _ _ hm
section
variable {H : Type} {enc : TypeId × Value → H} {w : World} {v : Value} {d : DataW H} {p : List MemPlace} {base : Nat} {spare : Nat → Bool} {held : Bool}
instance:Inhabited Tok:=⟨⟨0,0,⟨#[]⟩,0⟩⟩
end
end Go.Proofs.YthekkgfmagliiaaGreatDoor
namespace Go.Proofs.YthekkgfmagliiaaGreatDoor
open Go.ChangeShapes Go.WideShapes Go.ChangeAt Go.RowKit
def rr:Array Value := #[.string ⟨#[]⟩,.bool false,.bool false,.int .i64 0,.int .i64 0,.int .i64 0,.int .i64 0,.int .i64 0,.string ⟨#[]⟩,.slice none 0 0,.string ⟨#[]⟩,.slice none 0 0,.int .i64 0,.int .i64 0,.int .i64 0,.int .i64 0,.int .i64 0,.string ⟨#[]⟩,.slice none 0 0,.string ⟨#[]⟩,.slice none 0 0]
instance:Inhabited Ex:=⟨.mk 0 0 ⟨#[]⟩ []⟩
instance:Inhabited Ts:=⟨.mk 0 0 0 (.mk 0 0 ⟨#[]⟩ []) ⟨#[]⟩ []⟩
instance:Inhabited Pr:=⟨zPr⟩
def re:Array Value := #[.int .i64 0,.int .i64 0,.int .i64 0,.int .i64 0,.int .i64 0,.string ⟨#[]⟩,.slice none 0 0,.string ⟨#[]⟩,.slice none 0 0]
theorem fj{H:Type}(d:DataW H):1≤Rows.uptoBulk d:=by
 cases d with
 | lit l=>cases l<;>simp[Rows.uptoBulk]
 | nil=>simp[Rows.uptoBulk]
 | ptr d=>simp[Rows.uptoBulk]
 | slice elems spare=>simp[Rows.uptoBulk]
 | agg parts=>simp[Rows.uptoBulk]
 | iface t d=>simp[Rows.uptoBulk]
 | map entries=>simp[Rows.uptoBulk]
 | held h=>simp[Rows.uptoBulk]
theorem qD{H:Type}{α:Type}(g:α→Nat):∀(l:List α) (es:List (DataW H)),es.length=l.length→(∀i (h:i<l.length) (h':i<es.length),5*g l[i]≤Rows.uptoBulk es[i])→5*(l.map g).sum≤Rows.uptoBulkAll es
 | [],es,_,_=>by simp
 | a::r,e::es,hl,h=>by
  have h1:=h 0 (by simp) (by simp);have h2:=qD g r es (by simpa using hl) (fun i g1 g2=>h (i+1) (by simpa using g1) (by simpa using g2));simp only[List.getElem_cons_zero]at h1;simp only[List.map_cons,List.sum_cons,Rows.uptoBulkAll];omega
theorem mG{H:Type}{α:Type}(g:α→Nat){l:List α}{d:DataW H}(h:(d=.nil∧l=[])∨∃elems rest:List (DataW H),d=.slice elems rest∧elems.length=l.length∧∀i (h:i<l.length) (h':i<elems.length),5*g l[i]≤Rows.uptoBulk elems[i]):5*(l.map g).sum+1≤Rows.uptoBulk d:=by
 rcases h with⟨rfl,rfl⟩|⟨es,rest,rfl,h1,h2⟩
 ·simp[Rows.uptoBulk]
 ·have:=qD g l es h1 h2;simp only[Rows.uptoBulk];omega
theorem rJ(l:List Ex):bF l=(l.map ba).sum:=by
 induction l with
 | nil=>rfl
 | cons a r ih=>simp only[bF,ih,List.map_cons,List.sum_cons]
theorem tJ(l:List Ts):cQ l=(l.map bC).sum:=by
 induction l with
 | nil=>rfl
 | cons a r ih=>simp only[cQ,ih,List.map_cons,List.sum_cons]
section
variable {H : Type} {enc : TypeId × Value → H} {w : World} {v : Value} {d : DataW H} {p : List MemPlace} {base : Nat} {spare : Nat → Bool} {held : Bool}
set_option maxRecDepth 100000 in
theorem yZ:∀(n:Nat) {cs:List Value} {y:DataW H×List MemPlace},DataW.trod enc Tryz.prog w base spare held n 24 cs=some y→∃e:Ex,eI (mem w) (dex e) cs∧5*ba e≤Rows.uptoBulk y.1:=by
 intro n
 induction n using Nat.strongRecOn with
 | _ n ih=>
 intro cs y h;obtain⟨xs,m,rfl,rfl,hlen,hxs,hf⟩:=DataW.trod_struct Tryz.underlying24 h;rw[show Tryz.prog.cellsOf 24=4 by kernel_rfl]at hlen
 match cs,hlen with
 | [a,b,c,e],_=>
  have hx2:xs.length=4:=hxs
  match xs,hx2 with
  | [x0,x1,x2,x3],_=>
  have f0:DataW.trod enc Tryz.prog w base spare held m 3 [a]=some x0:=hf 0 _ rfl;have f1:DataW.trod enc Tryz.prog w base spare held m 3 [b]=some x1:=hf 1 _ rfl;have f2:DataW.trod enc Tryz.prog w base spare held m 9 [c]=some x2:=hf 2 _ rfl;have f3:DataW.trod enc Tryz.prog w base spare held m 22 [e]=some x3:=hf 3 _ rfl;obtain⟨o,g0,k0⟩:=fO Tryz.underlying3 f0;obtain⟨q,g1,k1⟩:=fO Tryz.underlying3 f1;obtain⟨s,g2,k2⟩:=jC Tryz.underlying9 f2;obtain⟨l,v',g3,k3,hb⟩:=jd (k:=4) Tryz.underlying22 (by kernel_rfl) (by decide) dex (fun a=>by rw[bv];rfl) (fun e d=>5*ba e≤Rows.uptoBulk d) f3 (fun n' hn cs' y hy=>ih n' (by omega) hy);cases g0;cases g1;cases g2;cases g3;refine⟨.mk o q s l,by rw[bv];exact .cons (.lit _ k0) (.cons (.lit _ k1) (.cons (.lit _ k2) (.cons k3 .nil))),?_⟩;have hb':=mG ba hb;have b0:=fj x0.1;have b1:=fj x1.1
  have b2:=fj x2.1;simp only[ba,rJ,List.map_cons,List.map_nil,Rows.uptoBulk,Rows.uptoBulkAll];omega
set_option maxRecDepth 100000 in
theorem me:∀(n:Nat) {cs:List Value} {y:DataW H×List MemPlace},DataW.trod enc Tryz.prog w base spare held n 27 cs=some y→∃s:Ts,eI (mem w) (dts s) cs∧5*bC s≤Rows.uptoBulk y.1:=by
 intro n
 induction n using Nat.strongRecOn with
 | _ n ih=>
 intro cs y h;obtain⟨xs,m,rfl,rfl,hlen,hxs,hf⟩:=DataW.trod_struct Tryz.underlying27 h;rw[show Tryz.prog.cellsOf 27=9 by kernel_rfl]at hlen
 match cs,hlen with
 | [a,b,c,e0,e1,e2,e3,nm,ar],_=>
  have hx2:xs.length=6:=hxs
  match xs,hx2 with
  | [x0,x1,x2,x3,x4,x5],_=>
  have f0:DataW.trod enc Tryz.prog w base spare held m 3 [a]=some x0:=hf 0 _ rfl;have f1:DataW.trod enc Tryz.prog w base spare held m 3 [b]=some x1:=hf 1 _ rfl;have f2:DataW.trod enc Tryz.prog w base spare held m 3 [c]=some x2:=hf 2 _ rfl
  have f3:DataW.trod enc Tryz.prog w base spare held m 24 [e0,e1,e2,e3]=some x3:=by
   have:=hf 3 _ rfl;change DataW.trod enc Tryz.prog w base spare held m 24 (([a,b,c,e0,e1,e2,e3,nm,ar].drop 3).take (Tryz.prog.cellsOf 24))=some x3 at this;rw[show Tryz.prog.cellsOf 24=4 by kernel_rfl]at this;exact this
  have f4:DataW.trod enc Tryz.prog w base spare held m 9 [nm]=some x4:=hf 4 _ rfl;have f5:DataW.trod enc Tryz.prog w base spare held m 25 [ar]=some x5:=hf 5 _ rfl;obtain⟨o,g0,k0⟩:=fO Tryz.underlying3 f0;obtain⟨lo,g1,k1⟩:=fO Tryz.underlying3 f1;obtain⟨hi,g2,k2⟩:=fO Tryz.underlying3 f2;obtain⟨e,k3,h3⟩:=yZ m f3;obtain⟨s,g4,k4⟩:=jC Tryz.underlying9 f4;obtain⟨l,v',g5,k5,hb⟩:=jd (k:=9) Tryz.underlying25 (by kernel_rfl) (by decide) dts li (fun e d=>5*bC e≤Rows.uptoBulk d) f5 (fun n' hn cs' y hy=>ih n' (by omega) hy);cases g0;cases g1;cases g2;cases g4;cases g5;refine⟨.mk o lo hi e s l,?_,?_⟩
  ·rw[aW];rw[bv]at k3;exact .cons (.lit _ k0) (.cons (.lit _ k1) (.cons (.lit _ k2) (k3.append (.cons (.lit _ k4) (.cons k5 .nil)))))
  ·have hb':=mG bC hb;have b0:=fj x0.1;have b1:=fj x1.1;have b2:=fj x2.1;have b4:=fj x4.1;rw[dJ];simp only[Ts.ex,Ts.args,tJ,List.map_cons,List.map_nil,Rows.uptoBulk,Rows.uptoBulkAll];omega
set_option maxRecDepth 100000 in
theorem Bo(h:DataW.Trod enc Tryz.prog w base spare held 27 v d p)(hv:Value.okWide Tryz.prog w .any base 27 v):∃s:Ts,Rep (mem w) [] (vts s) v∧5*bC s≤Rows.uptoBulk d:=by
 obtain⟨fuel,hf⟩:=h;obtain⟨s,h1,h2⟩:=me fuel hf;obtain⟨cs,rfl,-⟩:=okWide_struct Tryz.underlying27 hv;have h3:=h1.rep (bm:=[]);exact⟨s,by simpa[vts,Value.cells]using h3,h2⟩
set_option maxRecDepth 100000 in
theorem xJ(n:Nat){cs:List Value}{y:DataW H×List MemPlace}(h:DataW.trod enc Tryz.prog w base spare held n 29 cs=some y):∃p:Pr,eI (mem w) (dpr p) cs∧5*(bC p.cond+bC p.then_)≤Rows.uptoBulk y.1:=by
 obtain⟨xs,m,rfl,rfl,hlen,hxs,hf⟩:=DataW.trod_struct Tryz.underlying29 h;rw[show Tryz.prog.cellsOf 29=21 by kernel_rfl]at hlen
 match cs,hlen with
 | [a,b,c,e0,e1,e2,e3,e4,e5,e6,e7,e8,g0,g1,g2,g3,g4,g5,g6,g7,g8],_=>
  have hx2:xs.length=5:=hxs
  match xs,hx2 with
  | [x0,x1,x2,x3,x4],_=>
  have f0:DataW.trod enc Tryz.prog w base spare held m 9 [a]=some x0:=hf 0 _ rfl;have f1:DataW.trod enc Tryz.prog w base spare held m 4 [b]=some x1:=hf 1 _ rfl;have f2:DataW.trod enc Tryz.prog w base spare held m 4 [c]=some x2:=hf 2 _ rfl
  have f3:DataW.trod enc Tryz.prog w base spare held m 27 [e0,e1,e2,e3,e4,e5,e6,e7,e8]=some x3:=by
   have:=hf 3 _ rfl;change DataW.trod enc Tryz.prog w base spare held m 27 (([a,b,c,e0,e1,e2,e3,e4,e5,e6,e7,e8,g0,g1,g2,g3,g4,g5,g6,g7,g8].drop 3).take (Tryz.prog.cellsOf 27))=some x3 at this;rw[show Tryz.prog.cellsOf 27=9 by kernel_rfl]at this;exact this
  have f4:DataW.trod enc Tryz.prog w base spare held m 27 [g0,g1,g2,g3,g4,g5,g6,g7,g8]=some x4:=by
   have:=hf 4 _ rfl;change DataW.trod enc Tryz.prog w base spare held m 27 (([a,b,c,e0,e1,e2,e3,e4,e5,e6,e7,e8,g0,g1,g2,g3,g4,g5,g6,g7,g8].drop 12).take (Tryz.prog.cellsOf 27))=some x4 at this;rw[show Tryz.prog.cellsOf 27=9 by kernel_rfl]at this;exact this
  obtain⟨s,q0,k0⟩:=jC Tryz.underlying9 f0;obtain⟨b1,q1⟩:=lO Tryz.underlying4 f1;obtain⟨b2,q2⟩:=lO Tryz.underlying4 f2;obtain⟨t1,k3,h3⟩:=me m f3;obtain⟨t2,k4,h4⟩:=me m f4;cases q0;cases q1;cases q2;refine⟨⟨s,b1,b2,t1,t2⟩,.cons (.lit _ k0) (.cons (.lit _ trivial) (.cons (.lit _ trivial) (k3.append k4))),?_⟩;simp only[List.map_cons,List.map_nil,Rows.uptoBulk,Rows.uptoBulkAll];omega
set_option maxRecDepth 100000 in
theorem Bg(h:DataW.Trod enc Tryz.prog w base spare held 29 v d p)(hv:Value.okWide Tryz.prog w .any base 29 v):∃s:Pr,Rep (mem w) [] (vpr s) v∧5*(bC s.cond+bC s.then_)≤Rows.uptoBulk d:=by
 obtain⟨fuel,hf⟩:=h;obtain⟨s,h1,h2⟩:=xJ fuel hf;obtain⟨cs,rfl,-⟩:=okWide_struct Tryz.underlying29 hv;have h3:=h1.rep (bm:=[]);exact⟨s,by simpa[vpr,Value.cells]using h3,h2⟩
end
end Go.Proofs.YthekkgfmagliiaaGreatDoor
