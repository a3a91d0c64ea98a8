import Derived.Test.YthekkgfmagliiaaGreatDoorLaid7
import Derived.ChangeSame
import Derived.ChangeVars
import Derived.JoinedOf
import Derived.RowKit
import Derived.RowKitTokens
import Derived.LaidLaws
import Derived.ChangeOld
import Derived.Below
import Derived.OpenShut
import Derived.Test.YthekkgfmagliiaaGreatDoorQw1
import Derived.WalkKit
import Derived.ProofKit
import Derived.Deep.DeepHandedRow
import Derived.Deep.DeepWitnessRowRef
set_option linter.unusedVariables false
set_option linter.unusedSimpArgs false
set_option linter.unusedSectionVars false
namespace Go.Proofs.YthekkgfmagliiaaGreatDoor
open Go.ChangeShapes Go.WideShapes Go.RowKit
set_option maxRecDepth 100000
theorem Tryz.own:ownKnob Tryz.prog.godebug=none:=by kernel_rfl
theorem Tryz.laidOut:laidOutB Tryz.prog=true:=by kernel_rfl
def gu(w:World)(g:Nat)(cs:Array Value):World:=
 {w with heap:=w.heap.modify g fun
   | .cells _ t frozen=>.cells cs t frozen
   | o=>o}
noncomputable def mH(os:Os):World:=
 let w0:=World.holding Tryz.prog os ⟨#[],#[],[]⟩;let n:=w0.heap.size;let w1:=(((w0.alloc (.cells (dx.map Value.string).toArray 9)).alloc (.cells (rI.map Value.string).toArray 9)).alloc (.cells #[.string ⟨#[118,97,108,117,101,32,111,117,116,32,111,102,32,114,97,110,103,101]⟩] 212)).alloc (.cells #[.string ⟨#[105,110,118,97,108,105,100,32,115,121,110,116,97,120]⟩] 212);let w2:=gu w1 0 #[.slice (some ⟨n,0,none⟩) 24 24];let w3:=gu w2 1 #[.slice (some ⟨n+1,0,none⟩) 36 36];let w4:=gu w3 5 #[.iface 210 (.pointer (some ⟨n+2,0,none⟩))];let w5:=gu w4 4 #[.iface 210 (.pointer (some ⟨n+3,0,none⟩))];let w6:=gu w5 3 (Lib.pow10Tab.map fun z=>Value.int .u64 z).toArray;let w7:=gu w6 6 (([0,1,28,2,29,14,24,3,30,22,20,15,25,17,4,8,31,27,13,23,21,19,16,7,26,12,18,6,11,5,10,9]:List Int).map fun z=>Value.int .u8 z).toArray
 gu w7 7 (([0,1,56,2,57,49,28,3,61,58,42,50,38,29,17,4,62,47,59,36,45,43,51,22,53,39,33,30,24,18,12,5,63,55,48,27,60,41,37,16,46,35,44,21,52,32,23,11,54,26,40,15,34,20,31,10,25,14,19,9,13,8,7,6]:List Int).map fun z=>Value.int .u8 z).toArray
theorem qb(os:Os)(args:Array Value):laidMet Tryz.prog rO ((mH os).forCall (fun _ _=>0) ⟨#[],args,[]⟩).memory:=
 laidMet_of_run' 8 (by kernel_rfl) (by kernel_rfl)
theorem Ext.below{w w':World}(h:Ext w w'):Below w.heap.size w w':=⟨h.os,h.tape,h.output,h.size,h.block⟩
theorem ou{H:Type}{enc:TypeId×Value→H}{w:World}{t:TypeId}{v:Value}{d:DataW H}{p:List MemPlace}{base:Nat}{spare:Nat→Bool}{held:Bool}(h:DataW.Trod enc Tryz.prog w base spare held t v d p):∀x∈p,x.block<w.heap.size:=by
 obtain⟨m,hm⟩:=h;exact DataW.trod_lt m _ _ _ hm
section
variable {H : Type} {enc : TypeId × Value → H} {w : World} {v : Value} {d : DataW H} {p : List MemPlace} {base : Nat} {spare : Nat → Bool} {held : Bool}
instance:Inhabited Tok:=⟨⟨0,0,⟨#[]⟩,0⟩⟩
end
end Go.Proofs.YthekkgfmagliiaaGreatDoor
namespace Go.Proofs.YthekkgfmagliiaaGreatDoor
open Go.ChangeShapes Go.WideShapes Go.ChangeAt Go.RowKit
def ml:Array Value := #[.string ⟨#[]⟩,.bool false,.bool false,.int .i64 0,.int .i64 0,.int .i64 0,.int .i64 0,.int .i64 0,.string ⟨#[]⟩,.slice none 0 0,.string ⟨#[]⟩,.slice none 0 0,.int .i64 0,.int .i64 0,.int .i64 0,.int .i64 0,.int .i64 0,.string ⟨#[]⟩,.slice none 0 0,.string ⟨#[]⟩,.slice none 0 0]
instance:Inhabited Ex:=⟨.mk 0 0 ⟨#[]⟩ []⟩
instance:Inhabited Ts:=⟨.mk 0 0 0 (.mk 0 0 ⟨#[]⟩ []) ⟨#[]⟩ []⟩
instance:Inhabited Pr:=⟨zPr⟩
theorem gw{H:Type}(d:DataW H):1≤Rows.uptoBulk d:=by
 cases d with
 | lit l=>cases l<;>simp[Rows.uptoBulk]
 | nil=>simp[Rows.uptoBulk]
 | ptr d=>simp[Rows.uptoBulk]
 | slice elems spare=>simp[Rows.uptoBulk]
 | agg parts=>simp[Rows.uptoBulk]
 | iface t d=>simp[Rows.uptoBulk]
 | map entries=>simp[Rows.uptoBulk]
 | held h=>simp[Rows.uptoBulk]
theorem uD{H:Type}{α:Type}(g:α→Nat):∀(l:List α) (es:List (DataW H)),es.length=l.length→(∀i (h:i<l.length) (h':i<es.length),5*g l[i]≤Rows.uptoBulk es[i])→5*(l.map g).sum≤Rows.uptoBulkAll es
 | [],es,_,_=>by simp
 | a::r,e::es,hl,h=>by
  have h1:=h 0 (by simp) (by simp);have h2:=uD g r es (by simpa using hl) (fun i g1 g2=>h (i+1) (by simpa using g1) (by simpa using g2));simp only[List.getElem_cons_zero]at h1;simp only[List.map_cons,List.sum_cons,Rows.uptoBulkAll];omega
theorem pw{H:Type}{α:Type}(g:α→Nat){l:List α}{d:DataW H}(h:(d=.nil∧l=[])∨∃elems rest:List (DataW H),d=.slice elems rest∧elems.length=l.length∧∀i (h:i<l.length) (h':i<elems.length),5*g l[i]≤Rows.uptoBulk elems[i]):5*(l.map g).sum+1≤Rows.uptoBulk d:=by
 rcases h with⟨rfl,rfl⟩|⟨es,rest,rfl,h1,h2⟩
 ·simp[Rows.uptoBulk]
 ·have:=uD g l es h1 h2;simp only[Rows.uptoBulk];omega
theorem v6(l:List Ex):aV l=(l.map aQ).sum:=by
 induction l with
 | nil=>rfl
 | cons a r ih=>simp only[aV,ih,List.map_cons,List.sum_cons]
theorem An(l:List Ts):bM l=(l.map bq).sum:=by
 induction l with
 | nil=>rfl
 | cons a r ih=>simp only[bM,ih,List.map_cons,List.sum_cons]
section
variable {H : Type} {enc : TypeId × Value → H} {w : World} {v : Value} {d : DataW H} {p : List MemPlace} {base : Nat} {spare : Nat → Bool} {held : Bool}
set_option maxRecDepth 100000 in
theorem DA:∀(n:Nat) {cs:List Value} {y:DataW H×List MemPlace},DataW.trod enc Tryz.prog w base spare held n 24 cs=some y→∃e:Ex,fY (mem w) (dex e) cs∧5*aQ e≤Rows.uptoBulk y.1:=by
 intro n
 induction n using Nat.strongRecOn with
 | _ n ih=>
 intro cs y h;obtain⟨xs,m,rfl,rfl,hlen,hxs,hf⟩:=DataW.trod_struct Tryz.underlying24 h;rw[show Tryz.prog.cellsOf 24=4 by kernel_rfl]at hlen
 match cs,hlen with
 | [a,b,c,e],_=>
  have hx2:xs.length=4:=hxs
  match xs,hx2 with
  | [x0,x1,x2,x3],_=>
  have f0:DataW.trod enc Tryz.prog w base spare held m 3 [a]=some x0:=hf 0 _ rfl;have f1:DataW.trod enc Tryz.prog w base spare held m 3 [b]=some x1:=hf 1 _ rfl;have f2:DataW.trod enc Tryz.prog w base spare held m 9 [c]=some x2:=hf 2 _ rfl;have f3:DataW.trod enc Tryz.prog w base spare held m 22 [e]=some x3:=hf 3 _ rfl;obtain⟨o,g0,k0⟩:=iC Tryz.underlying3 f0;obtain⟨q,g1,k1⟩:=iC Tryz.underlying3 f1;obtain⟨s,g2,k2⟩:=mo Tryz.underlying9 f2;obtain⟨l,v',g3,k3,hb⟩:=lB (k:=4) Tryz.underlying22 (by kernel_rfl) (by decide) dex (fun a=>by rw[cS];rfl) (fun e d=>5*aQ e≤Rows.uptoBulk d) f3 (fun n' hn cs' y hy=>ih n' (by omega) hy);cases g0;cases g1;cases g2;cases g3;refine⟨.mk o q s l,by rw[cS];exact .cons (.lit _ k0) (.cons (.lit _ k1) (.cons (.lit _ k2) (.cons k3 .nil))),?_⟩;have hb':=pw aQ hb;have b0:=gw x0.1;have b1:=gw x1.1
  have b2:=gw x2.1;simp only[aQ,v6,List.map_cons,List.map_nil,Rows.uptoBulk,Rows.uptoBulkAll];omega
set_option maxRecDepth 100000 in
theorem tE:∀(n:Nat) {cs:List Value} {y:DataW H×List MemPlace},DataW.trod enc Tryz.prog w base spare held n 27 cs=some y→∃s:Ts,fY (mem w) (dts s) cs∧5*bq s≤Rows.uptoBulk y.1:=by
 intro n
 induction n using Nat.strongRecOn with
 | _ n ih=>
 intro cs y h;obtain⟨xs,m,rfl,rfl,hlen,hxs,hf⟩:=DataW.trod_struct Tryz.underlying27 h;rw[show Tryz.prog.cellsOf 27=9 by kernel_rfl]at hlen
 match cs,hlen with
 | [a,b,c,e0,e1,e2,e3,nm,ar],_=>
  have hx2:xs.length=6:=hxs
  match xs,hx2 with
  | [x0,x1,x2,x3,x4,x5],_=>
  have f0:DataW.trod enc Tryz.prog w base spare held m 3 [a]=some x0:=hf 0 _ rfl;have f1:DataW.trod enc Tryz.prog w base spare held m 3 [b]=some x1:=hf 1 _ rfl;have f2:DataW.trod enc Tryz.prog w base spare held m 3 [c]=some x2:=hf 2 _ rfl
  have f3:DataW.trod enc Tryz.prog w base spare held m 24 [e0,e1,e2,e3]=some x3:=by
   have:=hf 3 _ rfl;change DataW.trod enc Tryz.prog w base spare held m 24 (([a,b,c,e0,e1,e2,e3,nm,ar].drop 3).take (Tryz.prog.cellsOf 24))=some x3 at this;rw[show Tryz.prog.cellsOf 24=4 by kernel_rfl]at this;exact this
  have f4:DataW.trod enc Tryz.prog w base spare held m 9 [nm]=some x4:=hf 4 _ rfl;have f5:DataW.trod enc Tryz.prog w base spare held m 25 [ar]=some x5:=hf 5 _ rfl;obtain⟨o,g0,k0⟩:=iC Tryz.underlying3 f0;obtain⟨lo,g1,k1⟩:=iC Tryz.underlying3 f1;obtain⟨hi,g2,k2⟩:=iC Tryz.underlying3 f2;obtain⟨e,k3,h3⟩:=DA m f3;obtain⟨s,g4,k4⟩:=mo Tryz.underlying9 f4;obtain⟨l,v',g5,k5,hb⟩:=lB (k:=9) Tryz.underlying25 (by kernel_rfl) (by decide) dts nN (fun e d=>5*bq e≤Rows.uptoBulk d) f5 (fun n' hn cs' y hy=>ih n' (by omega) hy);cases g0;cases g1;cases g2;cases g4;cases g5;refine⟨.mk o lo hi e s l,?_,?_⟩
  ·rw[bP];rw[cS]at k3;exact .cons (.lit _ k0) (.cons (.lit _ k1) (.cons (.lit _ k2) (k3.append (.cons (.lit _ k4) (.cons k5 .nil)))))
  ·have hb':=pw bq hb;have b0:=gw x0.1;have b1:=gw x1.1;have b2:=gw x2.1;have b4:=gw x4.1;rw[fu];simp only[Ts.ex,Ts.args,An,List.map_cons,List.map_nil,Rows.uptoBulk,Rows.uptoBulkAll];omega
set_option maxRecDepth 100000 in
theorem CH(n:Nat){cs:List Value}{y:DataW H×List MemPlace}(h:DataW.trod enc Tryz.prog w base spare held n 29 cs=some y):∃p:Pr,fY (mem w) (dpr p) cs∧5*(bq p.cond+bq p.then_)≤Rows.uptoBulk y.1:=by
 obtain⟨xs,m,rfl,rfl,hlen,hxs,hf⟩:=DataW.trod_struct Tryz.underlying29 h;rw[show Tryz.prog.cellsOf 29=21 by kernel_rfl]at hlen
 match cs,hlen with
 | [a,b,c,e0,e1,e2,e3,e4,e5,e6,e7,e8,g0,g1,g2,g3,g4,g5,g6,g7,g8],_=>
  have hx2:xs.length=5:=hxs
  match xs,hx2 with
  | [x0,x1,x2,x3,x4],_=>
  have f0:DataW.trod enc Tryz.prog w base spare held m 9 [a]=some x0:=hf 0 _ rfl;have f1:DataW.trod enc Tryz.prog w base spare held m 4 [b]=some x1:=hf 1 _ rfl;have f2:DataW.trod enc Tryz.prog w base spare held m 4 [c]=some x2:=hf 2 _ rfl
  have f3:DataW.trod enc Tryz.prog w base spare held m 27 [e0,e1,e2,e3,e4,e5,e6,e7,e8]=some x3:=by
   have:=hf 3 _ rfl;change DataW.trod enc Tryz.prog w base spare held m 27 (([a,b,c,e0,e1,e2,e3,e4,e5,e6,e7,e8,g0,g1,g2,g3,g4,g5,g6,g7,g8].drop 3).take (Tryz.prog.cellsOf 27))=some x3 at this;rw[show Tryz.prog.cellsOf 27=9 by kernel_rfl]at this;exact this
  have f4:DataW.trod enc Tryz.prog w base spare held m 27 [g0,g1,g2,g3,g4,g5,g6,g7,g8]=some x4:=by
   have:=hf 4 _ rfl;change DataW.trod enc Tryz.prog w base spare held m 27 (([a,b,c,e0,e1,e2,e3,e4,e5,e6,e7,e8,g0,g1,g2,g3,g4,g5,g6,g7,g8].drop 12).take (Tryz.prog.cellsOf 27))=some x4 at this;rw[show Tryz.prog.cellsOf 27=9 by kernel_rfl]at this;exact this
  obtain⟨s,q0,k0⟩:=mo Tryz.underlying9 f0;obtain⟨b1,q1⟩:=ov Tryz.underlying4 f1;obtain⟨b2,q2⟩:=ov Tryz.underlying4 f2;obtain⟨t1,k3,h3⟩:=tE m f3;obtain⟨t2,k4,h4⟩:=tE m f4;cases q0;cases q1;cases q2;refine⟨⟨s,b1,b2,t1,t2⟩,.cons (.lit _ k0) (.cons (.lit _ trivial) (.cons (.lit _ trivial) (k3.append k4))),?_⟩;simp only[List.map_cons,List.map_nil,Rows.uptoBulk,Rows.uptoBulkAll];omega
set_option maxRecDepth 100000 in
theorem xM(h:DataW.Trod enc Tryz.prog w base spare held 29 v d p)(hv:Value.okWide Tryz.prog w .any base 29 v):∃s:Pr,Rep (mem w) [] (vpr s) v∧5*(bq s.cond+bq s.then_)≤Rows.uptoBulk d:=by
 obtain⟨fuel,hf⟩:=h;obtain⟨s,h1,h2⟩:=CH fuel hf;obtain⟨cs,rfl,-⟩:=okWide_struct Tryz.underlying29 hv;have h3:=h1.rep (bm:=[]);exact⟨s,by simpa[vpr,Value.cells]using h3,h2⟩
end
end Go.Proofs.YthekkgfmagliiaaGreatDoor
namespace Go.Proofs.YthekkgfmagliiaaGreatDoor
open Go.ChangeShapes Go.WideShapes Go.ChangeAt Go.RowKit
set_option maxRecDepth 100000 in
theorem gK(H:Type)(enc:TypeId×Value→H)(W:World)(base:Nat)(args:Array Value)(ds gs:List (DataW H))(before:List MemPlace)
 (hval:∀(j:Nat) t v,Tryz.f5.params[j]? = some t→args[j]? = some v→Value.okWide Tryz.prog W .any base t v)
 (hW:DataW.Whole enc Tryz.prog Tryz.f5.params.toList Rows.proptextDistinctSpec.vars false W args.toList ds gs before)(hL:laidMetH Tryz.prog rO W)(hk:Rows.uptoSmall H (ds++gs)=true):
 Calls Tryz.prog 5 args W fun e W'=>∃v,e=.returned v∧Rows.proptextDistinctSpec.post enc Tryz.prog Tryz.f5 false true false false W args v W':=by
 have hW':=hW;obtain⟨p,q,hA0,hV0,rfl,hfz,hnd⟩:=hW;have hA:DataW.TrodAll enc Tryz.prog W 0 (fun _=>true) true Tryz.f5.params.toList args.toList ds p:=hA0;have hV:DataW.TrodVars enc Tryz.prog W (fun _=>true) [] gs q:=hV0;rw[Tryz.params5]at hA hval;obtain⟨v0,v1,d0,d1,p0,p1,rfl,rfl,rfl,h0,h1⟩:=trodAll_two hA;obtain⟨rfl,rfl⟩:=trodVars_none hV;have lt0:=ou h0;obtain⟨q0,hv0,hb0⟩:=xM h0 (hval 0 29 v0 rfl rfl);have lt1:=ou h1;obtain⟨q1,hv1,hb1⟩:=xM h1 (hval 1 29 v1 rfl rfl)
 have hbd:Rows.uptoBulk d0+(Rows.uptoBulk d1+0)≤1048576:=by
  have:=of_decide_eq_true hk;simpa only[List.cons_append,List.nil_append,Rows.uptoBulkAll]using this
 have e1:Rows.proptextDistinctSpec.fn H ([d0,d1]++[])={results:=[.lit (.bool true)],args:=[d0,d1]}:=by simp[Rows.proptextDistinctSpec]
 refine(pU (vs:=[v0,v1]) hL (rZ q0 q1 (by omega) (by omega) (by omega) (by omega)) rfl (fun i h h'=>?_)).mono fun en W' ⟨he,hx⟩=>?_
 ·match i,h with
  | 0,_=>exact hv0
  | 1,_=>exact hv1
 subst he;have bel:=hx.below;refine⟨_,rfl,_,_,_,[],p0++p1,[],hW',?_,?_,?_,bel.frame _,fun h=>by cases h⟩
 ·rw[e1];exact trodAll_mk1 (shut_bool Tryz.underlying4 true)
 ·rw[e1];exact trodAll_mk2 (Below.trod Tryz.laidOut (by kernel_rfl) (of_decide_eq_true (by kernel_rfl)) h0 bel lt0) (Below.trod Tryz.laidOut (by kernel_rfl) (of_decide_eq_true (by kernel_rfl)) h1 bel lt1)
 ·rw[e1];rfl
set_option maxRecDepth 100000 in
theorem ik(os:Os)(started:os.Started)(H:Type)(enc:TypeId×Value→H)(F:Stop.Interp):
 ReturnsInHanded {} Tryz.checked os 5 .any ((Rows.OpenSpec.upto Rows.proptextDistinctSpec).preRow enc Tryz.prog Tryz.f5 Rows.proptextDistinctUptoRow.domain false Rows.proptextDistinctUptoRow.laid) (((Rows.OpenSpec.upto Rows.proptextDistinctSpec).at F).post enc Tryz.prog Tryz.f5 false true false false):=by
 have hx:DataW.whole enc Tryz.prog ((mH os).forCall (fun _ _=>0) ⟨#[],#[.agg ml,.agg ml],[]⟩).memory Tryz.f5.params.toList Rows.proptextDistinctSpec.vars false #[Value.agg ml,Value.agg ml].toList 8=some ([.agg [.lit (.string []),.lit (.bool false),.lit (.bool false),.agg [.lit (.int .i64 0),.lit (.int .i64 0),.lit (.int .i64 0),.agg [.lit (.int .i64 0),.lit (.int .i64 0),.lit (.string []),.nil],.lit (.string []),.nil],.agg [.lit (.int .i64 0),.lit (.int .i64 0),.lit (.int .i64 0),.agg [.lit (.int .i64 0),.lit (.int .i64 0),.lit (.string []),.nil],.lit (.string []),.nil]],.agg [.lit (.string []),.lit (.bool false),.lit (.bool false),.agg [.lit (.int .i64 0),.lit (.int .i64 0),.lit (.int .i64 0),.agg [.lit (.int .i64 0),.lit (.int .i64 0),.lit (.string []),.nil],.lit (.string []),.nil],.agg [.lit (.int .i64 0),.lit (.int .i64 0),.lit (.int .i64 0),.agg [.lit (.int .i64 0),.lit (.int .i64 0),.lit (.string []),.nil],.lit (.string []),.nil]]],[],[]):=by kernel_rfl
 refine returnsInHanded_of_row (C:=Tryz.checked) (s:=Rows.OpenSpec.upto Rows.proptextDistinctSpec) Tryz.own started (by kernel_rfl) Tryz.func5
  (witness_row_atRef (enc:=enc) (C:=Tryz.checked) false (mH os) #[.agg ml,.agg ml] rfl (by kernel_rfl) (by kernel_rfl) (by kernel_rfl)
    (OpenSpec.preRow_of_cond 8 hx (by kernel_rfl) (fun k hk=>by cases hk;kernel_rfl) (by kernel_rfl) (qb os _))) ?_
 intro W base args ds gs before hval hW _ hcond _ hL _ _;exact gK H enc W base args ds gs before hval hW hL (hcond _ rfl)
theorem eZ:Rows.ProptextDistinctUptoSaid:=
 OpenClaim.holds_of_cond 5 Tryz.f5 rfl rfl rfl rfl rfl rfl rfl ⟨rfl,rfl,rfl,rfl,rfl⟩ rfl rfl rfl rfl rfl (by kernel_rfl) Tryz.func5 (by kernel_rfl)
  (of_decide_eq_true (by kernel_rfl)) (by unfold Func.isWrapper;first|(rw[if_pos (by decide +kernel)];kernel_rfl)|(rw[if_neg (by decide +kernel)];exact⟨rfl,rfl⟩))
  (fun os started H enc _ F=>by rw[OpenClaim.pre_eq_preRow];exact ik os started H enc F)
#print axioms eZ
end Go.Proofs.YthekkgfmagliiaaGreatDoor
