import Derived.RangeFuncFrom
import Derived.RangeFuncNested
import Derived.RangeFuncBound
import Derived.RangeFuncCalls
import Derived.RangeFuncLeaves
import Derived.Shelf.Abstract
import Derived.Shelf.RegionOpen
import Derived.OwnWalkIn
import Derived.TacticsInMore
import Derived.LoopNIn
import Derived.LoopIn
import Derived.RangeFuncBox
import Derived.Deep.WholeRow
import Derived.Test.YtnhphlmblenapaaGreatDoorEt2
set_option linter.unusedVariables false
set_option linter.unusedSimpArgs false
set_option linter.unusedSectionVars false
set_option maxRecDepth 100000
set_option maxHeartbeats 8000000
open Array renaming replicate_zero->Pa,replicate_succ->Pb
open List renaming getElem_mem->Pd,append_toArray->Pe,size_toArray->Pf,push_toArray->Pg,length_cons->Ph,cons_append->Pi,nil_append->Pj,length_nil->Pk,getElem?_eq_getElem->Pl,map_append->Pm,length_map->Pn
open Nat renaming reduceSub->Po,reduceAdd->Pp,zero_le->Pq,lt_of_lt_of_le->Pr
namespace Go.Proofs.YtnhphlmblenapaaGreatDoor
open Go.RowKit
def nc(σ:LLV):Prop:=∀cs∈σ,bT cs=true
section
variable {C : Cx} {M : ao} {bm : List Nat} {σ : LLV} {tk : be} {pr : Nat -> Prop} {w w' : World}
theorem Inv.cellsOf(h:Inv M bm σ tk pr w)(hn:nc σ){b:Nat}(hb:b∈bm):∃o:Obj,w.heap[b]? = some o/\o.isCells=true:=by
 obtain⟨i,hi,rfl⟩:=List.getElem_of_mem hb;have hs:i<σ.length:=by rw[<-h.len];exact hi
 obtain⟨vs,T,h1,-⟩:=h.cells (Pl hi) (Pl hs) (hn _ (Pd hs));exact⟨_,h1,rfl⟩
theorem Inv.turn(h:Inv M bm σ tk pr w)(hn:nc σ){row:Option Nat}(hg:w.grownBy w' row)(hr:∀r,row=some r->∃o:Obj,w.heap[r]? = some o/\o.isCells=false)(hp:∀r,row=some r->¬pr r):
 Inv M bm σ tk pr w'/\Later M bm pr w M bm w':=by
 refine⟨⟨fun b o x hx=>cell_kept (h.facts b o x hx) hg hr,h.len,fun i b cs hi hc=>?_,h.free,h.bmnd,fun i j g hg'=>⟨Pr (h.tok i j g hg').1 hg.size,(h.tok i j g hg').2⟩,h.inj,fun b hb=>Pr (h.prlt b hb) hg.size⟩,
  ⟨ao.le.refl _,⟨[],by simp⟩,fun b hb=>hg.block b (h.prlt b hb) (fun e=>hp b e.symm hb),fun _ _ _=>rfl,hg.os,hg.tape,hg.output,hg.size⟩⟩
 rcases h.box i b cs hi hc with⟨vs,T,h1,h2,h3⟩|h1
 .refine .inl ⟨vs,T,(grownBy_keeps_cells hg hr h1 rfl).trans h1,h2,fun j hj hj'=>⟨⟨(h3 j hj hj').1.rep,fun T k rows hT=>?_⟩,(h3 j hj hj').2⟩⟩;rcases(h3 j hj hj').1.own T k rows hT with g0|⟨g,xs,e1,e2,e3,e4,e5⟩
  .exact .inl g0
  .refine .inr ⟨g,xs,e1,e2,e3,⟨e4.1,e4.2.imp id ?_⟩,e5⟩;rintro⟨g',cap,cur,hv,hb,hh,hrest⟩;exact⟨g',cap,cur,hv,hb,(grownBy_keeps_cells hg hr hh rfl).trans hh,hrest⟩
 .exact(h1.not (hn cs (List.mem_of_getElem? hc))).elim
def GJ(pr:Nat->Prop)(w:World)(b:Nat):Prop:=pr b\/∃o:Obj,w.heap[b]? = some o/\o.isCells=false
open Classical in
noncomputable def v6(w:World)(tk:be):be:=fun i j=>if i.isSome/\∃g o,tk i j=some g/\w.heap[g]? = some o/\Obj.isCells o=true then tk i j else none
theorem mU{i:Option Nat}{j g:Nat}(h:v6 w tk i j=some g):tk i j=some g/\∃o:Obj,w.heap[g]? = some o/\o.isCells=true:=by
 unfold v6 at h;split at h
 .rename_i hc;obtain⟨-,g',o,e1,e2,e3⟩:=hc;rw[h]at e1;cases e1;exact⟨h,o,e2,e3⟩
 .cases h
theorem yR(j:Nat):v6 w tk none j=none:=by unfold v6;rw[if_neg];rintro⟨h,-⟩;cases h
theorem Inv.shut(h:Inv M bm σ tk pr w)(hn:nc σ):Inv M bm σ (v6 w tk) (GJ pr w) w:=by
 refine⟨h.facts,h.len,fun i b cs hi hc=>?_,fun b hb=>⟨(h.free b hb).1,?_⟩,h.bmnd,fun i j g hg=>?_,fun i j i' j' g e1 e2=>h.inj i j i' j' g (mU e1).1 (mU e2).1,?_⟩
 .rcases h.box i b cs hi hc with⟨vs,T,h1,h2,h3⟩|h1
  .refine .inl ⟨vs,T,h1,h2,fun j hj hj'=>⟨⟨(h3 j hj hj').1.rep,fun T k rows hT=>?_⟩,(h3 j hj hj').2⟩⟩;rcases(h3 j hj hj').1.own T k rows hT with g0|⟨g,xs,e1,e2,e3,e4,e5⟩
   .exact .inl g0
   .rcases e4.2 with g1|⟨g',cap,cur,hv,hb,hh,hrest⟩
    .rw[g1.1]at e2;cases e2
    .refine .inr ⟨g,xs,?_,e2,e3,e4,e5⟩;rw[hv]at e2;simp only[Value.ownBlock,Option.some.injEq]at e2;unfold v6;rw[if_pos ⟨rfl,g,_,e1,by rw[<-e2];exact hh,rfl⟩];exact e1
  .exact .inr h1
 .rintro(hp|⟨o,h1,h2⟩)
  .exact(h.free b hb).2 hp
  .obtain⟨o',h3,h4⟩:=h.cellsOf hn hb;rw[h1]at h3;cases h3;rw[h2]at h4;cases h4
 .obtain⟨e1,o,e2,e3⟩:=mU hg;refine⟨(h.tok i j g e1).1,(h.tok i j g e1).2.1,?_⟩;rintro(hp|⟨o',h1,h2⟩)
  .exact(h.tok i j g e1).2.2 hp
  .rw[e2]at h1;cases h1;rw[h2]at e3;cases e3
 .rintro b (hp|⟨o,h1,h2⟩)
  .exact h.prlt b hp
  .exact(Array.getElem?_eq_some_iff.1 h1).1
theorem Inv.less{pr':Nat->Prop}(h:Inv M bm σ tk pr' w)(hp:∀b,pr b->pr' b):Inv M bm σ tk pr w:=
 ⟨h.facts,h.len,h.box,fun b hb=>⟨(h.free b hb).1,fun e=>(h.free b hb).2 (hp b e)⟩,h.bmnd,fun i j g hg=>⟨(h.tok i j g hg).1,(h.tok i j g hg).2.1,fun e=>(h.tok i j g hg).2.2 (hp g e)⟩,h.inj,fun b hb=>h.prlt b (hp b hb)⟩
theorem Later.less{pr':Nat->Prop}{M':ao}{bm':List Nat}(h:Later M bm pr' w M' bm' w')(hp:∀b,pr b->pr' b):Later M bm pr w M' bm' w':=
 ⟨h.le,h.pre,fun b hb=>h.keep b (hp b hb),fun b hb=>h.facts b (hp b hb),h.os,h.tape,h.output,h.size⟩
theorem Inv.noSlots(h:Inv M bm σ tk pr w):Inv M bm σ (fun i j=>if i.isSome then tk i j else none) pr w:=by
 refine⟨h.facts,h.len,h.box,h.free,h.bmnd,fun i j g hg=>?_,fun i j i' j' g e1 e2=>?_,h.prlt⟩
 .cases i with
  | none=>cases hg
  | some i=>exact h.tok _ _ _ hg
 .cases i with
  | none=>cases e1
  | some i=>
   cases i' with
   | none=>cases e2
   | some i'=>exact h.inj _ _ _ _ _ e1 e2
theorem zH{f:FuncId}{args:List V}{Q:Out->LLV->Prop}(hf:Fun C f args σ Q)(hn:nc σ)(hG:C.glob M pr w)(hI:Inv M bm σ tk pr w){vs:List Value}(hl:vs.length=args.length)(hr:∀i (h:i<args.length) (h':i<vs.length),Rep M bm args[i] vs[i]):
 Calls C.P f vs.toArray w fun e w'=>KeepsOthers w w'/\∃M' bm' tk' σ' o,Q o σ'/\Inv M' bm' σ' tk' pr w'/\Later M bm pr w M' bm' w'/\OutOK M' bm' w' tk' o e:=
 (hf.2 M bm (v6 w tk) (GJ pr w) w vs (hG.prot fun b hb=>.inl hb) (hI.shut hn) yR hl hr).mono fun e w' ⟨M',bm',tk',σ',o,q,k1,k2,k3⟩=>
   ⟨⟨k2.size,fun k o hk ho=>(k2.keep k (.inr ⟨o,hk,ho⟩)).trans hk⟩,M',bm',tk',σ',o,q,k1.less fun b hb=>.inl hb,k2.less fun b hb=>.inl hb,k3⟩
end
end Go.Proofs.YtnhphlmblenapaaGreatDoor
namespace Go.Proofs.YtnhphlmblenapaaGreatDoor
open Go.RowKit Go.Shelf
attribute [local go_sem] Oper.semAt_some
def down(len k:Nat):List Nat:=(List.range k).map fun j=>len-1-j
theorem z7(len k:Nat):down len (k+1)=down len k++[len-1-k]:=by simp[down,List.range_succ]
theorem C0(len k:Nat):(down len k).length=k:=by simp[down]
theorem DF(F:Fence)(n:Nat)(hF:F.fn 149)(hro:F.round=none)(hn:1≤n)(l Bs b off len cap:Nat)(M:ao)(val:Nat->Nat->Value)(hlen:len≤1200000)
 (J Jx:List {x:Nat // x<len}->World->Prop)
 (hY:∀pre x W,J pre W->pre.length<len->YieldAt F (n-1) Tryz.prog l #[.int .i64 (x.1:Int),.agg #[val x.1 0,val x.1 1,val x.1 2,val x.1 3]] W fun e W'=>
   (e=.returned (.bool true)/\J (pre++[x]) W'/\(M.hold W->M.hold W'))\/(e=.returned (.bool false)/\Jx (pre++[x]) W'))
 (W:World)(hM:M.hold W)(hBs:M Bs 0=some (.slice (some ⟨b,off,none⟩) len cap))(hc:∀i,i<len->∀j,j<4->M b (off+i*4+j)=some (val i j))(h0:J [] W):
 CallsIn F n Tryz.prog 149 #[.func (.yield l) #[] #[],.pointer (some ⟨Bs,0,none⟩)] W fun e W'=>(∃v,e=.returned v)/\
  ((∃ys,ys.map (·.1)=down len len/\J ys W')\/(∃pre,True/\Jx pre W')):=by
 have hBsW:=hM _ _ _ hBs;refine callsIn_of_wp Tryz.func149 rfl hF ?_ hro;simp only[Tryz.ntmps149,Pf,Ph,Pk,Pp,Po,Pb,Pa,Pg,Pe,Pj,Pi]
 gi_wp2
 gi_loopw [3] (fun i wr=>∃(k:Nat) (ys:List {x:Nat // x<len}),k≤len/\i=.int .i64 ((len:Int)-1-(k:Int))/\ys.map (·.1)=down len k/\J ys wr/\M.hold wr)
  (fun i _=>(intOf i+1).toNat)
 case atStart=>
  exact⟨0,[],Pq _,by simp,rfl,h0,hM⟩
 case round=>
  obtain⟨k,ys,hk,rfl,hys,hJs,hMw⟩:=hrel;have hBw:=hMw _ _ _ hBs;by_cases hlt:k<len
  .have hi:((len:Int)-1-(k:Int))=((len-1-k:Nat):Int):=by omega
   rw[hi];generalize hx:len-1-k=x;have hxl:x<len:=by omega
   obtain⟨fn,tmps,assign,body,hy,hR⟩:=hY _ ⟨x,hxl⟩ wr hJs (by have:=congrArg List.length hys;rw[C0,Pn]at this;omega);dsimp only at hy;have c0:=hMw _ _ _ (hc x hxl 0 (by omega));rw[Nat.add_zero]at c0;have c1:=hMw _ _ _ (hc x hxl 1 (by omega));have c2:=hMw _ _ _ (hc x hxl 2 (by omega));have c3:=hMw _ _ _ (hc x hxl 3 (by omega))
   gi_wp2
   refine hR.mono ?_;rintro e W3 (⟨rfl,hJ3,hk3⟩|⟨rfl,hJx3⟩)
   .gi_wp2
    go_roundw;case rel=>exact⟨k+1,_,by omega,by simp;omega,by rw[Pm,hys,z7,hx];rfl,hJ3,hk3 hMw⟩
    case measure=>simp[intOf]
   .gi_wp2
    refine bodyPost_ret (results_none rfl _ _ _) rfl ?_;exact⟨⟨_,rfl⟩,.inr ⟨_,trivial,hJx3⟩⟩
  .obtain rfl:k=len:=by omega
   gi_wp2
   go_end0;exact⟨⟨_,rfl⟩,.inl ⟨_,hys,hJs⟩⟩
end Go.Proofs.YtnhphlmblenapaaGreatDoor
namespace Go.Proofs.YtnhphlmblenapaaGreatDoor
open Go.RowKit Go.Shelf
attribute [local go_sem] Oper.semAt_some
theorem Gb(F:Fence)(n:Nat)(hF:F.fn 107)(hro:F.round=none)(a:Option Addr)(len cap:Nat)(w:World):
 CallsIn F n Tryz.prog 107 #[.slice a len cap] w fun e w'=>e=.returned (.func (.func 149) #[] #[.pointer (some ⟨w.heap.size,0,none⟩)])/\w'=w.alloc (.cells #[.slice a len cap] 36):=by
 refine callsIn_of_wp Tryz.func107 rfl hF ?_ hro;simp only[Tryz.ntmps107,Pf,Ph,Pk,Pp,Po,Pb,Pa,Pg,Pe,Pj,Pi]
 gi_wp2
 go_ret;exact⟨rfl,rfl⟩
def m7(M:ao)(s:Nat)(sv:Value):ao:=fun b o=>if b=s+1/\o=0 then some (.pointer (some ⟨s,0,none⟩))else if b=s+1+1/\o=0 then some sv else M b o
theorem ue(σ:LLV)(rows:LLD)(h0:0<rows.length)(hk:∀r∈rows,r.length=4)(hlen:rows.length≤1200000)(FQ:List Nat->LLV->Prop)(hnm:∀pre σ',FQ pre σ'->nc σ')
 (hF0:FQ [] (σ++[[.d (.lit (.string ⟨#[]⟩)),.d (.lit (.string ⟨#[]⟩)),.own 74 5 [],.nil,.d (.lit (.bool false))]]))
 (hstep:∀pre x σ',FQ pre σ'->pre.length<rows.length->(hx:x<rows.length)->Fun G 108 [.ptr σ.length 0,.agg (rows[x].map V.d)] σ' (fun o σ''=>(∃v,o=.ret v)/\FQ (pre++[x]) σ'')):
 Fun G 48 [.d (.sl rows)] σ (fun o σ'=>o=.ret (.ptr σ.length 0)/\FQ (down rows.length rows.length) σ'):=by
 refine⟨enters_of Tryz.func48 (by kernel_rfl) rfl,fun M bm tk pr w vs hG hI ht hl hr=>?_⟩
 match vs,hl,hr with
 | [sv],_,hr=>
 have hr:=hr 0 (by simp) (by simp);simp only[List.getElem_cons_zero]at hr;cases hr with
 | d hr=>
 cases hr with
 | sl _ k p cap val hk' hd hf hc hm=>
 have hk4:k=4:=by rw[<-hk' rows[0] (Pd h0),hk rows[0] (Pd h0)]
 subst hk4;obtain⟨b,off,rfl,-⟩:=hf 0 h0
 have hcell:∀i,i<rows.length->∀j,j<4->M b (off+i*4+j)=some (val i j):=fun i hi j hj=>by
  obtain⟨b',off',e,g⟩:=hf i hi;cases e;exact g j hj
 show Calls Tryz.prog _ _ _ _;refine(callsIn_wide (n:=8)).1 ?_;refine callsIn_of_wp_marks Tryz.func48 rfl trivial ?_ rfl;simp only[Tryz.ntmps48,Pf,Ph,Pk,Pp,Po,Pb,Pa,Pg,Pe,Pj,Pi]
 gi_wp2_with (refine⟨trivial,?_⟩;gi_at_call 107;refine(Gb Fence.wide (8-1) trivial rfl _ _ _ _).mono ?_;rintro e w' ⟨rfl,rfl⟩)
 obtain⟨w1,hw1⟩:∃w1,w.alloc (.cells #[.string ⟨#[]⟩,.string ⟨#[]⟩,.slice none 0 0,.slice none 0 0,.bool false] 83)=w1:=⟨_,rfl⟩
 obtain⟨hP1,hP2⟩:=hI.push (cs:=[.d (.lit (.string ⟨#[]⟩)),.d (.lit (.string ⟨#[]⟩)),.own 74 5 [],.nil,.d (.lit (.bool false))]) (vs := #[.string ⟨#[]⟩,.string ⟨#[]⟩,.slice none 0 0,.slice none 0 0,.bool false]) (T:=83) rfl (fun j h h'=>by
  match j,h with
  | 0,_=>exact⟨.d (.lit _ (Pq _)),rfl,fun T k rows e=>by cases e⟩
  | 1,_=>exact⟨.d (.lit _ (Pq _)),rfl,fun T k rows e=>by cases e⟩
  | 2,_=>exact⟨.own (DRep.nil M),rfl,fun T k rows e=>by cases e;exact⟨rfl,rfl⟩⟩
  | 3,_=>exact⟨.nil,rfl,fun T k rows e=>by cases e⟩
  | 4,_=>exact⟨.d (.lit _ trivial),rfl,fun T k rows e=>by cases e⟩)
 rw[hw1]at hP1 hP2 ⊢;have hs1:w1.heap.size=w.heap.size+1:=by rw[<-hw1];simp
 have b1:=(Boxed.new w1 80 (.pointer (some ⟨w.heap.size,0,none⟩))).alloc (.cells #[.slice (some ⟨b,off,none⟩) rows.length cap] 36);have b2:=Boxed.new (w1.alloc (.cells #[.pointer (some ⟨w.heap.size,0,none⟩)] 80)) 36 (.slice (some ⟨b,off,none⟩) rows.length cap);have hg01:cO w1 ((w1.alloc (.cells #[.pointer (some ⟨w.heap.size,0,none⟩)] 80)).alloc (.cells #[.slice (some ⟨b,off,none⟩) rows.length cap] 36)):=((Below.refl _ w1).alloc (Nat.le_refl _) _).alloc (by simp) _;have hsz:((w1.alloc (.cells #[.pointer (some ⟨w.heap.size,0,none⟩)] 80)).alloc (.cells #[.slice (some ⟨b,off,none⟩) rows.length cap] 36)).heap.size=w.heap.size+3:=by simp[hs1]
 rw[World.size_alloc,hs1]at b2;rw[hs1]at b1;obtain⟨W0,hW0⟩:∃W0,(w1.alloc (.cells #[.pointer (some ⟨w.heap.size,0,none⟩)] 80)).alloc (.cells #[.slice (some ⟨b,off,none⟩) rows.length cap] 36)=W0:=⟨_,rfl⟩
 rw[hW0]at b1 b2 hg01 hsz ⊢;clear hW0;obtain⟨M2,hM2⟩:∃M2,m7 M w.heap.size (.slice (some ⟨b,off,none⟩) rows.length cap)=M2:=⟨_,rfl⟩
 have hMlt:∀b o x,M b o=some x->b<w.heap.size:=fun b o x hx=>hI.facts.lt hx
 have hMle:M.le M2:=fun b o x hx=>by
  have:=hMlt b o x hx;rw[<-hM2];unfold m7;rw[if_neg (by omega),if_neg (by omega)];exact hx
 have hM21:M2 (w.heap.size+1) 0=some (.pointer (some ⟨w.heap.size,0,none⟩)):=by rw[<-hM2];unfold m7;rw[if_pos ⟨rfl,rfl⟩]
 have hM22:M2 (w.heap.size+1+1) 0=some (.slice (some ⟨b,off,none⟩) rows.length cap):=by rw[<-hM2];unfold m7;rw[if_neg (by omega),if_pos ⟨rfl,rfl⟩]
 have hMh:M2.hold W0:=fun b' o x hx=>by
  rw[<-hM2]at hx;unfold m7 at hx;split at hx
  .rename_i e;obtain⟨rfl,rfl⟩:=e;cases hx;exact b1.cell
  .split at hx
   .rename_i e;obtain⟨rfl,rfl⟩:=e;cases hx;exact b2.cell
   .have h1:=hMlt _ _ _ hx;exact(hg01.cell (p:=⟨b',o,none⟩) (show b'<w1.heap.size by omega)).trans (hP1.facts _ _ _ hx)
 obtain⟨hQ1,hQ2⟩:=hP1.grow hg01 hMle hMh (fun b' hb' o=>by rw[<-hM2];unfold m7;rw[if_neg (by omega),if_neg (by omega)]);have hLat:=hP2.trans hQ2 (fun _ h=>h);have hG2:=hG.mono hLat;have hpr:∀r,pr r->r<w.heap.size:=hI.prlt;have hone:∀i,i<rows.length->∀j,j<4->(val i j).oneCell'=true:=fun i hi j hj=>(hd i j hi (by rw[hk _ (Pd hi)];exact hj)).one
 refine wpIn_rangeFunc_ownH (α:={x:Nat // x<rows.length}) rfl (by omega) (gf:=149) (lb := #[.pointer (some ⟨w.heap.size+1+1,0,none⟩)]) rfl trivial (enters_of Tryz.func149 (by kernel_rfl) rfl)
  (encs:=fun x => #[.int .i64 (x.1:Int),.agg #[val x.1 0,val x.1 1,val x.1 2,val x.1 3]]) (Kp:=fun W W'=>M2.hold W->M2.hold W') (S:=fun ys=>ys.map (·.1)=down rows.length rows.length) (Sp:=fun _=>True) (N:=rows.length) (w0:=W0)
  (fun l J Jx W hW _ _ hY h0=>DF Fence.wide (8-1) trivial rfl (by omega) l (w.heap.size+1+1) b off rows.length cap M2 val hlen J Jx hY W (fun b' o x hx=>(hW.cell (p:=⟨b',o,none⟩) (hMh.lt hx)).trans (hMh _ _ _ hx)) hM22 (fun i hi j hj=>hMle _ _ _ (hcell i hi j hj)) h0)
  (fun h k hh=>k (h hh)) (fun W l o o' _ hl ho _ hh b o x hx=>cell_kept (hh b o x hx) (grownBy_putObj' _ _ _) (fun r e=>by cases e;exact⟨_,hl,ho⟩)) (Below.refl _ _) (fun _=>rfl)
  (fun pre W=>∃M' bm' tk' σ',FQ (pre.map (·.1)) σ'/\Inv M' bm' σ' tk' pr W/\(∀t,tk' none t=none)/\Later M2 (bm++[w.heap.size]) pr W0 M' bm' W)
  (fun _ _ _=>False)
  (fun s A B row ⟨M',bm',tk',σ',a1,a2,a3,a4⟩ hg hr=>by
    obtain⟨t1,t2⟩:=a2.turn (hnm _ _ a1) hg (fun r e=>(hr r e).2) (fun r e hp=>by have:=(hr r e).1;have:=hpr r hp;omega);exact⟨M',bm',tk',σ',a1,t1,a3,a4.trans t2 (fun _ h=>h)⟩)
  (fun _ _ _ _ _ hs _ _=>hs)
  ⟨M2,_,tk,_,hF0,hQ1,ht,Later.refl _ _ _ _⟩
  (fun x a' W=>∃Bx,(∀j,j<4->W.cell? ⟨Bx,j,none⟩=some (val x.1 j))/\a'={tmps := #[.slice (some ⟨b,off,none⟩) rows.length cap,undef,.pointer none,.pointer (some ⟨w.heap.size+1,0,none⟩),undef,.pointer (some ⟨Bx,0,none⟩),.agg #[.string ⟨#[]⟩,.string ⟨#[]⟩,.slice none 0 0,.slice none 0 0,.bool false],.pointer (some ⟨w.heap.size,0,none⟩),.slice (some ⟨b,off,none⟩) rows.length cap,.func (.func 149) #[] #[.pointer (some ⟨w.heap.size+1+1,0,none⟩)],.int .i64 (x.1:Int),.agg #[val x.1 0,val x.1 1,val x.1 2,val x.1 3],undef,undef,undef,undef],defers:=[]})
  (fun x a' _ X Y row hs hg hr=>by obtain⟨Bx,h1,h2⟩:=hs;exact⟨Bx,fun j hj=>cell_kept (h1 j hj) hg (fun r e=>(hr r e).2),h2⟩)
  ?assign ?body ?done ?stop
 case assign=>
  rintro l pre x W K hi hK;have hst:=run_storeCells_new (P:=Tryz.prog) W 32 #[.string ⟨#[]⟩,.string ⟨#[]⟩,.slice none 0 0,.slice none 0 0] #[val x.1 0,val x.1 1,val x.1 2,val x.1 3] (by kernel_rfl) rfl (by simp[hone _ x.2]);simp[storeCells,cq]at hst
  gi_wp2
  obtain⟨M',bm',tk',σ',a1,a2,a3,a4⟩:=hi;have hga:=World.grownBy_alloc W (.cells #[val x.1 0,val x.1 1,val x.1 2,val x.1 3] 32) none;obtain⟨t1,t2⟩:=a2.turn (hnm _ _ a1) hga (fun r e=>by cases e) (fun r e=>by cases e);have hnew:=World.alloc_heap_new W (.cells #[val x.1 0,val x.1 1,val x.1 2,val x.1 3] 32);refine hK _ _ ((KeepsOthers.alloc W _).from _) (fun hh b o x hx=>cell_kept (hh b o x hx) hga (fun r e=>by cases e)) ⟨M',bm',tk',σ',a1,t1,a3,a4.trans t2 (fun _ h=>h)⟩ ⟨W.heap.size,fun j hj=>?_,rfl⟩
  match j,hj with
  | 0,_=>simp only[World.cell?,hnew];rfl
  | 1,_=>simp only[World.cell?,hnew];rfl
  | 2,_=>simp only[World.cell?,hnew];rfl
  | 3,_=>simp only[World.cell?,hnew];rfl
 case body=>
  rintro l pre x a' W hl ⟨r,hr⟩ ⟨M',bm',tk',σ',a1,a2,a3,a4⟩ ⟨Bx,hBx,rfl⟩ hlt;have cF:=a2.facts _ _ _ (a4.le _ _ _ hM21);have x0:=hBx 0 (by omega);have x1:=hBx 1 (by omega);have x2:=hBx 2 (by omega);have x3:=hBx 3 (by omega);have hcl:rows[x.1].length=4:=hk _ (Pd x.2);have hbm:bm'[σ.length]? = some w.heap.size:=i6 a4.pre _ _ (by rw[<-hI.len];simp)
  have hargs:∀i (h:i < [V.ptr σ.length 0,V.agg (rows[x.1].map V.d)].length) (h':i < [Value.pointer (some ⟨w.heap.size,0,none⟩),Value.agg #[val x.1 0,val x.1 1,val x.1 2,val x.1 3]].length),Rep M' bm' [V.ptr σ.length 0,V.agg (rows[x.1].map V.d)][i] [Value.pointer (some ⟨w.heap.size,0,none⟩),Value.agg #[val x.1 0,val x.1 1,val x.1 2,val x.1 3]][i]:=fun i h h'=>by
   match i,h with
   | 0,_=>exact .ptr hbm
   | 1,_=>
    refine .agg (vs:=[val x.1 0,val x.1 1,val x.1 2,val x.1 3]) (by simp[hcl]) (fun j g g'=>?_) (by simp[hone _ x.2]);simp only[List.getElem_map];have hj:j<4:=by simpa using g'
    have e:[val x.1 0,val x.1 1,val x.1 2,val x.1 3][j]=val x.1 j:=by
     match j,hj with
     | 0,_=>rfl
     | 1,_=>rfl
     | 2,_=>rfl
     | 3,_=>rfl
    rw[e];exact .d ((hd x.1 j x.2 (by omega)).mono (hMle.trans a4.le))
  gi_wp2_with (refine⟨trivial,?_⟩;gi_at_call 108;refine(CallsIn.inRound l (callsIn_wide.2 (zH (hstep _ x.1 σ' a1 (by rw[Pn];exact hlt) x.2) (hnm _ _ a1) (hG2.mono a4) a2 (vs:=[.pointer (some ⟨w.heap.size,0,none⟩),.agg #[val x.1 0,val x.1 1,val x.1 2,val x.1 3]]) rfl hargs))).mono ?_;rintro e w' ⟨hKO,M3,bm3,tk3,σ3,o,⟨⟨v,rfl⟩,f1⟩,i1,l1,o1⟩;obtain⟨u,rfl,-⟩:=o1.ret _ rfl)
  exact⟨hKO.from _,fun _ b o x hx=>i1.facts _ _ _ (l1.le _ _ _ (a4.le _ _ _ hx)),M3,bm3,_,σ3,by rw[Pm];exact f1,i1.noSlots,fun _=>rfl,a4.trans l1 (fun _ h=>h)⟩
 case done=>
  rintro D ys W hD hys ⟨M',bm',tk',σ',a1,a2,a3,a4⟩ hK;have cF:=a2.facts _ _ _ (a4.le _ _ _ hM21)
  gi_wp2
  refine⟨by simp,.inl ⟨_,_,rfl,run_takeDeferred hK,?_⟩⟩;obtain⟨t1,t2⟩:=a2.turn (hnm _ _ a1) (grownBy_putObj' W D (.deferred none)) (fun r e=>by cases e;exact⟨_,hK,rfl⟩) (fun r e hp=>by cases e;have:=hpr _ hp;omega);refine⟨_,results_tmp rfl _ _ _,M',bm',tk',σ',.ret (.ptr σ.length 0),⟨rfl,by rw[<-hys];exact a1⟩,t1,(hLat.trans a4 (fun _ h=>h)).trans t2 (fun _ h=>h) ,fun v e=>?_,fun v e=>by cases e⟩;cases e;refine⟨_,rfl,⟨.ptr ?_,fun T k rows e=>by cases e⟩⟩;have h1:(bm++[w.heap.size])[σ.length]? = some w.heap.size:=by rw[<-hI.len];simp
  exact i6 a4.pre _ _ h1
 case stop=>
  rintro D c pre W _ _ h _;exact h.elim
end Go.Proofs.YtnhphlmblenapaaGreatDoor
namespace Go.Proofs.YtnhphlmblenapaaGreatDoor
open Go.RowKit
def c233:Cd:=sq [oM 4 (.new 50 zz0)] [0,1,4] (.seq (sq [oV 14 1,We 15 14 14] [0,1,4,15] (.cond (.t 15) (sq [oV 16 0,ZC 17 259 16,oS 4 4 17] [4] .ret) .skip)) (.seq (sq [oV 18 1,We 19 18 13] [0,1,4,19] (.cond (.t 19) (.seq (sq [oI 5 4] [0,4,5] (.block 0 (.loop (.seq (sq [oV 20 5,Wq 21 20 6] [0,4,5,21] (.cond (.t 21) .skip (.exit 0))) (.seq (.block 1 (sq [oV 24 0,oV 25 5,ZC 26 261 25,
 ZD 27 260 24 26] [0,4,5,27] (.cond (.t 27) (sq [oV 28 0,ZK 29 28,ZF 30 1 29,ZL 31 1 30,Wa 32 31 1,ZK 33 28,ZF 34 1 33,oS 1 34 32] [0,4,5] (sq [oV 35 0,oM 36 (.call 233 [.t 35,.k (.d (.lit (.int .i64 13)))]),oM 6 (.new 50 zz0),oS 4 6 36] [4,5,6] (sq [oV 37 5,ZM 38 4 6,oM 39 (.mks 50 4 [.t 38]),oM 40 (.bld zz0 [(0,1,.t 37),(3,1,.t 39)]),oS 4 4 40] [4] (.ret)))) .skip))) (.ops [oV 22 5,Wa 23 22 1,
 oV 5 23] [0,4,5])))))) (sq [oV 41 0,ZC 42 259 41,oS 4 4 42] [4] .ret)) .skip)) (sq [oV 43 0,oV 44 1,Wa 45 44 1,ZD 46 233 43 45,oM 7 (.new 50 zz0),oS 4 7 46] [0,1,4,7] (.seq (sq [oV 47 1,We 48 47 1,oV 49 48,oG 50 49 (.mv (.t 0)),⟨some 51,.call 260 [.t 50,.k (.d (.lit (.string ⟨#[63]⟩)))],(some (49,true))⟩,ZQ 52 49 51] [0,1,4,7,52] (.cond (.t 52) (sq [oV 53 0,ZK 54 53,ZF 55 1 54,ZL 56 1 55,
 Wa 57 56 1,ZK 58 53,ZF 59 1 58,oS 1 59 57] [0,4,7] (sq [oV 60 0,oM 61 (.call 233 [.t 60,.k (.d (.lit (.int .i64 1)))]),oM 8 (.new 50 zz0),oS 4 8 61] [0,4,7,8] (sq [oV 62 0,oM 63 (.call 262 [.t 62,.k (.d (.lit (.string ⟨#[58]⟩)))])] [0,4,7,8] (sq [oV 64 0,oM 65 (.call 233 [.t 64,.k (.d (.lit (.int .i64 1)))]),oM 9 (.new 50 zz0),oS 4 9 65] [4,7,8,9] (sq [ZM 66 4 7,ZM 67 4 8,ZM 68 4 9,
 oM 69 (.mks 50 4 [.t 66,.t 67,.t 68]),oM 70 (.bld zz0 [(0,1,.k (.d (.lit (.int .i64 22)))),(3,1,.t 69)]),oS 4 4 70] [4] .ret))))) .skip)) (.seq (sq [oV 71 1,We 72 71 2,oV 73 72,oG 74 73 (.mv (.t 0)),⟨some 75,.call 260 [.t 74,.k (.d (.lit (.string ⟨#[61,62]⟩)))],(some (73,true))⟩,ZQ 76 73 75] [0,1,4,7,76] (.cond (.t 76) (sq [oV 77 0,ZK 78 77,ZF 79 1 78,ZL 80 1 79,Wa 81 80 1,ZK 82 77,ZF 83 1 82,
 oS 1 83 81] [0,4,7] (sq [oV 84 0,oM 85 (.call 233 [.t 84,.k (.d (.lit (.int .i64 2)))]),oM 10 (.new 50 zz0),oS 4 10 85] [4,7,10] (sq [ZM 86 4 7,ZM 87 4 10,oM 88 (.mks 50 4 [.t 86,.t 87]),oM 89 (.bld zz0 [(0,1,.k (.d (.lit (.int .i64 21)))),(3,1,.t 88)]),oS 4 4 89] [4] .ret))) .skip)) (.seq (.block 2 (.loop (.seq (sq [oV 90 1,Wg 91 90 2] [0,1,4,7,
 91] (.cond (.t 91) .skip (.exit 2))) (.block 3 (.seq (sq [oV 92 1,We 93 92 9,oV 94 93,oG 95 94 (.mv (.t 0)),⟨some 96,.call 260 [.t 95,.k (.d (.lit (.string ⟨#[105,110,115,105,100,101]⟩)))],(some (94,true))⟩,ZQ 97 94 96] [0,1,4,7,97] (.cond (.t 97) (sq [oV 98 0,ZK 99 98,ZF 100 1 99,ZL 101 1 100,Wa 102 101 1,ZK 103 98,ZF 104 1 103,oS 1 104 102] [0,1,4,7] (sq [oV 105 0,ZM 106 4 7,ZD 107 263 105 106,
 oS 4 7 107] [0,1,4,7] (.exit 3))) .skip)) (sq [oV 109 0,oV 110 1,ZD 111 264 109 110,oV 108 111,ZX 112 108 0,ZX 113 108 1,oV 11 112,oV 12 113] [0,1,4,7,11,12] (.seq (sq [oV 114 11,We 115 114 0] [0,1,4,7,11,12,115] (.cond (.t 115) (sq [ZM 116 4 7,oS 4 4 116] [4] .ret) (.skip))) (sq [oV 117 0,ZK 118 117,ZF 119 1 118,ZL 120 1 119,Wa 121 120 1,ZK 122 117,ZF 123 1 122,oS 1 123 121] [0,1,4,7,11,
 12] (sq [oV 124 0,oV 125 1,Wa 126 125 1,ZD 127 233 124 126,oM 13 (.new 50 zz0),oS 4 13 127] [0,1,4,7,11,12,13] (sq [oV 128 12] [0,1,4,7,11,13,128] (.cond (.t 128) (.ops [oV 129 11,ZM 130 4 13,ZM 131 4 7,oM 132 (.mks 50 4 [.t 130,.t 131]),oM 133 (.bld zz0 [(0,1,.t 129),(3,1,.t 132)]),oS 4 7 133] [0,1,4,7]) (.ops [oV 134 11,ZM 135 4 7,ZM 136 4 13,oM 137 (.mks 50 4 [.t 135,.t 136]),
 oM 138 (.bld zz0 [(0,1,.t 134),(3,1,.t 137)]),oS 4 7 138] [0,1,4,7])))))))))))) (sq [ZM 139 4 7,oS 4 4 139] [4] .ret)))))))
def c75:Cd:=sq [oM 2 (.mv (kS ⟨#[]⟩))] [0] (sq [oV 3 0,oM 4 (.call 137 [.t 3,.k (.d (.lit (.int .i64 1)))]),oM 5 (.fld 2 1 false (.t 4)),oV 2 5] [2] .ret)
end Go.Proofs.YtnhphlmblenapaaGreatDoor
namespace Go.Proofs.YtnhphlmblenapaaGreatDoor
open Go.RowKit
def c18:Cd:=sq [oI 2 0] [0] (.seq (sq [oV 14 0,ZN 15 14,Wg 16 15 32] [0,16] (.cond (.t 16) (sq [oI 2 2] [2] (.ret)) .skip)) (.seq (sq [oV 17 0,ZN 18 17,oI 19 0] [0,17,18,19] (.block 0 (.loop (sq [Yl 20 19 18] [0,17,18,19,20] (.seq (.cond (.t 20) .skip (.exit 0)) (.seq (.block 1 (sq [ZI 21 4 17 19,ZM 22 4 21,oM 4 (.new 32 zz5),oS 4 4 22] [0,4,17,18,19] (sq [ZM 23 4 4,ZC 24 45 23,oV 5 24] [0,5,17,
 18,19] (sq [oV 25 5,Wn 26 25 0] [0,5,17,18,19,26] (.cond (.t 26) (sq [oV 27 5,oV 2 27] [2] .ret) .skip))))) (.ops [Wa 28 19 1,oV 19 28] [0,17,18,19]))))))) (.seq (sq [oV 29 0,ZC 30 46 29,oV 6 30] [0,6] (sq [oV 31 6,Wn 32 31 0] [0,6,32] (.cond (.t 32) (sq [oV 33 6,oV 2 33] [2] .ret) .skip))) (sq [oM 7 (.mv kF),oM 8 (.mv kF)] [0,7,8] (.seq (sq [oV 34 0,ZN 35 34,oI 36 0] [0,7,8,34,35,
 36] (.block 2 (.loop (sq [Yl 37 36 35] [0,7,8,34,35,36,37] (.seq (.cond (.t 37) (.skip) (.exit 2)) (.seq (.block 3 (sq [ZI 38 4 34 36,ZM 39 4 38,oM 10 (.new 32 zz5),oS 4 10 39] [0,7,8,10,34,35,36] (sq [oV 41 0,ZM 42 4 10,ZD 43 47 41 42,oV 40 43,ZX 44 40 0,ZX 45 40 1,oV 11 44,oV 12 45] [0,7,8,11,12,34,35,36] (.seq (sq [oV 46 12,ZU 47 46] [0,7,8,11,34,35,36,
 47] (.cond (.t 47) (sq [oI 2 10] [2] .ret) .skip)) (sq [oV 48 11,ZC 49 48 48,oV 13 49] [0,7,8,13,34,35,36] (sq [oV 50 7,oV 51 50,oH 52 51 (.mv (.t 13)),oH 53 51 (zK 52),oH 54 51 (zF 4 53),oH 55 51 (zL 1 54),ZP 56 51 55,oV 7 56] [0,7,8,13,34,35,36] (.ops [oV 57 8,oV 58 57,oH 59 58 (.mv (.t 13)),oH 60 58 (zK 59),oH 61 58 (zF 0 60),oH 62 58 (zF 2 61),oH 63 58 (zL 1 62),oH 64 58 (zN 63),
 oH 65 58 (wg 64 16),ZP 66 58 65,oV 67 66,oH 68 67 (.mv (.t 13)),oH 69 67 (zK 68),oH 70 67 (zF 0 69),oH 71 67 (zF 3 70),oH 72 67 (zL 1 71),oH 73 67 (zN 72),oH 74 67 (wg 73 16),ZP 75 67 74,oV 8 75] [0,7,8,34,35,36]))))))) (.ops [Wa 76 36 1,oV 36 76] [0,7,8,34,35,36]))))))) (.seq (.block 4 (sq [oV 78 7,oV 77 78] [8,77] (.cond (.t 77) (sq [oI 2 8] [2] .ret) (.seq (.ops [oV 80 8,
 oV 79 80] [79]) (.cond (.t 79) (sq [oI 2 2] [2] .ret) .skip))))) (sq [oI 2 0] [2] .ret)))))))
def O6:List RV:=[.t 2 false]
theorem k18:aP G.tab Tryz.f18 1 c18 O6=true:=by kernel_rfl
def c46:Cd:=sq [oI 2 0] [0] (.seq (sq [oV 7 0,oM 8 (.call 104 [.t 7,.k (.fn 105 [])])] [0,8] (.cond (.t 8) (sq [oI 2 8] [2] .ret) .skip)) (.seq (sq [oV 9 0,ZN 10 9,oI 11 0] [0,9,10,11] (.block 0 (.loop (sq [Yl 12 11 10] [0,9,10,11,12] (.seq (.cond (.t 12) .skip (.exit 0)) (.seq (.block 1 (sq [ZI 13 4 9 11,ZM 14 4 13,oM 4 (.new 32 zz5),oS 4 4 14] [0,4,9,10,11] (sq [oV 16 0,ZF 17 1 4,ZL 18 1 17,
 ZD 19 106 16 18,oV 15 19,ZX 20 15 0,ZX 21 15 1,oM 5 (.new 32 zz5),oS 4 5 20,oV 6 21] [0,4,6,9,10,11] (sq [ZF 22 1 4,ZL 23 1 22,oM 24 (.bin .neq (.t 23) (kS ⟨#[]⟩)),oV 25 24,oG 26 25 (.mv (.t 6)),oG 27 25 (zU 26),ZQ 28 25 27] [0,9,10,11,28] (.cond (.t 28) (sq [oI 2 7] [2] .ret) .skip))))) (.ops [Wa 29 11 1,oV 11 29] [0,9,10,11]))))))) (sq [oI 2 0] [2] .ret)))
def NJ:List RV:=[.t 2 false]
theorem k46:aP G.tab Tryz.f46 1 c46 NJ=true:=by kernel_rfl
def LJ:Cd:=sq [oM 4 (.new 32 zz5),oM 5 (.mv kF)] [0,1,4] (.seq (sq [oV 8 0,ZN 9 8,oI 10 0] [1,4,8,9,10] (.block 0 (.loop (sq [Yl 11 10 9] [1,4,8,9,10,11] (.seq (.cond (.t 11) .skip (.exit 0)) (.seq (.block 1 (sq [ZI 12 4 8 10,ZM 13 4 12,oM 7 (.new 32 zz5),oS 4 7 13] [1,4,7,8,9,10] (sq [ZF 14 0 7,ZL 15 1 14,oV 16 1,Ye 17 15 16] [1,4,7,8,9,10,17] (.cond (.t 17) (sq [ZM 18 4 7,oS 4 4 18,
 oM 5 (.mv kT)] [4,5] .ret) .skip)))) (.ops [Wa 19 10 1,oV 10 19] [1,4,8,9,10]))))))) (sq [oM 20 (.bld zz5 []),oS 4 4 20,oM 5 (.mv kF)] [4,5] .ret))
def Dg:List RV:=[.c 4 4 true,.t 5 false]
theorem OE:aP G.tab Tryz.f106 2 LJ Dg=true:=by kernel_rfl
def c47:Cd:=sq [ZB 3 32 1,oM 4 (.mv (.k .nil)),oM 5 (.mv kF)] [0,3] (sq [ZM 7 4 3,oM 8 (.mkso 32 4 [.t 7]),oM 6 (.mvo 8)] [0,3,6] (.seq (.block 0 (.loop (.seq (sq [ZF 9 1 3,ZL 10 1 9,oM 11 (.bin .neq (.t 10) (kS ⟨#[]⟩))] [0,3,6,11] (.cond (.t 11) .skip (.exit 0))) (.block 1 (.seq (sq [oV 12 6,ZN 13 12,oV 14 0,ZN 15 14,Yg 16 13 15] [0,3,6,16] (.cond (.t 16) (sq [oM 4 (.mv (.k .nil)),
 oM 5 (.mv kF)] [4,5] .ret) (.skip))) (sq [oV 18 0,ZF 19 1 3,ZL 20 1 19,ZD 21 106 18 20,oV 17 21,ZX 22 17 0,ZX 23 17 1,oS 4 3 22] [0,3,6] (.ops [oM 24 (.mvo 6),ZM 25 4 3,oM 26 (.mks 32 4 [.t 25]),oM 27 (.app 32 4 80 24 (.t 26)),oM 6 (.mvo 27)] [0,3,6]))))))) (sq [oV 28 6,oV 4 28,oM 5 (.mv kT)] [4,5] (.ret))))
def G9:List RV:=[.t 4 false,.t 5 false]
theorem k47:aP G.tab Tryz.f47 2 c47 G9=true:=by kernel_rfl
def LK:Cd:=sq [ZB 3 32 1] [0,3] (sq [oV 9 0,ZF 10 0 3,ZL 11 1 10,ZK 12 9,ZF 13 0 12,ZF 14 0 13,oS 1 14 11] [0,3] (.seq (sq [ZF 15 2 3,ZL 16 1 15,ZN 17 16,oI 18 0] [0,3,16,17,18] (.block 0 (.loop (sq [Yl 19 18 17] [0,3,16,17,18,19] (.seq (.cond (.t 19) .skip (.exit 0)) (.seq (.block 1 (sq [ZI 20 5 16 18,ZM 21 5 20,oM 5 (.new 74 zz6),oS 5 5 21] [0,3,5,16,17,18] (.ops [oV 22 0,oV 23 0,ZK 24 23,
 ZF 25 4 24,ZL 26 1 25,oV 27 26,oH 28 27 (.mv (.t 0)),oH 29 27 (zK 28),oH 30 27 (zF 0 29),oH 31 27 (zF 2 30),oH 32 27 (zL 1 31),oH 33 27 (.mkfn 151 [.t 5]),oH 34 27 (zD 150 32 33),ZP 35 27 34,ZK 36 22,ZF 37 4 36,oS 1 37 35] [0,3,16,17,18]))) (.ops [Wa 38 18 1,oV 18 38] [0,3,16,17,18]))))))) (.seq (.drawa [oV 39 0,oV 40 0,ZK 41 40,ZF 42 0 41,ZF 43 2 42,oM 44 (.ldo (.t 43)),ZF 45 2 3,ZL 46 1 45,
 oM 47 (.app 74 5 48 44 (.t 46)),ZK 48 39,ZF 49 0 48,ZF 50 2 49,⟨none,.stoo (.t 50) 47,none⟩] [0,3]) (sq [ZF 51 3 3,ZL 52 1 51,ZN 53 52,oI 54 0] [0,52,53,54] (.block 2 (.loop (sq [Yl 55 54 53] [0,52,53,54,55] (.seq (.cond (.t 55) .skip (.exit 2)) (.seq (.block 3 (sq [ZI 56 2 52 54,ZM 57 2 56,oM 7 (.new 46 zV),oS 2 7 57] [0,7,52,53,54] (sq [ZF 58 1 7,ZL 59 1 58,ZC 60 152 59,ZF 61 1 7,
 oS 1 61 60] [0,7,52,53,54] (sq [oV 62 0,ZK 63 62,ZF 64 0 63,ZF 65 3 64,ZL 66 1 65,oM 67 (.mkfn 153 [.t 7]),ZD 68 148 66 67,oV 8 68] [0,7,8,52,53,54] (sq [oV 69 8,Wh 70 69 0] [0,7,8,52,53,54,70] (.cond (.t 70) (.draws [oV 71 0,ZK 72 71,ZF 73 0 72,ZF 74 3 73,ZL 75 1 74,oV 76 8,ZM 77 2 7,ZI 78 2 75 76,oS 2 78 77] [0,52,53,54]) (.drawt ⟨87,46,40,zV,84,(.t 86)⟩ [oV 79 0,oV 80 0,ZK 81 80,ZF 82 0 81,
 ZF 83 3 82,ZL 84 1 83,ZM 85 2 7,oM 86 (.mks 46 2 [.t 85])] [ZK 88 79,ZF 89 0 88,ZF 90 3 89,oS 1 90 87] [0,52,53,54]))))))) (.ops [Wa 91 54 1,oV 54 91] [0,52,53,54]))))))))))
def Ma:List RV:=[]
theorem Ou:aP G.tab Tryz.f108 2 LK Ma=true:=by kernel_rfl
def KB:Cd:=sq [ZB 2 74 0,oM 3 (.mv kF)] [1,2] (sq [ZF 4 0 2,ZL 5 1 4,ZF 6 0 1,ZL 7 1 6,Ye 8 5 7,oV 3 8] [3] .ret)
def Kr:List RV:=[.t 3 false]
theorem Ov:aP G.tab Tryz.f151 2 KB Kr=true:=by kernel_rfl
def JH:Cd:=sq [ZB 2 46 0,oM 3 (.mv kF)] [1,2] (sq [ZF 4 0 2,ZL 5 1 4,ZF 6 0 1,ZL 7 1 6,Ye 8 5 7,oV 3 8] [3] .ret)
def JZ:List RV:=[.t 3 false]
theorem Nc:aP G.tab Tryz.f153 2 JH JZ=true:=by kernel_rfl
def JM:Cd:=sq [oM 2 (.mv (.k .nil))] [0] (sq [oM 3 (.nilo 54 12)] [0,3] (.seq (sq [oV 6 0,ZN 7 6,oI 8 0] [3,6,7,8] (.block 0 (.loop (sq [Yl 9 8 7] [3,6,7,8,9] (.seq (.cond (.t 9) .skip (.exit 0)) (.seq (.block 1 (sq [ZI 10 12 6 8,ZM 11 12 10,oM 5 (.new 54 zz1),oS 12 5 11] [3,5,6,7,8] (sq [ZF 12 1 5,ZM 13 4 12,ZC 14 203 13,ZF 15 1 5,oS 4 15 14] [3,5,6,7,8] (sq [ZF 16 7 5,ZL 17 1 16,ZC 18 204 17,
 ZF 19 7 5,oS 1 19 18] [3,5,6,7,8] (.seq (.drawg [(ZF 20 8 5,.free 0),(ZL 21 1 20,.calm 0 0),(ZC 22 152 21,.calm 0 0),(ZF 23 9 5,.free 0),(ZL 24 1 23,.calm 0 0),(ZC 25 152 24,.calm 0 0),(ZF 26 8 5,.free 0),(oS 1 26 22,.act),(ZF 27 9 5,.free 1),(oS 1 27 25,.act)] [3,5,6,7,8]) (.seq (.drawg [(ZF 28 10 5,.free 0),(ZL 29 1 28,.calm 0 0),(ZC 30 123 29,.calm 0 0),(ZF 31 11 5,.free 0),(ZL 32 1 31,
 .calm 0 0),(ZC 33 123 32,.calm 0 0),(ZF 34 10 5,.free 0),(oS 1 34 30,.act),(ZF 35 11 5,.free 1),(oS 1 35 33,.act)] [3,5,6,7,8]) (.ops [oM 36 (.mvo 3),ZM 37 12 5,oM 38 (.mks 54 12 [.t 37]),oM 39 (.app 54 12 216 36 (.t 38)),oM 3 (.mvo 39)] [3,6,7,8]))))))) (.ops [Wa 40 8 1,oV 8 40] [3,6,7,8]))))))) (sq [oV 41 3,oV 2 41] [2] .ret)))
def Lq:List RV:=[.t 2 false]
theorem NL:aP G.tab Tryz.f152 1 JM Lq=true:=by kernel_rfl
def Mo:Cd:=sq [ZB 1 50 0,oM 2 (.new 50 zz0)] [1,2] (sq [oM 3 (.nilo 50 4)] [1,2,3] (.seq (sq [ZF 6 3 1,ZL 7 1 6,ZN 8 7,oI 9 0] [1,2,3,7,8,9] (.block 0 (.loop (sq [Yl 10 9 8] [1,2,3,7,8,9,10] (.seq (.cond (.t 10) .skip (.exit 0)) (.seq (.block 1 (sq [ZI 11 4 7 9,ZM 12 4 11,oM 5 (.new 50 zz0),oS 4 5 12] [1,2,3,5,7,8,9] (.ops [oM 13 (.mvo 3),ZM 14 4 5,ZC 15 203 14,oM 16 (.mks 50 4 [.t 15]),
 oM 17 (.app 50 4 56 13 (.t 16)),oM 3 (.mvo 17)] [1,2,3,7,8,9]))) (.ops [Wa 18 9 1,oV 9 18] [1,2,3,7,8,9]))))))) (sq [oV 19 3,ZF 20 3 1,oS 1 20 19] [1,2] (sq [ZM 21 4 1,oS 4 2 21] [2] .ret))))
def GU:List RV:=[.c 2 4 true]
theorem NY:aP G.tab Tryz.f203 1 Mo GU=true:=by kernel_rfl
def Mf:Cd:=sq [ZB 1 32 0,oM 2 (.mv (kS ⟨#[]⟩))] [1] (sq [ZF 3 0 1,ZL 4 1 3,oV 2 4] [2] .ret)
def LR:List RV:=[.t 2 false]
theorem Om:aP G.tab Tryz.f105 1 Mf LR=true:=by kernel_rfl
def J3:Cd:=sq [oM 4 (.mv kF)] [0,1] (.seq (sq [oV 7 0,ZN 8 7,oI 9 0] [0,1,8,9] (.block 0 (.loop (sq [Yl 10 9 8] [0,1,8,9,10] (.seq (.cond (.t 10) .skip (.exit 0)) (.seq (.block 1 (sq [oV 11 9,oV 5 11] [0,1,5,8,9] (sq [oV 12 5,oI 13 0] [0,1,5,8,9,12,13] (.block 2 (.loop (sq [Yl 14 13 12] [0,1,5,8,9,12,13,14] (.seq (.cond (.t 14) .skip (.exit 2)) (.seq (.block 3 (sq [oV 15 13,oV 6 15] [0,1,5,6,8,
 9,12,13] (.seq (.draw [oV 16 1,oV 17 0,oV 18 5,ZI 19 4 17 18,ZM 20 4 19,oM 21 (.callv (.t 16) [.t 20]),oV 22 1,oV 23 0,oV 24 6,ZI 25 4 23 24,ZM 26 4 25,oM 27 (.callv (.t 22) [.t 26]),Ye 28 21 27] [0,1,5,8,9,12,13,28]) (.cond (.t 28) (sq [oM 4 (.mv kT)] [4] .ret) .skip)))) (.ops [Wa 29 13 1,oV 13 29] [0,1,5,8,9,12,13]))))))))) (.ops [Wa 30 9 1,oV 9 30] [0,1,8,
 9]))))))) (sq [oM 4 (.mv kF)] [4] .ret))
def Km:List RV:=[.t 4 false]
theorem NW:aP G.tab Tryz.f104 2 J3 Km=true:=by kernel_rfl
def K2:Cd:=sq [oM 4 (.mv kF)] [0,1] (sq [oV 5 0,oV 6 1,ZD 7 202 5 6,Wh 8 7 0,oV 4 8] [4] .ret)
def Kt:List RV:=[.t 4 false]
theorem OL:aP G.tab Tryz.f150 2 K2 Kt=true:=by kernel_rfl
def Ke:Cd:=sq [oI 4 0] [0,1] (.seq (sq [oV 6 0,ZN 7 6,oI 8 0] [0,1,7,8] (.block 0 (.loop (sq [Yl 9 8 7] [0,1,7,8,9] (.seq (.cond (.t 9) .skip (.exit 0)) (.seq (.block 1 (sq [oV 10 8,oV 5 10] [0,1,5,7,8] (sq [oV 11 1,oV 12 0,oV 13 5,ZI 14 5 12 13,ZM 15 5 14,oM 16 (.callv (.t 11) [.t 15])] [0,1,5,7,8,16] (.cond (.t 16) (sq [oV 17 5,oV 4 17] [4] .ret) .skip)))) (.ops [Wa 18 8 1,oV 8 18] [0,1,7,
 8]))))))) (.seq (.ops [oI 4 (-1)] [4]) .ret))
def MS:List RV:=[.t 4 false]
theorem Nh:aP G.tab Tryz.f202 2 Ke MS=true:=by kernel_rfl
end Go.Proofs.YtnhphlmblenapaaGreatDoor
